/- A part of the proof: an evaluator of the model, its laws, and contracts of functions; no condition. -/
import Derived.Test.YtligcpabhddggaaEvG
set_option linter.unusedVariables false
set_option linter.unusedSimpArgs false
namespace Go.Ev
open Go Go.RowKit
theorem xt_a {P : Program} (a : Value) (l : List Value) (w : World) : xt P (.tuple (a :: l).toArray) 0 w = some (a, w) := xt_eq (a :: l) 0 rfl w
theorem xt_b {P : Program} (a b : Value) (l : List Value) (w : World) : xt P (.tuple (a :: b :: l).toArray) 1 w = some (b, w) := xt_eq (a :: b :: l) 1 rfl w
theorem xt_c {P : Program} (a b c : Value) (l : List Value) (w : World) : xt P (.tuple (a :: b :: c :: l).toArray) 2 w = some (c, w) := xt_eq (a :: b :: c :: l) 2 rfl w
theorem Ret.post {R : Type} {x : Option R} {Q : R → Prop} (h : ∀ Q' : R → Prop, (∀ r, Q r → Q' r) → Ret x Q') : Ret x Q := h Q fun _ h => h
/-! ### What stands in temporaries -/
theorem ups_ap_cons (e : Env) (d : Nat) (v : Value) (l : List (Nat × Value)) (n : Nat) : ups e ((d, v) :: l) n = ups (upd e d v) l n := rfl
theorem ups_ap_nil (e : Env) (n : Nat) : ups e [] n = e n := rfl
theorem upd_same (e : Env) (d : Nat) (v : Value) : upd e d v d = v := by unfold upd; rw [Nat.beq_refl]; rfl
theorem upd_other (e : Env) {d n : Nat} (v : Value) (h : n ≠ d) : upd e d v n = e n := by
  unfold upd
  rw [show Nat.beq n d = false from Bool.eq_false_iff.2 fun hh => h (Nat.eq_of_beq_eq_true hh)]
  rfl
theorem env0_ap0 (a : Value) (l : List Value) : env0 (a :: l).toArray 0 = a := rfl
theorem env0_aps (a : Value) (l : List Value) (n : Nat) : env0 (a :: l).toArray (n + 1) = env0 l.toArray n := rfl
/-! ### A row, seen at one element -/
def rowv (cur : List Value) (o : Nat) (cs : List Value) : List Value := splice cur o cs
theorem rowv_len {cur cs : List Value} {o : Nat} (h : o + cs.length ≤ cur.length) : (rowv cur o cs).length = cur.length := by
  unfold rowv
  rw [splice_eq]
  simp only [List.length_append, List.length_take, List.length_drop]
  omega
theorem rowv_get {cur cs : List Value} {o : Nat} (h : o + cs.length ≤ cur.length) (i : Nat) : (rowv cur o cs)[i]? = if o ≤ i ∧ i < o + cs.length then cs[i - o]? else cur[i]? := by
  unfold rowv
  rw [splice_eq]
  have q : (cur.take o).length = o := by rw [List.length_take]; omega
  rcases Nat.lt_or_ge i o with hi | hi
  · rw [List.getElem?_append_left (by omega), List.getElem?_take, if_pos hi, if_neg (by omega)]
  · rw [List.getElem?_append_right (by omega), q]
    rcases Nat.lt_or_ge (i - o) cs.length with h2 | h2
    · rw [List.getElem?_append_left h2, if_pos (by omega)]
    · rw [List.getElem?_append_right h2, List.getElem?_drop, if_neg (by omega)]
      congr 1
      omega
theorem nth_rowv {cur cs : List Value} {o j : Nat} (hj : j < cs.length) (h : o + cs.length ≤ cur.length) : nth (rowv cur o cs) (o + j) = nth cs j := by
  rw [← nth_eq, rowv_get h, if_pos (by omega), ← nth_eq]
  congr 1
  omega
theorem nth_rowv0 {cur cs : List Value} {o : Nat} (hj : 0 < cs.length) (h : o + cs.length ≤ cur.length) : nth (rowv cur o cs) o = nth cs 0 := nth_rowv (j := 0) hj h
theorem nth_rowv1 {cur cs : List Value} {o j k : Nat} (hj : j + k < cs.length) (h : o + cs.length ≤ cur.length) : nth (rowv cur o cs) (o + j + k) = nth cs (j + k) := by rw [Nat.add_assoc]; exact nth_rowv hj h
theorem splice_len {cur cs : List Value} {o : Nat} (h : o + cs.length ≤ cur.length) : (splice cur o cs).length = cur.length := rowv_len h
theorem splice_rowv {cur cs vs : List Value} {o j : Nat} (hj : j + vs.length ≤ cs.length) (h : o + cs.length ≤ cur.length) : splice (rowv cur o cs) (o + j) vs = rowv cur o (splice cs j vs) := by
  apply List.ext_getElem?
  intro i
  have e1 := splice_len hj
  rw [splice_get (by rw [rowv_len h]; omega), rowv_get h, rowv_get (by rw [e1]; exact h), splice_get hj, e1]
  by_cases c1 : o + j ≤ i ∧ i < o + j + vs.length
  · rw [if_pos c1, if_pos (by omega), if_pos (by omega)]
    congr 1
    omega
  · rw [if_neg c1]
    by_cases c2 : o ≤ i ∧ i < o + cs.length
    · rw [if_pos c2, if_pos c2, if_neg (by omega)]
    · rw [if_neg c2, if_neg c2]
theorem splice_rowv0 {cur cs vs : List Value} {o : Nat} (hj : 0 + vs.length ≤ cs.length) (h : o + cs.length ≤ cur.length) : splice (rowv cur o cs) o vs = rowv cur o (splice cs 0 vs) := splice_rowv (j := 0) hj h
theorem splice_rowv1 {cur cs vs : List Value} {o j k : Nat} (hj : j + k + vs.length ≤ cs.length) (h : o + cs.length ≤ cur.length) : splice (rowv cur o cs) (o + j + k) vs = rowv cur o (splice cs (j + k) vs) := by rw [Nat.add_assoc]; exact splice_rowv hj h
theorem splice_z (x v : Value) (cs vs : List Value) : splice (x :: cs) 0 (v :: vs) = v :: splice cs 0 vs := by simp [splice]
theorem splice_n (cs : List Value) : splice cs 0 [] = cs := by simp [splice]
theorem splice_s (x : Value) (cs vs : List Value) (j : Nat) : splice (x :: cs) (j + 1) vs = x :: splice cs j vs := by
  simp only [splice, List.take_succ_cons, List.cons_append, show j + 1 + vs.length = (j + vs.length) + 1 by omega, List.drop_succ_cons]
theorem rowv_self {cur cs : List Value} {o n : Nat} (h : (cur.drop o).take n = cs) : rowv cur o cs = cur := by
  have e : cs ++ cur.drop (o + cs.length) = cur.drop o := by
    rw [← List.drop_drop, ← h]
    generalize cur.drop o = l
    rcases Nat.le_total n l.length with hn | hn
    · rw [List.length_take, Nat.min_eq_left hn, List.take_append_drop]
    · rw [List.take_of_length_le hn, List.drop_length, List.append_nil]
  unfold rowv
  rw [splice_eq, e, List.take_append_drop]
 class One (v : Value) : Prop where
  h : v.cells.toList = [v] ∧ v.oneCell' = true
instance {k : IntKind} {n : Int} : One (.int k n) := ⟨by rfl, by rfl⟩
instance {b : Bool} : One (.bool b) := ⟨by rfl, by rfl⟩
instance {b : ByteArray} : One (.string b) := ⟨by rfl, by rfl⟩
instance {a : Option Addr} {n c : Nat} : One (.slice a n c) := ⟨by rfl, by rfl⟩
instance {a : Option Addr} : One (.pointer a) := ⟨by rfl, by rfl⟩
instance {a : Option Nat} : One (.map a) := ⟨by rfl, by rfl⟩
section
variable {P : Program} {t b o j k : Nat} {w : World} {cur cs vs : List Value} {e : TypeId} {v : Value}
theorem stR_box [One v] {x : Value} (h : o + 1 ≤ (x :: cs).length) : stR P t 1 b o v w (some (.cells (x :: cs).toArray e (0, 0))) = some (undef, w.setRow b (splice (x :: cs) o [v]).toArray) := by
  obtain ⟨h1, h2⟩ := One.h (v := v)
  have h3 : v.cells.size = 1 := by rw [← Array.length_toList, h1]; rfl
  rw [stR_cells, if_pos ⟨h3, by simpa using h, by rw [h1]; simp [h2]⟩, h1]
theorem stR_boxA {x : Value} {n : Nat} (hn : vs.length = n) (hv : vs.all Value.oneCell' = true) (h : o + vs.length ≤ (x :: cs).length) : stR P t n b o (.agg vs.toArray) w (some (.cells (x :: cs).toArray e (0, 0))) = some (undef, w.setRow b (splice (x :: cs) o vs).toArray) := by
  rw [stR_cells, cells_agg, if_pos ⟨by simpa using hn, by rw [← hn]; simpa using h, by simpa using hv⟩]
theorem stR_row [One v] (hj : j + 1 ≤ cs.length) (h : o + cs.length ≤ cur.length) : stR P t 1 b (o + j) v w (some (.cells (rowv cur o cs).toArray e (0, 0))) = some (undef, w.setRow b (rowv cur o (splice cs j [v])).toArray) := by
  obtain ⟨h1, h2⟩ := One.h (v := v)
  have h3 : v.cells.size = 1 := by rw [← Array.length_toList, h1]; rfl
  rw [stR_cells, if_pos ⟨h3, by rw [List.size_toArray, rowv_len h]; omega, by rw [h1]; simp [h2]⟩, h1, List.toList_toArray, splice_rowv (by simpa using hj) h]
theorem stR_row0 [One v] (hj : 0 + 1 ≤ cs.length) (h : o + cs.length ≤ cur.length) : stR P t 1 b o v w (some (.cells (rowv cur o cs).toArray e (0, 0))) = some (undef, w.setRow b (rowv cur o (splice cs 0 [v])).toArray) := stR_row (j := 0) hj h
theorem stR_row1 [One v] (hj : j + k + 1 ≤ cs.length) (h : o + cs.length ≤ cur.length) : stR P t 1 b (o + j + k) v w (some (.cells (rowv cur o cs).toArray e (0, 0))) = some (undef, w.setRow b (rowv cur o (splice cs (j + k) [v])).toArray) := by rw [Nat.add_assoc]; exact stR_row hj h
theorem stR_rowA {n : Nat} (hn : vs.length = n) (hv : vs.all Value.oneCell' = true) (hj : j + vs.length ≤ cs.length) (h : o + cs.length ≤ cur.length) : stR P t n b (o + j) (.agg vs.toArray) w (some (.cells (rowv cur o cs).toArray e (0, 0))) = some (undef, w.setRow b (rowv cur o (splice cs j vs)).toArray) := by
  rw [stR_cells, cells_agg, if_pos ⟨by simpa using hn, by rw [List.size_toArray, rowv_len h]; omega, by simpa using hv⟩, List.toList_toArray, List.toList_toArray, splice_rowv hj h]
theorem stR_rowA0 {n : Nat} (hn : vs.length = n) (hv : vs.all Value.oneCell' = true) (hj : 0 + vs.length ≤ cs.length) (h : o + cs.length ≤ cur.length) : stR P t n b o (.agg vs.toArray) w (some (.cells (rowv cur o cs).toArray e (0, 0))) = some (undef, w.setRow b (rowv cur o (splice cs 0 vs)).toArray) := stR_rowA (j := 0) hn hv hj h
end
theorem wrap_small {x : Int} (h0 : 0 ≤ x) (h1 : x ≤ 9000000000000000000) : IntKind.i64.wrap x = x := w64 (by omega) (by omega)
theorem Mod.al {S : Nat → Prop} {a b : World} (h : Mod S a b) (o : Obj) : Mod S a (b.alloc o) := h.tr (Mod.alloc S b o)
theorem Mod.ex {S : Nat → Prop} {a b c : World} (h : Mod S a b) (k : Ext b c) : Mod S a c := h.tr (Mod.of k S)
theorem Mod.set' {S : Nat → Prop} {a b : World} (h : Mod S a b) {k : Nat} (hk : a.heap.size ≤ k ∨ S k) (cs : Array Value) : Mod S a (b.setRow k cs) :=
  Mod.after' h (Mod.set b k cs) fun x hx he => by subst he; rcases hk with hk | hk; exact absurd hx (by omega); exact hk
section
variable {α : Type} {L : Lay α} {S : Nat → Prop} {w : World} {E mx : Nat}
/-- Element i of an owned row, taken out; and put back, changed. -/
theorem O.row {a : Option Addr} {n c : Nat} {xs : List α} (h : O (LList E mx L) S w [.slice a n c] xs) (h0 : 0 < L.n) {i : Nat} {x : α} (hi : xs[i]? = some x) :
    ∃ g cur cs S1, a = some ⟨g, 0, none⟩ ∧ S g ∧ g < w.heap.size ∧ hp w g = some (.cells (rowv cur (i * L.n) cs).toArray E (0, 0)) ∧ i * L.n + L.n ≤ cur.length ∧ O L S1 w cs x ∧ (∀ b, S1 b → S b ∧ b ≠ g ∧ b < w.heap.size) ∧
      ∀ (w' : World) (cs' : List Value) (x' : α) (S2 : Nat → Prop), O L S2 w' cs' x' → hp w' g = some (.cells (rowv cur (i * L.n) cs').toArray E (0, 0)) → (∀ b, b < w.heap.size → S b → b ≠ g → ¬ S1 b → hp w' b = hp w b) →
        (∀ b, b < w'.heap.size → S2 b → S1 b ∨ ¬ (b < w.heap.size ∧ S b)) → O (LList E mx L) (fun b => S b ∨ S2 b) w' [.slice a n c] (xs.set i x') := by
  obtain ⟨g, cur, cs, S1, h1, h2, h3, h4, h5, h6, h7, h8, h9, h10⟩ := h.elem h0 hi
  refine ⟨g, cur.toList, cs, S1, h1, h2, h3, ?_, by rw [Nat.succ_mul] at h5; simpa using h5, h8, h9, h10⟩
  rw [rowv_self h6, h4]
end
def cellsO (ob : Option Obj) : Nat → Nat → Option (List Value)
  | _, 0 => some []
  | o, n + 1 => consO (cellO ob o) (cellsO ob (o + 1) n)
theorem cellsO_zero (ob : Option Obj) (o : Nat) : cellsO ob o 0 = some [] := by cases ob <;> rfl
theorem cellsO_succ (ob : Option Obj) (o n : Nat) : cellsO ob o (n + 1) = consO (cellO ob o) (cellsO ob (o + 1) n) := by cases ob <;> rfl
theorem cellsAt_hp (w : World) (b o n : Nat) : cellsAt w b o n = cellsO (hp w b) o n := by
  induction n generalizing o with
  | zero => rw [cellsAt_zero, cellsO_zero]
  | succ n ih => rw [cellsAt_succ, cellsO_succ, ih]
theorem At.q {w : World} {b o n : Nat} {cs : List Value} (h : At w b o cs) (hn : cs.length = n) : cellsO (hp w b) o n = some cs := by rw [← cellsAt_hp, ← hn]; exact h.cells
/-! ### Marks -/
/-- How a datum is marked: what it becomes, the next number; and how much it weighs. -/
structure Mk (α : Type) where
  of ::
  mk : Int → α → α
  nx : Int → α → Int
  wt : α → Nat
  le : ∀ k a, k ≤ nx k a
def Mk.mkL {α : Type} (M : Mk α) : Int → List α → List α
  | _, [] => []
  | k, a :: l => M.mk k a :: M.mkL (M.nx k a) l
def Mk.nxL {α : Type} (M : Mk α) : Int → List α → Int
  | k, [] => k
  | k, a :: l => M.nxL (M.nx k a) l
def Mk.wtL {α : Type} (M : Mk α) : List α → Nat
  | [] => 0
  | a :: l => 1 + M.wt a + M.wtL l
section
variable {α : Type} {M : Mk α}
theorem Mk.mkL_length : ∀ (k : Int) (l : List α), (M.mkL k l).length = l.length
  | _, [] => rfl
  | k, a :: l => by simp [Mk.mkL, Mk.mkL_length]
theorem Mk.nxL_le : ∀ (l : List α) (k : Int), k ≤ M.nxL k l
  | [], k => Int.le_refl k
  | a :: l, k => Int.le_trans (M.le k a) (Mk.nxL_le l _)
/-- The number at which element j begins. -/
def Mk.at (M : Mk α) (k : Int) (l : List α) (j : Nat) : Int := M.nxL k (l.take j)
theorem Mk.at_zero (k : Int) (l : List α) : M.at k l 0 = k := by simp [Mk.at, Mk.nxL]
theorem Mk.at_end {k : Int} {l : List α} {j : Nat} (h : l.length ≤ j) : M.at k l j = M.nxL k l := by rw [Mk.at, List.take_of_length_le h]
theorem Mk.nxL_app : ∀ (a b : List α) (k : Int), M.nxL k (a ++ b) = M.nxL (M.nxL k a) b
  | [], b, k => rfl
  | x :: a, b, k => by simp only [List.cons_append, Mk.nxL]; exact Mk.nxL_app a b _
theorem Mk.at_succ {k : Int} {l : List α} {j : Nat} {x : α} (h : l[j]? = some x) : M.at k l (j + 1) = M.nx (M.at k l j) x := by
  simp only [Mk.at]
  rw [take_at h, Mk.nxL_app]; rfl
theorem Mk.mkL_get : ∀ (l : List α) (k : Int) (j : Nat) {x : α}, l[j]? = some x → (M.mkL k l)[j]? = some (M.mk (M.at k l j) x)
  | a :: l, k, 0, x, h => by
    simp only [List.getElem?_cons_zero, Option.some.injEq] at h
    subst h
    simp [Mk.mkL, Mk.at, Mk.nxL]
  | a :: l, k, j + 1, x, h => by
    have := Mk.mkL_get l (M.nx k a) j (x := x) (by simpa using h)
    simp only [Mk.mkL, List.getElem?_cons_succ, this, Mk.at, List.take_succ_cons, Mk.nxL]
  | [], _, j, x, h => by simp at h
/-- What is marked up to j, and what is not yet. -/
def Mk.part (M : Mk α) (k : Int) (l : List α) (j : Nat) : List α := (M.mkL k l).take j ++ l.drop j
theorem Mk.part_zero (k : Int) (l : List α) : M.part k l 0 = l := by simp [Mk.part]
theorem Mk.part_end {k : Int} {l : List α} {j : Nat} (h : l.length ≤ j) : M.part k l j = M.mkL k l := by
  rw [Mk.part, List.take_of_length_le (by rw [Mk.mkL_length]; exact h), List.drop_eq_nil_of_le h, List.append_nil]
theorem Mk.part_get {k : Int} {l : List α} {j : Nat} {x : α} (h : l[j]? = some x) : (M.part k l j)[j]? = some x := by
  have hj := (List.getElem?_eq_some_iff.1 h).1
  rw [Mk.part, List.getElem?_append_right (by rw [List.length_take, Mk.mkL_length]; omega), List.length_take, Mk.mkL_length, List.getElem?_drop, ← h]
  congr 1; omega
theorem Mk.part_set {k : Int} {l : List α} {j : Nat} {x : α} (h : l[j]? = some x) : (M.part k l j).set j (M.mk (M.at k l j) x) = M.part k l (j + 1) := by
  have hj : j < l.length := (List.getElem?_eq_some_iff.1 h).1
  obtain ⟨y, hy, hdx⟩ := drop_at hj
  have hl : ((M.mkL k l).take j).length = j := by rw [List.length_take, Mk.mkL_length]; omega
  unfold Mk.part
  rw [take_at (Mk.mkL_get l k j h), hdx, List.set_append_right _ _ (by omega), hl, Nat.sub_self, List.set_cons_zero, List.append_assoc]; rfl
theorem Mk.wtL_take : ∀ (l : List α) (j : Nat), M.wtL (l.take j) ≤ M.wtL l
  | [], j => by simp
  | a :: l, 0 => by simp [Mk.wtL]
  | a :: l, j + 1 => by have := Mk.wtL_take l j; simp only [List.take_succ_cons, Mk.wtL]; omega
theorem Mk.wtL_at {l : List α} {j : Nat} {x : α} (h : l[j]? = some x) : M.wtL (l.take j) + 1 + M.wt x ≤ M.wtL l := by
  induction l generalizing j with
  | nil => simp at h
  | cons a l ih =>
    cases j with
    | zero => simp only [List.getElem?_cons_zero, Option.some.injEq] at h; subst h; simp only [List.take_zero, Mk.wtL]; omega
    | succ j => have := ih (j := j) (by simpa using h); simp only [List.take_succ_cons, Mk.wtL]; omega
/-- The numbers are no more than ten a weight. -/
def Mk.Small (M : Mk α) : Prop := ∀ k a, M.nx k a ≤ k + 10 * (1 + M.wt a)
theorem Mk.nxL_small (h : M.Small) : ∀ (l : List α) (k : Int), M.nxL k l ≤ k + 10 * M.wtL l
  | [], k => by simp [Mk.nxL, Mk.wtL]
  | a :: l, k => by
    have := Mk.nxL_small h l (M.nx k a)
    have := h k a
    simp only [Mk.nxL, Mk.wtL]; omega
def Mk.list (M : Mk α) : Mk (List α) := ⟨M.mkL, M.nxL, M.wtL, fun k l => Mk.nxL_le l k⟩
theorem Mk.at_room (h : M.Small) {l : List α} {j : Nat} {x : α} (hx : l[j]? = some x) (k : Int) : M.at k l j + 10 * (1 + M.wt x) ≤ k + 10 * M.wtL l := by
  have h1 := Mk.nxL_small h (l.take j) k
  have h2 := Mk.wtL_at (M := M) hx
  simp only [Mk.at]
  omega
theorem Mk.at_small (h : M.Small) (l : List α) (k : Int) (j : Nat) : k ≤ M.at k l j ∧ M.at k l j ≤ k + 10 * M.wtL l := by
  have h1 := Mk.nxL_small h (l.take j) k
  have h2 := Mk.wtL_take (M := M) l j
  have h3 := Mk.nxL_le (M := M) (l.take j) k
  simp only [Mk.at]
  omega
end
/-! ### This program's data -/
abbrev LTags (E : TypeId) : Lay (List Tag) := LList E 8796093021952 LTag
def LVer (E : TypeId) : Lay Ver := LMap (LPair LInt (LPair LTag (LPair (LTags E) (LPair LStr LBool)))) fun v => (v.key, v.tag, v.past, v.text, v.gone)
abbrev LVers (E F : TypeId) : Lay (List Ver) := LList F 1954687338211 (LVer E)
structure CNode where
  store : List Ver
  wait : List Ver
def LNode (E F : TypeId) : Lay CNode := LMap (LPair (LVers E F) (LVers E F)) fun v => (v.store, v.wait)
abbrev LNodes (E F N : TypeId) : Lay (List CNode) := LList N 2932031007317 (LNode E F)
section
variable {S : Nat → Prop} {w : World} {cs : List Value} {E F N : TypeId}
theorem LVer_n : (LVer E).n = 6 := rfl
theorem LTag_n : LTag.n = 2 := rfl
theorem LNode_n : (LNode E F).n = 2 := rfl
theorem D.ver {v : Ver} : D (LVer E) S w cs v ↔ ∃ a c, cs = [i64 v.key, i64 v.tag.t, i64 v.tag.p, .slice a v.past.length c, .string v.text, .bool v.gone] ∧ D (LTags E) S w [.slice a v.past.length c] v.past ∧ v.text.size ≤ 140737488351232 := by
  unfold LVer
  rw [D.map]
  simp only [D.pair, D.int, D.tag, D.str, D.bool]
  constructor
  · rintro ⟨c1, d1, rfl, rfl, c2, d2, rfl, rfl, c3, d3, rfl, h3, c4, d4, rfl, ⟨rfl, h4⟩, rfl⟩
    obtain ⟨a, c, rfl, h⟩ := h3.sl'
    exact ⟨a, c, rfl, h, h4⟩
  · rintro ⟨a, c, rfl, h3, h4⟩
    exact ⟨[_], _, rfl, rfl, [_, _], _, rfl, rfl, [_], _, rfl, h3, [_], _, rfl, ⟨rfl, h4⟩, rfl⟩
theorem O.ver {v : Ver} : O (LVer E) S w cs v ↔ ∃ a c, cs = [i64 v.key, i64 v.tag.t, i64 v.tag.p, .slice a v.past.length c, .string v.text, .bool v.gone] ∧ O (LTags E) S w [.slice a v.past.length c] v.past ∧ v.text.size ≤ 140737488351232 := by
  constructor
  · intro h
    unfold LVer at h
    rw [O.map] at h
    obtain ⟨bs, ⟨c1, d1, b1, e1, rfl, ⟨rfl, rfl⟩, ⟨c2, d2, b2, e2, rfl, ⟨rfl, rfl⟩, ⟨c3, d3, b3, e3, rfl, h3, ⟨c4, d4, b4, e4, rfl, ⟨rfl, h4, rfl⟩, ⟨rfl, rfl⟩, rfl⟩, rfl⟩, rfl⟩, rfl⟩, hn, hS⟩ := h
    simp only [List.nil_append, List.append_nil] at hn hS
    obtain ⟨a, c, rfl, h⟩ := O.sl' (L := LTag) (E := E) (mx := 8796093021952) (S := S) (w := w) ⟨b3, h3, hn, hS⟩
    exact ⟨a, c, rfl, h, h4⟩
  · rintro ⟨a, c, rfl, ⟨bs, h1, hn, hS⟩, h4⟩
    refine ⟨bs, ?_, hn, hS⟩
    exact ⟨[_], _, [], bs, rfl, ⟨rfl, rfl⟩, ⟨[_, _], _, [], bs, rfl, ⟨rfl, rfl⟩, ⟨[_], _, bs, [], rfl, h1, ⟨[_], _, [], [], rfl, ⟨rfl, h4, rfl⟩, ⟨rfl, rfl⟩, rfl⟩, by simp⟩, rfl⟩, rfl⟩
theorem D.node {v : CNode} : D (LNode E F) S w cs v ↔ ∃ a c a' c', cs = [.slice a v.store.length c, .slice a' v.wait.length c'] ∧ D (LVers E F) S w [.slice a v.store.length c] v.store ∧ D (LVers E F) S w [.slice a' v.wait.length c'] v.wait := by
  unfold LNode
  rw [D.map]
  simp only [D.pair]
  constructor
  · rintro ⟨c1, d1, rfl, h1, h2⟩
    obtain ⟨a, c, rfl, h⟩ := h1.sl'
    obtain ⟨a', c', rfl, h'⟩ := h2.sl'
    exact ⟨a, c, a', c', rfl, h, h'⟩
  · rintro ⟨a, c, a', c', rfl, h3, h4⟩
    exact ⟨[_], [_], rfl, h3, h4⟩
theorem O.node_mk {v : CNode} {S1 S2 : Nat → Prop} {s t : Value} (h1 : O (LVers E F) S1 w [s] v.store) (h2 : O (LVers E F) S2 w [t] v.wait) (hd : ∀ b, b < w.heap.size → S1 b → ¬ S2 b) : O (LNode E F) (fun b => S1 b ∨ S2 b) w [s, t] v := by
  unfold LNode; rw [O.map]; exact O.pair (p := (v.store, v.wait)) h1 h2 hd
theorem O.node_un {v : CNode} (h : O (LNode E F) S w cs v) : ∃ a c a' c' S1 S2, cs = [.slice a v.store.length c, .slice a' v.wait.length c'] ∧ O (LVers E F) S1 w [.slice a v.store.length c] v.store ∧ O (LVers E F) S2 w [.slice a' v.wait.length c'] v.wait ∧
    (∀ b, S1 b → S b ∧ ¬ S2 b ∧ b < w.heap.size) ∧ (∀ b, S2 b → S b ∧ ¬ S1 b ∧ b < w.heap.size) := by
  unfold LNode at h
  rw [O.map] at h
  obtain ⟨c, d, S1, S2, rfl, h1, h2, h3, h4⟩ := h.unpair
  obtain ⟨a, c, rfl, k1⟩ := h1.sl'
  obtain ⟨a', c', rfl, k2⟩ := h2.sl'
  exact ⟨a, c, a', c', S1, S2, rfl, k1, k2, h3, h4⟩
theorem D.rTags {s : Value} {ts : List Tag} (h : D (LTags E) S w [s] ts) : rTags w s ts := by
  obtain ⟨bs, ⟨s', css, bss, he, h3, hm, h1, _⟩, _⟩ := h
  obtain rfl : s = s' := by simpa using he
  have : ∀ {css : List (List Value)} {ts : List Tag} {bss : List (List Nat)}, All3 (LTag.lay false w) css ts bss → css.flatten = tagCs ts := by
    intro css ts bss h
    refine All3.ind (M := fun css ts _ => css.flatten = tagCs ts) rfl ?_ h
    intro a l b m c n h1 _ ih
    rw [List.flatten_cons, ih, tagCs_cons, h1.1]
  rw [this h3] at h1
  exact ⟨h1, hm⟩
theorem D.rVer {v : Ver} (h : D (LVer E) S w cs v) : rVer w cs v := by
  obtain ⟨a, c, rfl, h1, h2⟩ := D.ver.1 h
  exact ⟨_, rfl, h1.rTags, h2⟩
theorem D.rVers {s : Value} {vs : List Ver} (h : D (LVers E F) S w [s] vs) : rVers w s vs := by
  obtain ⟨bs, ⟨s', css, bss, he, h3, hm, h1, _⟩, _⟩ := h
  obtain rfl : s = s' := by simpa using he
  refine ⟨css, h1, ?_, hm⟩
  have : ∀ {css : List (List Value)} {ts : List Ver} {bss : List (List Nat)}, All3 ((LVer E).lay false w) css ts bss → All2 (Go.Ev.rVer w) css ts := by
    intro css ts bss h
    refine All3.ind (M := fun css ts _ => All2 (Go.Ev.rVer w) css ts) trivial ?_ h
    intro a l b m c n h1 _ ih
    exact ⟨D.rVer (S := fun _ => True) ⟨c, h1, fun _ _ => trivial⟩, ih⟩
  exact this h3
end
end Go.Ev
