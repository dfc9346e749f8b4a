/- A part of the proof: an evaluator of the model, its laws, and contracts of functions; no condition. -/
import Derived.Test.YtjhhommnkaemlaaGreatEvG
set_option linter.unusedVariables false
set_option linter.unusedSimpArgs false
set_option linter.deprecated false
namespace Go.Ev
open Go Go.RowKit
theorem Vs {P : Program} (a : Value) (l : List Value) (w : World) : xt P (.tuple (a :: l).toArray) 0 w = some (a, w) := RR (a :: l) 0 rfl w
theorem Vt {P : Program} (a b : Value) (l : List Value) (w : World) : xt P (.tuple (a :: b :: l).toArray) 1 w = some (b, w) := RR (a :: b :: l) 1 rfl w
theorem Vu {P : Program} (a b c : Value) (l : List Value) (w : World) : xt P (.tuple (a :: b :: c :: l).toArray) 2 w = some (c, w) := RR (a :: b :: c :: l) 2 rfl w
theorem Ae.post {R : Type} {x : Option R} {Q : R → Prop} (h : ∀ Q' : R → Prop, (∀ r, Q r → Q' r) → Ae x Q') : Ae x Q := h Q fun _ h => h
theorem JX (e : Env) (d : Nat) (v : Value) (l : List (Nat × Value)) (n : Nat) : AJ e ((d, v) :: l) n = AJ (P9 e d v) l n := rfl
theorem LO (e : Env) (n : Nat) : AJ e [] n = e n := rfl
theorem O5 (e : Env) (d : Nat) (v : Value) : P9 e d v d = v := by unfold P9; rw [Nat.beq_refl]; rfl
theorem Nu (e : Env) {d n : Nat} (v : Value) (h : n ≠ d) : P9 e d v n = e n := by
 unfold P9
 rw [show Nat.beq n d = false from Bool.eq_false_iff.2 fun hh => h (Nat.eq_of_beq_eq_true hh)]
 rfl
theorem O6 (a : Value) (l : List Value) : AM (a :: l).toArray 0 = a := rfl
theorem O7 (a : Value) (l : List Value) (n : Nat) : AM (a :: l).toArray (n + 1) = AM l.toArray n := rfl
def Bg (cur : List Value) (o : Nat) (cs : List Value) : List Value := AG cur o cs
theorem Gi {cur cs : List Value} {o : Nat} (h : o + cs.length ≤ cur.length) : (Bg cur o cs).length = cur.length := by
 unfold Bg
 rw [Aa]
 simp only [List.length_append, List.length_take, List.length_drop]
 omega
theorem LP {cur cs : List Value} {o : Nat} (h : o + cs.length ≤ cur.length) (i : Nat) : (Bg cur o cs)[i]? = if o ≤ i ∧ i < o + cs.length then cs[i - o]? else cur[i]? := by
 unfold Bg
 rw [Aa]
 have q : (cur.take o).length = o := by rw [List.length_take]; omega
 rcases Nat.lt_or_ge i o with hi | hi
 ·rw [List.getElem?_append_left (by omega), List.getElem?_take, if_pos hi, if_neg (by omega)]
 ·rw [List.getElem?_append_right (by omega), q]
  rcases Nat.lt_or_ge (i - o) cs.length with h2 | h2
  ·rw [List.getElem?_append_left h2, if_pos (by omega)]
  ·rw [List.getElem?_append_right h2, List.getElem?_drop, if_neg (by omega)]
   congr 1
   omega
theorem He {cur cs : List Value} {o j : Nat} (hj : j < cs.length) (h : o + cs.length ≤ cur.length) : nth (Bg cur o cs) (o + j) = nth cs j := by
 rw [← BG, LP h, if_pos (by omega), ← BG]
 congr 1
 omega
theorem Nv {cur cs : List Value} {o : Nat} (hj : 0 < cs.length) (h : o + cs.length ≤ cur.length) : nth (Bg cur o cs) o = nth cs 0 := He (j := 0) hj h
theorem Nw {cur cs : List Value} {o j k : Nat} (hj : j + k < cs.length) (h : o + cs.length ≤ cur.length) : nth (Bg cur o cs) (o + j + k) = nth cs (j + k) := by rw [Nat.add_assoc]; exact He hj h
theorem PT {cur cs : List Value} {o : Nat} (h : o + cs.length ≤ cur.length) : (AG cur o cs).length = cur.length := Gi h
theorem CS {cur cs vs : List Value} {o j : Nat} (hj : j + vs.length ≤ cs.length) (h : o + cs.length ≤ cur.length) : AG (Bg cur o cs) (o + j) vs = Bg cur o (AG cs j vs) := by
 apply List.ext_getElem?
 intro i
 have e1 := PT hj
 rw [Gv (by rw [Gi h]; omega), LP h, LP (by rw [e1]; exact h), Gv hj, e1]
 by_cases c1 : o + j ≤ i ∧ i < o + j + vs.length
 ·rw [if_pos c1, if_pos (by omega), if_pos (by omega)]
  congr 1
  omega
 ·rw [if_neg c1]
  by_cases c2 : o ≤ i ∧ i < o + cs.length
  ·rw [if_pos c2, if_pos c2, if_neg (by omega)]
  ·rw [if_neg c2, if_neg c2]
theorem I9 {cur cs vs : List Value} {o : Nat} (hj : 0 + vs.length ≤ cs.length) (h : o + cs.length ≤ cur.length) : AG (Bg cur o cs) o vs = Bg cur o (AG cs 0 vs) := CS (j := 0) hj h
theorem Ja {cur cs vs : List Value} {o j k : Nat} (hj : j + k + vs.length ≤ cs.length) (h : o + cs.length ≤ cur.length) : AG (Bg cur o cs) (o + j + k) vs = Bg cur o (AG cs (j + k) vs) := by rw [Nat.add_assoc]; exact CS hj h
theorem O8 (x v : Value) (cs vs : List Value) : AG (x :: cs) 0 (v :: vs) = v :: AG cs 0 vs := by simp [AG]
theorem O9 (cs : List Value) : AG cs 0 [] = cs := by simp [AG]
theorem Pa (x : Value) (cs vs : List Value) (j : Nat) : AG (x :: cs) (j + 1) vs = x :: AG cs j vs := by
 simp only [AG, List.take_succ_cons, List.cons_append, show j + 1 + vs.length = (j + vs.length) + 1 by omega, List.drop_succ_cons]
theorem Ny {cur cs : List Value} {o n : Nat} (h : (cur.drop o).take n = cs) : Bg cur o cs = cur := by
 have e : cs ++ cur.drop (o + cs.length) = cur.drop o := by
  rw [← List.drop_drop, ← h]
  generalize cur.drop o = l
  rcases Nat.le_total n l.length with hn | hn
  ·rw [List.length_take, Nat.min_eq_left hn, List.take_append_drop]
  ·rw [List.take_of_length_le hn, List.drop_length, List.append_nil]
 unfold Bg
 rw [Aa, e, List.take_append_drop]
 class One (v : Value) : Prop where
 h : v.cells.toList = [v] ∧ v.oneCell' = true
instance {k : IntKind} {n : Int} : One (.int k n) := ⟨by rfl, by rfl⟩
instance {b : Bool} : One (.bool b) := ⟨by rfl, by rfl⟩
instance {b : ByteArray} : One (.string b) := ⟨by rfl, by rfl⟩
instance {a : Option Addr} {n c : Nat} : One (.slice a n c) := ⟨by rfl, by rfl⟩
instance {a : Option Addr} : One (.pointer a) := ⟨by rfl, by rfl⟩
instance {a : Option Nat} : One (.map a) := ⟨by rfl, by rfl⟩
section
variable {P : Program} {t b o j k : Nat} {w : World} {cur cs vs : List Value} {e : TypeId} {v : Value}
theorem Qo [One v] {x : Value} (h : o + 1 ≤ (x :: cs).length) : GK P t 1 b o v w (some (.cells (x :: cs).toArray e (0, 0))) = some (undef, w.setRow b (AG (x :: cs) o [v]).toArray) := by
 obtain ⟨h1, h2⟩ := One.h (v := v)
 have h3 : v.cells.size = 1 := by rw [← Array.length_toList, h1]; rfl
 rw [Ab, if_pos ⟨h3, by simpa using h, by rw [h1]; simp [h2]⟩, h1]
theorem Pb {x : Value} {n : Nat} (hn : vs.length = n) (hv : vs.all Value.oneCell' = true) (h : o + vs.length ≤ (x :: cs).length) : GK P t n b o (.agg vs.toArray) w (some (.cells (x :: cs).toArray e (0, 0))) = some (undef, w.setRow b (AG (x :: cs) o vs).toArray) := by
 rw [Ab, JM, if_pos ⟨by simpa using hn, by rw [← hn]; simpa using h, by simpa using hv⟩]
theorem Kv [One v] (hj : j + 1 ≤ cs.length) (h : o + cs.length ≤ cur.length) : GK P t 1 b (o + j) v w (some (.cells (Bg cur o cs).toArray e (0, 0))) = some (undef, w.setRow b (Bg cur o (AG cs j [v])).toArray) := by
 obtain ⟨h1, h2⟩ := One.h (v := v)
 have h3 : v.cells.size = 1 := by rw [← Array.length_toList, h1]; rfl
 rw [Ab, if_pos ⟨h3, by rw [List.size_toArray, Gi h]; omega, by rw [h1]; simp [h2]⟩, h1, List.toList_toArray, CS (by simpa using hj) h]
theorem Pc [One v] (hj : 0 + 1 ≤ cs.length) (h : o + cs.length ≤ cur.length) : GK P t 1 b o v w (some (.cells (Bg cur o cs).toArray e (0, 0))) = some (undef, w.setRow b (Bg cur o (AG cs 0 [v])).toArray) := Kv (j := 0) hj h
theorem Pd [One v] (hj : j + k + 1 ≤ cs.length) (h : o + cs.length ≤ cur.length) : GK P t 1 b (o + j + k) v w (some (.cells (Bg cur o cs).toArray e (0, 0))) = some (undef, w.setRow b (Bg cur o (AG cs (j + k) [v])).toArray) := by rw [Nat.add_assoc]; exact Kv hj h
theorem LQ {n : Nat} (hn : vs.length = n) (hv : vs.all Value.oneCell' = true) (hj : j + vs.length ≤ cs.length) (h : o + cs.length ≤ cur.length) : GK P t n b (o + j) (.agg vs.toArray) w (some (.cells (Bg cur o cs).toArray e (0, 0))) = some (undef, w.setRow b (Bg cur o (AG cs j vs)).toArray) := by
 rw [Ab, JM, if_pos ⟨by simpa using hn, by rw [List.size_toArray, Gi h]; omega, by simpa using hv⟩, List.toList_toArray, List.toList_toArray, CS hj h]
theorem Nz {n : Nat} (hn : vs.length = n) (hv : vs.all Value.oneCell' = true) (hj : 0 + vs.length ≤ cs.length) (h : o + cs.length ≤ cur.length) : GK P t n b o (.agg vs.toArray) w (some (.cells (Bg cur o cs).toArray e (0, 0))) = some (undef, w.setRow b (Bg cur o (AG cs 0 vs)).toArray) := LQ (j := 0) hn hv hj h
end
theorem wrap_small {x : Int} (h0 : 0 ≤ x) (h1 : x ≤ 9000000000000000000) : IntKind.i64.wrap x = x := Ks (by omega) (by omega)
theorem Mod.al {S : Nat → Prop} {a b : World} (h : Mod S a b) (o : Obj) : Mod S a (b.alloc o) := h.tr (Mod.alloc S b o)
theorem Mod.SF {S : Nat → Prop} {a b : World} (h : Mod S a b) : Mod S a (Go.Ev.dw b) := h.tr (Mod.dw S b)
theorem Mod.ex {S : Nat → Prop} {a b c : World} (h : Mod S a b) (k : Ext b c) : Mod S a c := h.tr (Mod.of k S)
theorem Mod.AK {S : Nat → Prop} {a b : World} (h : Mod S a b) {k : Nat} (hk : a.heap.size ≤ k ∨ S k) (cs : Array Value) : Mod S a (b.setRow k cs) :=
 Mod.AV h (Mod.set b k cs) fun x hx he => by subst he; rcases hk with hk | hk; exact absurd hx (by omega); exact hk
section
variable {α : Type} {L : Lay α} {S : Nat → Prop} {w : World} {E mx : Nat}
theorem O.row {a : Option Addr} {n c : Nat} {xs : List α} (h : O (AN E mx L) S w [.slice a n c] xs) (h0 : 0 < L.n) {i : Nat} {x : α} (hi : xs[i]? = some x) :
  ∃ g cur cs S1, a = some ⟨g, 0, none⟩ ∧ S g ∧ g < w.heap.size ∧ hp w g = some (.cells (Bg cur (i * L.n) cs).toArray E (0, 0)) ∧ i * L.n + L.n ≤ cur.length ∧ O L S1 w cs x ∧ (∀ b, S1 b → S b ∧ b ≠ g ∧ b < w.heap.size) ∧
   ∀ (w' : World) (cs' : List Value) (x' : α) (S2 : Nat → Prop), O L S2 w' cs' x' → hp w' g = some (.cells (Bg cur (i * L.n) cs').toArray E (0, 0)) → (∀ b, b < w.heap.size → S b → b ≠ g → ¬ S1 b → hp w' b = hp w b) →
    (∀ b, b < w'.heap.size → S2 b → S1 b ∨ ¬ (b < w.heap.size ∧ S b)) → O (AN E mx L) (fun b => S b ∨ S2 b) w' [.slice a n c] (xs.set i x') := by
 obtain ⟨g, cur, cs, S1, h1, h2, h3, h4, h5, h6, h7, h8, h9, h10⟩ := h.elem h0 hi
 refine ⟨g, cur.toList, cs, S1, h1, h2, h3, ?_, by rw [Nat.succ_mul] at h5; simpa using h5, h8, h9, h10⟩
 rw [Ny h6, h4]
end
structure Mk (α : Type) where
 of ::
 mk : Int → α → α
 nx : Int → α → Int
 wt : α → Nat
 le : ∀ k a, k ≤ nx k a
section
variable {α : Type} {M : Mk α}
end
abbrev GF (E : TypeId) : Lay (List Tag) := AN E 8796093021952 Eu
def Kl (E : TypeId) : Lay Ver := LN (BB GJ (BB Eu (BB (GF E) (BB Ti LBool)))) fun v => (v.key, v.tag, v.past, v.text, v.gone)
abbrev EP (E F : TypeId) : Lay (List Ver) := AN F 1954687338211 (Kl E)
structure CNode where
 store : List Ver
 wait : List Ver
def Jb (E F : TypeId) : Lay CNode := LN (BB (EP E F) (EP E F)) fun v => (v.store, v.wait)
abbrev LR (E F N : TypeId) : Lay (List CNode) := AN N 2932031007317 (Jb E F)
section
variable {S : Nat → Prop} {w : World} {cs : List Value} {E F N : TypeId}
theorem Bs : (Kl E).n = 6 := rfl
theorem DK : Eu.n = 2 := rfl
theorem Bb : (Jb E F).n = 2 := rfl
theorem D.BT {v : Ver} : D (Kl E) S w cs v ↔ ∃ a c, cs = [i64 v.key, i64 v.tag.t, i64 v.tag.p, .slice a v.past.length c, .string v.text, .bool v.gone] ∧ D (GF E) S w [.slice a v.past.length c] v.past ∧ v.text.size ≤ 140737488351232 := by
 unfold Kl
 rw [D.map]
 simp only [D.pair, D.int, D.tag, D.str, D.bool]
 constructor
 ·rintro ⟨c1, d1, rfl, rfl, c2, d2, rfl, rfl, c3, d3, rfl, h3, c4, d4, rfl, ⟨rfl, h4⟩, rfl⟩
  obtain ⟨a, c, rfl, h⟩ := h3.Gm
  exact ⟨a, c, rfl, h, h4⟩
 ·rintro ⟨a, c, rfl, h3, h4⟩
  exact ⟨[_], _, rfl, rfl, [_, _], _, rfl, rfl, [_], _, rfl, h3, [_], _, rfl, ⟨rfl, h4⟩, rfl⟩
theorem O.BT {v : Ver} : O (Kl E) S w cs v ↔ ∃ a c, cs = [i64 v.key, i64 v.tag.t, i64 v.tag.p, .slice a v.past.length c, .string v.text, .bool v.gone] ∧ O (GF E) S w [.slice a v.past.length c] v.past ∧ v.text.size ≤ 140737488351232 := by
 constructor
 ·intro h
  unfold Kl at h
  rw [O.map] at h
  obtain ⟨bs, ⟨c1, d1, b1, e1, rfl, ⟨rfl, rfl⟩, ⟨c2, d2, b2, e2, rfl, ⟨rfl, rfl⟩, ⟨c3, d3, b3, e3, rfl, h3, ⟨c4, d4, b4, e4, rfl, ⟨rfl, h4, rfl⟩, ⟨rfl, rfl⟩, rfl⟩, rfl⟩, rfl⟩, rfl⟩, hn, hS⟩ := h
  simp only [List.nil_append, List.append_nil] at hn hS
  obtain ⟨a, c, rfl, h⟩ := O.Gm (L := Eu) (E := E) (mx := 8796093021952) (S := S) (w := w) ⟨b3, h3, hn, hS⟩
  exact ⟨a, c, rfl, h, h4⟩
 ·rintro ⟨a, c, rfl, ⟨bs, h1, hn, hS⟩, h4⟩
  refine ⟨bs, ?_, hn, hS⟩
  exact ⟨[_], _, [], bs, rfl, ⟨rfl, rfl⟩, ⟨[_, _], _, [], bs, rfl, ⟨rfl, rfl⟩, ⟨[_], _, bs, [], rfl, h1, ⟨[_], _, [], [], rfl, ⟨rfl, h4, rfl⟩, ⟨rfl, rfl⟩, rfl⟩, by simp⟩, rfl⟩, rfl⟩
theorem D.node {v : CNode} : D (Jb E F) S w cs v ↔ ∃ a c a' c', cs = [.slice a v.store.length c, .slice a' v.wait.length c'] ∧ D (EP E F) S w [.slice a v.store.length c] v.store ∧ D (EP E F) S w [.slice a' v.wait.length c'] v.wait := by
 unfold Jb
 rw [D.map]
 simp only [D.pair]
 constructor
 ·rintro ⟨c1, d1, rfl, h1, h2⟩
  obtain ⟨a, c, rfl, h⟩ := h1.Gm
  obtain ⟨a', c', rfl, h'⟩ := h2.Gm
  exact ⟨a, c, a', c', rfl, h, h'⟩
 ·rintro ⟨a, c, a', c', rfl, h3, h4⟩
  exact ⟨[_], [_], rfl, h3, h4⟩
theorem O.FD {v : CNode} {S1 S2 : Nat → Prop} {s t : Value} (h1 : O (EP E F) S1 w [s] v.store) (h2 : O (EP E F) S2 w [t] v.wait) (hd : ∀ b, b < w.heap.size → S1 b → ¬ S2 b) : O (Jb E F) (fun b => S1 b ∨ S2 b) w [s, t] v := by
 unfold Jb; rw [O.map]; exact O.pair (p := (v.store, v.wait)) h1 h2 hd
theorem O.Kw {v : CNode} (h : O (Jb E F) S w cs v) : ∃ a c a' c' S1 S2, cs = [.slice a v.store.length c, .slice a' v.wait.length c'] ∧ O (EP E F) S1 w [.slice a v.store.length c] v.store ∧ O (EP E F) S2 w [.slice a' v.wait.length c'] v.wait ∧
  (∀ b, S1 b → S b ∧ ¬ S2 b ∧ b < w.heap.size) ∧ (∀ b, S2 b → S b ∧ ¬ S1 b ∧ b < w.heap.size) := by
 unfold Jb at h
 rw [O.map] at h
 obtain ⟨c, d, S1, S2, rfl, h1, h2, h3, h4⟩ := h.CO
 obtain ⟨a, c, rfl, k1⟩ := h1.Gm
 obtain ⟨a', c', rfl, k2⟩ := h2.Gm
 exact ⟨a, c, a', c', S1, S2, rfl, k1, k2, h3, h4⟩
theorem D.A0 {s : Value} {ts : List Tag} (h : D (GF E) S w [s] ts) : A0 w s ts := by
 obtain ⟨bs, ⟨s', css, bss, he, h3, hm, h1, _⟩, _⟩ := h
 obtain rfl : s = s' := by simpa using he
 have : ∀ {css : List (List Value)} {ts : List Tag} {bss : List (List Nat)}, Bc (Eu.lay false w) css ts bss → css.flatten = CP ts := by
  intro css ts bss h
  refine Bc.ind (M := fun css ts _ => css.flatten = CP ts) rfl ?_ h
  intro a l b m c n h1 _ ih
  rw [List.flatten_cons, ih, Lg, h1.1]
 rw [this h3] at h1
 exact ⟨h1, hm⟩
theorem D.NZ {v : Ver} (h : D (Kl E) S w cs v) : NZ w cs v := by
 obtain ⟨a, c, rfl, h1, h2⟩ := D.BT.1 h
 exact ⟨_, rfl, h1.A0, h2⟩
theorem D.IQ {s : Value} {vs : List Ver} (h : D (EP E F) S w [s] vs) : IQ w s vs := by
 obtain ⟨bs, ⟨s', css, bss, he, h3, hm, h1, _⟩, _⟩ := h
 obtain rfl : s = s' := by simpa using he
 refine ⟨css, h1, ?_, hm⟩
 have : ∀ {css : List (List Value)} {ts : List Ver} {bss : List (List Nat)}, Bc ((Kl E).lay false w) css ts bss → BS (Go.Ev.NZ w) css ts := by
  intro css ts bss h
  refine Bc.ind (M := fun css ts _ => BS (Go.Ev.NZ w) css ts) trivial ?_ h
  intro a l b m c n h1 _ ih
  exact ⟨D.NZ (S := fun _ => True) ⟨c, h1, fun _ _ => trivial⟩, ih⟩
 exact this h3
theorem Pe (o : Bool) : ∀ ts : List Tag, Bc (Eu.lay o w) (ts.map Kg) ts (ts.map fun _ => [])
 | [] => trivial
 | t :: ts => ⟨⟨rfl, rfl⟩, Pe o ts⟩
theorem Qp (ts : List Tag) : (ts.map fun _ => ([] : List Nat)).flatten = [] := by induction ts <;> simp_all
theorem On {s : Value} {ts : List Tag} {B : Nat} (h : Bw E B w s ts) : O (GF E) (In B w.heap.size) w [s] ts := by
 refine ⟨(Av s).toList ++ (ts.map fun _ => []).flatten, ⟨s, ts.map Kg, ts.map fun _ => [], rfl, Pe _ ts, h.2, h.1.from (Nat.zero_le _), rfl⟩, ?_, fun b hb => ?_⟩
 ·rw [Qp, List.append_nil]; cases Av s <;> simp
 ·rw [Qp, List.append_nil] at hb; exact h.lt b hb
end
end Go.Ev
