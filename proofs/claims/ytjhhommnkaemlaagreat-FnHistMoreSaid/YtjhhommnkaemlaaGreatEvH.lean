/- A part of the proof, without conditions. -/
import Derived.Test.YtjhhommnkaemlaaGreatEvG
set_option linter.unusedVariables false
set_option linter.unusedSimpArgs false
set_option linter.deprecated false
namespace Go.Ev
open Go Go.RowKit
theorem VD {P : Program} (a : Value) (l : List Value) (w : World) : xt P (.tuple (a :: l).toArray) 0 w = some (a, w) := R7 (a :: l) 0 rfl w
theorem VE {P : Program} (a b : Value) (l : List Value) (w : World) : xt P (.tuple (a :: b :: l).toArray) 1 w = some (b, w) := R7 (a :: b :: l) 1 rfl w
theorem VF {P : Program} (a b c : Value) (l : List Value) (w : World) : xt P (.tuple (a :: b :: c :: l).toArray) 2 w = some (c, w) := R7 (a :: b :: c :: l) 2 rfl w
theorem Ae.post {R : Type} {x : Option R} {Q : R → Prop} (h : ∀ Q' : R → Prop, (∀ r, Q r → Q' r) → Ae x Q') : Ae x Q := h Q fun _ h => h
theorem JZ (e : Env) (d : Nat) (v : Value) (l : List (Nat × Value)) (n : Nat) : AK e ((d, v) :: l) n = AK (Qa e d v) l n := rfl
theorem LS (e : Env) (n : Nat) : AK e [] n = e n := rfl
theorem O8 (e : Env) (d : Nat) (v : Value) : Qa e d v d = v := by unfold Qa; rw [Nat.beq_refl]; rfl
theorem NA (e : Env) {d n : Nat} (v : Value) (h : n ≠ d) : Qa e d v n = e n := by
 unfold Qa
 rw [show Nat.beq n d = false from Bool.eq_false_iff.2 fun hh => h (Nat.eq_of_beq_eq_true hh)]
 rfl
theorem O9 (a : Value) (l : List Value) : AN (a :: l).toArray 0 = a := rfl
theorem Pa (a : Value) (l : List Value) (n : Nat) : AN (a :: l).toArray (n + 1) = AN l.toArray n := rfl
def Bh (cur : List Value) (o : Nat) (cs : List Value) : List Value := AH cur o cs
theorem Gh {cur cs : List Value} {o : Nat} (h : o + cs.length ≤ cur.length) : (Bh cur o cs).length = cur.length := by
 unfold Bh
 rw [Aa]
 simp only [List.length_append, List.length_take, List.length_drop]
 omega
theorem LU {cur cs : List Value} {o : Nat} (h : o + cs.length ≤ cur.length) (i : Nat) : (Bh cur o cs)[i]? = if o ≤ i ∧ i < o + cs.length then cs[i - o]? else cur[i]? := by
 unfold Bh
 rw [Aa]
 have q : (cur.take o).length = o := by rw [List.length_take]; omega
 rcases Nat.lt_or_ge i o with hi | hi
 ·rw [List.getElem?_append_left (by omega), List.getElem?_take, if_pos hi, if_neg (by omega)]
 ·rw [List.getElem?_append_right (by omega), q]
  rcases Nat.lt_or_ge (i - o) cs.length with h2 | h2
  ·rw [List.getElem?_append_left h2, if_pos (by omega)]
  ·rw [List.getElem?_append_right h2, List.getElem?_drop, if_neg (by omega)]
   congr 1
   omega
theorem Hc {cur cs : List Value} {o j : Nat} (hj : j < cs.length) (h : o + cs.length ≤ cur.length) : nth (Bh cur o cs) (o + j) = nth cs j := by
 rw [← BQ, LU h, if_pos (by omega), ← BQ]
 congr 1
 omega
theorem NC {cur cs : List Value} {o : Nat} (hj : 0 < cs.length) (h : o + cs.length ≤ cur.length) : nth (Bh cur o cs) o = nth cs 0 := Hc (j := 0) hj h
theorem ND {cur cs : List Value} {o j k : Nat} (hj : j + k < cs.length) (h : o + cs.length ≤ cur.length) : nth (Bh cur o cs) (o + j + k) = nth cs (j + k) := by rw [Nat.add_assoc]; exact Hc hj h
theorem PU {cur cs : List Value} {o : Nat} (h : o + cs.length ≤ cur.length) : (AH cur o cs).length = cur.length := Gh h
theorem CR {cur cs vs : List Value} {o j : Nat} (hj : j + vs.length ≤ cs.length) (h : o + cs.length ≤ cur.length) : AH (Bh cur o cs) (o + j) vs = Bh cur o (AH cs j vs) := by
 apply List.ext_getElem?
 intro i
 have e1 := PU hj
 rw [Gv (by rw [Gh h]; omega), LU h, LU (by rw [e1]; exact h), Gv hj, e1]
 by_cases c1 : o + j ≤ i ∧ i < o + j + vs.length
 ·rw [if_pos c1, if_pos (by omega), if_pos (by omega)]
  congr 1
  omega
 ·rw [if_neg c1]
  by_cases c2 : o ≤ i ∧ i < o + cs.length
  ·rw [if_pos c2, if_pos c2, if_neg (by omega)]
  ·rw [if_neg c2, if_neg c2]
theorem Ja {cur cs vs : List Value} {o : Nat} (hj : 0 + vs.length ≤ cs.length) (h : o + cs.length ≤ cur.length) : AH (Bh cur o cs) o vs = Bh cur o (AH cs 0 vs) := CR (j := 0) hj h
theorem Jb {cur cs vs : List Value} {o j k : Nat} (hj : j + k + vs.length ≤ cs.length) (h : o + cs.length ≤ cur.length) : AH (Bh cur o cs) (o + j + k) vs = Bh cur o (AH cs (j + k) vs) := by rw [Nat.add_assoc]; exact CR hj h
theorem Pb (x v : Value) (cs vs : List Value) : AH (x :: cs) 0 (v :: vs) = v :: AH cs 0 vs := by simp [AH]
theorem Pc (cs : List Value) : AH cs 0 [] = cs := by simp [AH]
theorem Pd (x : Value) (cs vs : List Value) (j : Nat) : AH (x :: cs) (j + 1) vs = x :: AH cs j vs := by
 simp only [AH, List.take_succ_cons, List.cons_append, show j + 1 + vs.length = (j + vs.length) + 1 by omega, List.drop_succ_cons]
theorem NF {cur cs : List Value} {o n : Nat} (h : (cur.drop o).take n = cs) : Bh cur o cs = cur := by
 have e : cs ++ cur.drop (o + cs.length) = cur.drop o := by
  rw [← List.drop_drop, ← h]
  generalize cur.drop o = l
  rcases Nat.le_total n l.length with hn | hn
  ·rw [List.length_take, Nat.min_eq_left hn, List.take_append_drop]
  ·rw [List.take_of_length_le hn, List.drop_length, List.append_nil]
 unfold Bh
 rw [Aa, e, List.take_append_drop]
 class One (v : Value) : Prop where
 h : v.cells.toList = [v] ∧ v.oneCell' = true
instance {k : IntKind} {n : Int} : One (.int k n) := ⟨by rfl, by rfl⟩
instance {b : Bool} : One (.bool b) := ⟨by rfl, by rfl⟩
instance {b : ByteArray} : One (.string b) := ⟨by rfl, by rfl⟩
instance {a : Option Addr} {n c : Nat} : One (.slice a n c) := ⟨by rfl, by rfl⟩
instance {a : Option Addr} : One (.pointer a) := ⟨by rfl, by rfl⟩
instance {a : Option Nat} : One (.map a) := ⟨by rfl, by rfl⟩
section
variable {P : Program} {t b o j k : Nat} {w : World} {cur cs vs : List Value} {e : TypeId} {v : Value}
theorem Qp [One v] {x : Value} (h : o + 1 ≤ (x :: cs).length) : GJ P t 1 b o v w (some (.cells (x :: cs).toArray e (0, 0))) = some (undef, w.setRow b (AH (x :: cs) o [v]).toArray) := by
 obtain ⟨h1, h2⟩ := One.h (v := v)
 have h3 : v.cells.size = 1 := by rw [← Array.length_toList, h1]; rfl
 rw [Ab, if_pos ⟨h3, by simpa using h, by rw [h1]; simp [h2]⟩, h1]
theorem Pe {x : Value} {n : Nat} (hn : vs.length = n) (hv : vs.all Value.oneCell' = true) (h : o + vs.length ≤ (x :: cs).length) : GJ P t n b o (.agg vs.toArray) w (some (.cells (x :: cs).toArray e (0, 0))) = some (undef, w.setRow b (AH (x :: cs) o vs).toArray) := by
 rw [Ab, JO, if_pos ⟨by simpa using hn, by rw [← hn]; simpa using h, by simpa using hv⟩]
theorem Ky [One v] (hj : j + 1 ≤ cs.length) (h : o + cs.length ≤ cur.length) : GJ P t 1 b (o + j) v w (some (.cells (Bh cur o cs).toArray e (0, 0))) = some (undef, w.setRow b (Bh cur o (AH cs j [v])).toArray) := by
 obtain ⟨h1, h2⟩ := One.h (v := v)
 have h3 : v.cells.size = 1 := by rw [← Array.length_toList, h1]; rfl
 rw [Ab, if_pos ⟨h3, by rw [List.size_toArray, Gh h]; omega, by rw [h1]; simp [h2]⟩, h1, List.toList_toArray, CR (by simpa using hj) h]
theorem Pf [One v] (hj : 0 + 1 ≤ cs.length) (h : o + cs.length ≤ cur.length) : GJ P t 1 b o v w (some (.cells (Bh cur o cs).toArray e (0, 0))) = some (undef, w.setRow b (Bh cur o (AH cs 0 [v])).toArray) := Ky (j := 0) hj h
theorem Pg [One v] (hj : j + k + 1 ≤ cs.length) (h : o + cs.length ≤ cur.length) : GJ P t 1 b (o + j + k) v w (some (.cells (Bh cur o cs).toArray e (0, 0))) = some (undef, w.setRow b (Bh cur o (AH cs (j + k) [v])).toArray) := by rw [Nat.add_assoc]; exact Ky hj h
theorem LV {n : Nat} (hn : vs.length = n) (hv : vs.all Value.oneCell' = true) (hj : j + vs.length ≤ cs.length) (h : o + cs.length ≤ cur.length) : GJ P t n b (o + j) (.agg vs.toArray) w (some (.cells (Bh cur o cs).toArray e (0, 0))) = some (undef, w.setRow b (Bh cur o (AH cs j vs)).toArray) := by
 rw [Ab, JO, if_pos ⟨by simpa using hn, by rw [List.size_toArray, Gh h]; omega, by simpa using hv⟩, List.toList_toArray, List.toList_toArray, CR hj h]
theorem NG {n : Nat} (hn : vs.length = n) (hv : vs.all Value.oneCell' = true) (hj : 0 + vs.length ≤ cs.length) (h : o + cs.length ≤ cur.length) : GJ P t n b o (.agg vs.toArray) w (some (.cells (Bh cur o cs).toArray e (0, 0))) = some (undef, w.setRow b (Bh cur o (AH cs 0 vs)).toArray) := LV (j := 0) hn hv hj h
end
theorem wrap_small {x : Int} (h0 : 0 ≤ x) (h1 : x ≤ 9000000000000000000) : IntKind.i64.wrap x = x := Kv (by omega) (by omega)
theorem Mod.al {S : Nat → Prop} {a b : World} (h : Mod S a b) (o : Obj) : Mod S a (b.alloc o) := h.tr (Mod.alloc S b o)
theorem Mod.SN {S : Nat → Prop} {a b : World} (h : Mod S a b) : Mod S a (Go.Ev.dw b) := h.tr (Mod.dw S b)
theorem Mod.ex {S : Nat → Prop} {a b c : World} (h : Mod S a b) (k : Ext b c) : Mod S a c := h.tr (Mod.of k S)
theorem Mod.AL {S : Nat → Prop} {a b : World} (h : Mod S a b) {k : Nat} (hk : a.heap.size ≤ k ∨ S k) (cs : Array Value) : Mod S a (b.setRow k cs) :=
 Mod.AW h (Mod.set b k cs) fun x hx he => by subst he; rcases hk with hk | hk; exact absurd hx (by omega); exact hk
section
variable {α : Type} {L : Lay α} {S : Nat → Prop} {w : World} {E mx : Nat}
theorem O.row {a : Option Addr} {n c : Nat} {xs : List α} (h : O (AP E mx L) S w [.slice a n c] xs) (h0 : 0 < L.n) {i : Nat} {x : α} (hi : xs[i]? = some x) :
  ∃ g cur cs S1, a = some ⟨g, 0, none⟩ ∧ S g ∧ g < w.heap.size ∧ hp w g = some (.cells (Bh cur (i * L.n) cs).toArray E (0, 0)) ∧ i * L.n + L.n ≤ cur.length ∧ O L S1 w cs x ∧ (∀ b, S1 b → S b ∧ b ≠ g ∧ b < w.heap.size) ∧
   ∀ (w' : World) (cs' : List Value) (x' : α) (S2 : Nat → Prop), O L S2 w' cs' x' → hp w' g = some (.cells (Bh cur (i * L.n) cs').toArray E (0, 0)) → (∀ b, b < w.heap.size → S b → b ≠ g → ¬ S1 b → hp w' b = hp w b) →
    (∀ b, b < w'.heap.size → S2 b → S1 b ∨ ¬ (b < w.heap.size ∧ S b)) → O (AP E mx L) (fun b => S b ∨ S2 b) w' [.slice a n c] (xs.set i x') := by
 obtain ⟨g, cur, cs, S1, h1, h2, h3, h4, h5, h6, h7, h8, h9, h10⟩ := h.elem h0 hi
 refine ⟨g, cur.toList, cs, S1, h1, h2, h3, ?_, by rw [Nat.succ_mul] at h5; simpa using h5, h8, h9, h10⟩
 rw [NF h6, h4]
end
structure Mk (α : Type) where
 of ::
 mk : Int → α → α
 nx : Int → α → Int
 wt : α → Nat
 le : ∀ k a, k ≤ nx k a
section
variable {α : Type} {M : Mk α}
end
abbrev GD (E : TypeId) : Lay (List Tag) := AP E 8796093021952 Ey
def Ko (E : TypeId) : Lay Ver := LR (BC GH (BC Ey (BC (GD E) (BC Tq LBool)))) fun v => (v.key, v.tag, v.past, v.text, v.gone)
abbrev ES (E F : TypeId) : Lay (List Ver) := AP F 1954687338211 (Ko E)
structure CNode where
 store : List Ver
 wait : List Ver
def Jc (E F : TypeId) : Lay CNode := LR (BC (ES E F) (ES E F)) fun v => (v.store, v.wait)
abbrev LW (E F N : TypeId) : Lay (List CNode) := AP N 2932031007317 (Jc E F)
section
variable {S : Nat → Prop} {w : World} {cs : List Value} {E F N : TypeId}
theorem Bw : (Ko E).n = 6 := rfl
theorem DK : Ey.n = 2 := rfl
theorem Bd : (Jc E F).n = 2 := rfl
theorem D.BV {v : Ver} : D (Ko E) S w cs v ↔ ∃ a c, cs = [i64 v.key, i64 v.tag.t, i64 v.tag.p, .slice a v.past.length c, .string v.text, .bool v.gone] ∧ D (GD E) S w [.slice a v.past.length c] v.past ∧ v.text.size ≤ 140737488351232 := by
 unfold Ko
 rw [D.map]
 simp only [D.pair, D.int, D.tag, D.str, D.bool]
 constructor
 ·rintro ⟨c1, d1, rfl, rfl, c2, d2, rfl, rfl, c3, d3, rfl, h3, c4, d4, rfl, ⟨rfl, h4⟩, rfl⟩
  obtain ⟨a, c, rfl, h⟩ := h3.Gn
  exact ⟨a, c, rfl, h, h4⟩
 ·rintro ⟨a, c, rfl, h3, h4⟩
  exact ⟨[_], _, rfl, rfl, [_, _], _, rfl, rfl, [_], _, rfl, h3, [_], _, rfl, ⟨rfl, h4⟩, rfl⟩
theorem O.BV {v : Ver} : O (Ko E) S w cs v ↔ ∃ a c, cs = [i64 v.key, i64 v.tag.t, i64 v.tag.p, .slice a v.past.length c, .string v.text, .bool v.gone] ∧ O (GD E) S w [.slice a v.past.length c] v.past ∧ v.text.size ≤ 140737488351232 := by
 constructor
 ·intro h
  unfold Ko at h
  rw [O.map] at h
  obtain ⟨bs, ⟨c1, d1, b1, e1, rfl, ⟨rfl, rfl⟩, ⟨c2, d2, b2, e2, rfl, ⟨rfl, rfl⟩, ⟨c3, d3, b3, e3, rfl, h3, ⟨c4, d4, b4, e4, rfl, ⟨rfl, h4, rfl⟩, ⟨rfl, rfl⟩, rfl⟩, rfl⟩, rfl⟩, rfl⟩, hn, hS⟩ := h
  simp only [List.nil_append, List.append_nil] at hn hS
  obtain ⟨a, c, rfl, h⟩ := O.Gn (L := Ey) (E := E) (mx := 8796093021952) (S := S) (w := w) ⟨b3, h3, hn, hS⟩
  exact ⟨a, c, rfl, h, h4⟩
 ·rintro ⟨a, c, rfl, ⟨bs, h1, hn, hS⟩, h4⟩
  refine ⟨bs, ?_, hn, hS⟩
  exact ⟨[_], _, [], bs, rfl, ⟨rfl, rfl⟩, ⟨[_, _], _, [], bs, rfl, ⟨rfl, rfl⟩, ⟨[_], _, bs, [], rfl, h1, ⟨[_], _, [], [], rfl, ⟨rfl, h4, rfl⟩, ⟨rfl, rfl⟩, rfl⟩, by simp⟩, rfl⟩, rfl⟩
theorem D.node {v : CNode} : D (Jc E F) S w cs v ↔ ∃ a c a' c', cs = [.slice a v.store.length c, .slice a' v.wait.length c'] ∧ D (ES E F) S w [.slice a v.store.length c] v.store ∧ D (ES E F) S w [.slice a' v.wait.length c'] v.wait := by
 unfold Jc
 rw [D.map]
 simp only [D.pair]
 constructor
 ·rintro ⟨c1, d1, rfl, h1, h2⟩
  obtain ⟨a, c, rfl, h⟩ := h1.Gn
  obtain ⟨a', c', rfl, h'⟩ := h2.Gn
  exact ⟨a, c, a', c', rfl, h, h'⟩
 ·rintro ⟨a, c, a', c', rfl, h3, h4⟩
  exact ⟨[_], [_], rfl, h3, h4⟩
theorem O.FC {v : CNode} {S1 S2 : Nat → Prop} {s t : Value} (h1 : O (ES E F) S1 w [s] v.store) (h2 : O (ES E F) S2 w [t] v.wait) (hd : ∀ b, b < w.heap.size → S1 b → ¬ S2 b) : O (Jc E F) (fun b => S1 b ∨ S2 b) w [s, t] v := by
 unfold Jc; rw [O.map]; exact O.pair (p := (v.store, v.wait)) h1 h2 hd
theorem O.Kz {v : CNode} (h : O (Jc E F) S w cs v) : ∃ a c a' c' S1 S2, cs = [.slice a v.store.length c, .slice a' v.wait.length c'] ∧ O (ES E F) S1 w [.slice a v.store.length c] v.store ∧ O (ES E F) S2 w [.slice a' v.wait.length c'] v.wait ∧
  (∀ b, S1 b → S b ∧ ¬ S2 b ∧ b < w.heap.size) ∧ (∀ b, S2 b → S b ∧ ¬ S1 b ∧ b < w.heap.size) := by
 unfold Jc at h
 rw [O.map] at h
 obtain ⟨c, d, S1, S2, rfl, h1, h2, h3, h4⟩ := h.CM
 obtain ⟨a, c, rfl, k1⟩ := h1.Gn
 obtain ⟨a', c', rfl, k2⟩ := h2.Gn
 exact ⟨a, c, a', c', S1, S2, rfl, k1, k2, h3, h4⟩
theorem D.A0 {s : Value} {ts : List Tag} (h : D (GD E) S w [s] ts) : A0 w s ts := by
 obtain ⟨bs, ⟨s', css, bss, he, h3, hm, h1, _⟩, _⟩ := h
 obtain rfl : s = s' := by simpa using he
 have : ∀ {css : List (List Value)} {ts : List Tag} {bss : List (List Nat)}, Bc (Ey.lay false w) css ts bss → css.flatten = CN ts := by
  intro css ts bss h
  refine Bc.ind (M := fun css ts _ => css.flatten = CN ts) rfl ?_ h
  intro a l b m c n h1 _ ih
  rw [List.flatten_cons, ih, Ll, h1.1]
 rw [this h3] at h1
 exact ⟨h1, hm⟩
theorem D.Og {v : Ver} (h : D (Ko E) S w cs v) : Og w cs v := by
 obtain ⟨a, c, rfl, h1, h2⟩ := D.BV.1 h
 exact ⟨_, rfl, h1.A0, h2⟩
theorem D.IP {s : Value} {vs : List Ver} (h : D (ES E F) S w [s] vs) : IP w s vs := by
 obtain ⟨bs, ⟨s', css, bss, he, h3, hm, h1, _⟩, _⟩ := h
 obtain rfl : s = s' := by simpa using he
 refine ⟨css, h1, ?_, hm⟩
 have : ∀ {css : List (List Value)} {ts : List Ver} {bss : List (List Nat)}, Bc ((Ko E).lay false w) css ts bss → BU (Go.Ev.Og w) css ts := by
  intro css ts bss h
  refine Bc.ind (M := fun css ts _ => BU (Go.Ev.Og w) css ts) trivial ?_ h
  intro a l b m c n h1 _ ih
  exact ⟨D.Og (S := fun _ => True) ⟨c, h1, fun _ _ => trivial⟩, ih⟩
 exact this h3
theorem Ph (o : Bool) : ∀ ts : List Tag, Bc (Ey.lay o w) (ts.map Ki) ts (ts.map fun _ => [])
 | [] => trivial
 | t :: ts => ⟨⟨rfl, rfl⟩, Ph o ts⟩
theorem Qq (ts : List Tag) : (ts.map fun _ => ([] : List Nat)).flatten = [] := by induction ts <;> simp_all
theorem Ow {s : Value} {ts : List Tag} {B : Nat} (h : Bx E B w s ts) : O (GD E) (In B w.heap.size) w [s] ts := by
 refine ⟨(Av s).toList ++ (ts.map fun _ => []).flatten, ⟨s, ts.map Ki, ts.map fun _ => [], rfl, Ph _ ts, h.2, h.1.from (Nat.zero_le _), rfl⟩, ?_, fun b hb => ?_⟩
 ·rw [Qq, List.append_nil]; cases Av s <;> simp
 ·rw [Qq, List.append_nil] at hb; exact h.lt b hb
end
end Go.Ev
