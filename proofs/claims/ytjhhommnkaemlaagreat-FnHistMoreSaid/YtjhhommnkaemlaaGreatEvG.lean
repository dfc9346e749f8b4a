/- A part of the proof, without conditions. -/
import Derived.Test.YtjhhommnkaemlaaGreatEvS
set_option linter.unusedVariables false
set_option linter.unusedSimpArgs false
set_option linter.deprecated false
namespace Go.Ev
open Go Go.RowKit
def Bc {α β γ : Type} (R : α → β → γ → Prop) : List α → List β → List γ → Prop
 | [], [], [] => True
 | a :: l, b :: m, c :: n => R a b c ∧ Bc R l m n
 | _, _, _ => False
section
variable {α β γ : Type} {R S : α → β → γ → Prop}
theorem Bc.ind {M : List α → List β → List γ → Prop} (h0 : M [] [] []) (h1 : ∀ a l b m c n, R a b c → Bc R l m n → M l m n → M (a :: l) (b :: m) (c :: n)) : ∀ {l : List α} {m : List β} {n : List γ}, Bc R l m n → M l m n
 | [], [], [], _ => h0
 | a :: l, b :: m, c :: n, h => h1 a l b m c n h.1 h.2 (Bc.ind h0 h1 h.2)
 | [], _ :: _, _, h => h.elim
 | [], [], _ :: _, h => h.elim
 | _ :: _, [], _, h => h.elim
 | _ :: _, _ :: _, [], h => h.elim
theorem Bc.length {l : List α} {m : List β} {n : List γ} (h : Bc R l m n) : l.length = m.length ∧ n.length = m.length := by
 refine Bc.ind (R := R) (M := fun l m n => l.length = m.length ∧ n.length = m.length) ⟨rfl, rfl⟩ ?_ h
 intro a l b m c n _ _ h
 simp [h.1, h.2]
theorem Bc.imp {l : List α} {m : List β} {n : List γ} (hrs : ∀ a b c, a ∈ l → b ∈ m → c ∈ n → R a b c → S a b c) (h : Bc R l m n) : Bc S l m n := by
 have : ∀ l m n, Bc R l m n → (∀ a b c, a ∈ l → b ∈ m → c ∈ n → R a b c → S a b c) → Bc S l m n := by
  intro l m n h
  refine Bc.ind (M := fun l m n => (∀ a b c, a ∈ l → b ∈ m → c ∈ n → R a b c → S a b c) → Bc S l m n) (fun _ => trivial) ?_ h
  intro a l b m c n h1 _ ih hrs
  exact ⟨hrs a b c List.mem_cons_self List.mem_cons_self List.mem_cons_self h1, ih fun x y z hx hy hz => hrs x y z (List.mem_cons_of_mem _ hx) (List.mem_cons_of_mem _ hy) (List.mem_cons_of_mem _ hz)⟩
 exact this l m n h hrs
theorem Bc.get : ∀ {l : List α} {m : List β} {n : List γ}, Bc R l m n → ∀ {i : Nat} {b : β}, m[i]? = some b → ∃ a c, l[i]? = some a ∧ n[i]? = some c ∧ R a b c
 | a :: l, b :: m, c :: n, h, 0, b', hb => by
  simp only [List.getElem?_cons_zero, Option.some.injEq] at hb; subst hb; exact ⟨a, c, rfl, rfl, h.1⟩
 | a :: l, b :: m, c :: n, h, i + 1, b', hb => by simpa using Bc.get h.2 (by simpa using hb)
 | [], [], _, _, i, b', hb => by simp at hb
 | [], _ :: _, _, h, _, _, _ => h.elim
 | _ :: _, [], _, h, _, _, _ => h.elim
 | _ :: _, _ :: _, [], h, _, _, _ => h.elim
theorem Bc.app : ∀ {l : List α} {m : List β} {n : List γ} {l' : List α} {m' : List β} {n' : List γ}, Bc R l m n → Bc R l' m' n' → Bc R (l ++ l') (m ++ m') (n ++ n')
 | [], [], [], _, _, _, _, h => h
 | a :: l, b :: m, c :: n, _, _, _, h, h' => ⟨h.1, Bc.app h.2 h'⟩
 | [], _ :: _, _, _, _, _, h, _ => h.elim
 | [], [], _ :: _, _, _, _, h, _ => h.elim
 | _ :: _, [], _, _, _, _, h, _ => h.elim
 | _ :: _, _ :: _, [], _, _, _, h, _ => h.elim
theorem Bc.take : ∀ {l : List α} {m : List β} {n : List γ} (i : Nat), Bc R l m n → Bc R (l.take i) (m.take i) (n.take i)
 | _, _, _, 0, _ => trivial
 | [], [], [], _ + 1, _ => trivial
 | _ :: _, _ :: _, _ :: _, i + 1, h => ⟨h.1, Bc.take i h.2⟩
 | [], _ :: _, _, _, h => h.elim
 | [], [], _ :: _, _, h => h.elim
 | _ :: _, [], _, _, h => h.elim
 | _ :: _, _ :: _, [], _, h => h.elim
theorem Bc.drop : ∀ {l : List α} {m : List β} {n : List γ} (i : Nat), Bc R l m n → Bc R (l.drop i) (m.drop i) (n.drop i)
 | _, _, _, 0, h => h
 | [], [], [], _ + 1, _ => trivial
 | _ :: _, _ :: _, _ :: _, i + 1, h => Bc.drop i h.2
 | [], _ :: _, _, _, h => h.elim
 | [], [], _ :: _, _, h => h.elim
 | _ :: _, [], _, _, h => h.elim
 | _ :: _, _ :: _, [], _, h => h.elim
theorem Bc.SB {l : List α} {m : List β} {n : List γ} (h : Bc R l m n) : ∀ a ∈ l, ∃ b ∈ m, ∃ c ∈ n, R a b c := by
 refine Bc.ind (M := fun l m n => ∀ a ∈ l, ∃ b ∈ m, ∃ c ∈ n, R a b c) (by simp) ?_ h
 intro a l b m c n h1 _ ih x hx
 rcases List.mem_cons.1 hx with rfl | hx
 ·exact ⟨b, List.mem_cons_self, c, List.mem_cons_self, h1⟩
 ·obtain ⟨b', hb, c', hc, h⟩ := ih x hx
  exact ⟨b', List.mem_cons_of_mem _ hb, c', List.mem_cons_of_mem _ hc, h⟩
theorem Bc.PT {l : List α} {m : List β} {n : List γ} (h : Bc R l m n) : ∀ c ∈ n, ∃ b ∈ m, ∃ a ∈ l, R a b c := by
 refine Bc.ind (M := fun l m n => ∀ c ∈ n, ∃ b ∈ m, ∃ a ∈ l, R a b c) (by simp) ?_ h
 intro a l b m c n h1 _ ih x hx
 rcases List.mem_cons.1 hx with rfl | hx
 ·exact ⟨b, List.mem_cons_self, a, List.mem_cons_self, h1⟩
 ·obtain ⟨b', hb, c', hc, h⟩ := ih x hx
  exact ⟨b', List.mem_cons_of_mem _ hb, c', List.mem_cons_of_mem _ hc, h⟩
theorem Bc.Ye {Q : α → β → Prop} (h : ∀ a b, Q a b → ∃ c, R a b c) : ∀ {l : List α} {m : List β}, BU Q l m → ∃ n, Bc R l m n
 | [], [], _ => ⟨[], trivial⟩
 | a :: l, b :: m, h' => by
  obtain ⟨c, hc⟩ := h a b h'.1
  obtain ⟨n, hn⟩ := Bc.Ye h h'.2
  exact ⟨c :: n, hc, hn⟩
 | [], _ :: _, h => h.elim
 | _ :: _, [], h => h.elim
end
theorem Bi {α : Type} {n : Nat} : ∀ {css : List (List α)}, (∀ c ∈ css, c.length = n) → css.flatten.length = css.length * n
 | [], _ => by simp
 | c :: css, h => by
  rw [List.flatten_cons, List.length_append, h c List.mem_cons_self, Bi (css := css) fun d hd => h d (List.mem_cons_of_mem _ hd), List.length_cons, Nat.succ_mul, Nat.add_comm]
theorem LQ {α : Type} {n : Nat} : ∀ {css : List (List α)} (i : Nat) {c : List α}, (∀ d ∈ css, d.length = n) → i < css.length → c.length = n → (css.set i c).flatten = css.flatten.take (i * n) ++ (c ++ css.flatten.drop (i * n + n))
 | [], _, _, _, h, _ => by simp at h
 | d :: css, 0, c, h, _, _ => by
  have hd := h d List.mem_cons_self
  simp only [List.set_cons_zero, List.flatten_cons, Nat.zero_mul, List.take_zero, List.nil_append, Nat.zero_add]
  rw [← hd, List.drop_left]
 | d :: css, i + 1, c, h, hi, hc => by
  have hd := h d List.mem_cons_self
  have ih := LQ (css := css) i (c := c) (fun e he => h e (List.mem_cons_of_mem _ he)) (by simpa using hi) hc
  rw [List.set_cons_succ, List.flatten_cons, List.flatten_cons, ih, show (i + 1) * n = d.length + i * n by rw [hd, Nat.succ_mul, Nat.add_comm], List.take_length_add_append, Nat.add_assoc, List.drop_length_add_append, List.append_assoc]
theorem Gv {cur cs : List Value} {o : Nat} (h : o + cs.length ≤ cur.length) (i : Nat) : (AH cur o cs)[i]? = if o ≤ i ∧ i < o + cs.length then cs[i - o]? else cur[i]? := by
 rw [Aa]
 have q : (cur.take o).length = o := by rw [List.length_take]; omega
 rcases Nat.lt_or_ge i o with hi | hi
 ·rw [List.getElem?_append_left (by omega), List.getElem?_take, if_pos hi, if_neg (by omega)]
 ·rw [List.getElem?_append_right (by omega), q]
  rcases Nat.lt_or_ge (i - o) cs.length with h2 | h2
  ·rw [List.getElem?_append_left h2, if_pos (by omega)]
  ·rw [List.getElem?_append_right h2, List.getElem?_drop, if_neg (by omega)]
   congr 1
   omega
theorem JY {cur cs : List Value} {o N : Nat} (h : o + cs.length ≤ N) (hN : N ≤ cur.length) : (AH cur o cs).take N = AH (cur.take N) o cs := by
 apply List.ext_getElem?
 intro i
 rw [List.getElem?_take, Gv (by omega), Gv (by rw [List.length_take]; omega), List.getElem?_take]
 by_cases h1 : i < N
 ·rw [if_pos h1, if_pos h1]
 ·rw [if_neg h1, if_neg h1, if_neg (by omega)]
abbrev In (B T : Nat) : Nat → Prop := fun b => B ≤ b ∧ b < T
structure Mod (S : Nat → Prop) (w w' : World) : Prop where
 os : w'.os = w.os
 tape : w'.tape = w.tape
 output : w'.output = w.output
 size : w.heap.size ≤ w'.heap.size
 Ai : ∀ b, b < w.heap.size → ¬ S b → hp w' b = hp w b
theorem Mod.tr {S : Nat → Prop} {a b c : World} (h : Mod S a b) (k : Mod S b c) : Mod S a c :=
 ⟨k.os.trans h.os, k.tape.trans h.tape, k.output.trans h.output, Nat.le_trans h.size k.size, fun x hx hg => (k.Ai x (Nat.lt_of_lt_of_le hx h.size) hg).trans (h.Ai x hx hg)⟩
theorem Mod.of {a b : World} (h : Ext a b) (S : Nat → Prop) : Mod S a b := ⟨h.os, h.tape, h.output, h.size, fun x hx _ => h.Ai hx⟩
theorem Mod.Tp {S S' : Nat → Prop} {a b : World} (h : Mod S a b) (k : ∀ x, x < a.heap.size → S x → S' x) : Mod S' a b := ⟨h.os, h.tape, h.output, h.size, fun x hx hS => h.Ai x hx fun hs => hS (k x hx hs)⟩
theorem Mod.after {S : Nat → Prop} {a b c : World} (h : Ext a b) (k : Mod S b c) (hS : ∀ x, x < a.heap.size → ¬ S x) : Ext a c :=
 ⟨k.os.trans h.os, k.tape.trans h.tape, k.output.trans h.output, Nat.le_trans h.size k.size, fun x hx => (k.Ai x (Nat.lt_of_lt_of_le hx h.size) (hS x hx)).trans (h.Ai hx)⟩
theorem Mod.AW {S S' : Nat → Prop} {a b c : World} (h : Mod S a b) (k : Mod S' b c) (hS : ∀ x, x < a.heap.size → S' x → S x) : Mod S a c :=
 ⟨k.os.trans h.os, k.tape.trans h.tape, k.output.trans h.output, Nat.le_trans h.size k.size, fun x hx hn => (k.Ai x (Nat.lt_of_lt_of_le hx h.size) fun hs => hn (hS x hx hs)).trans (h.Ai x hx hn)⟩
theorem Mod.rfl {S : Nat → Prop} {a : World} : Mod S a a := Mod.of Ext.rfl S
theorem Mod.set (w : World) (g : Nat) (cs : Array Value) : Mod (fun b => b = g) w (w.setRow g cs) := ⟨by rfl, by rfl, by rfl, by simp, fun b _ hb => Ac hb⟩
theorem Mod.alloc (S : Nat → Prop) (w : World) (o : Obj) : Mod S w (w.alloc o) := Mod.of (Ext.alloc w o) S
theorem Mod.dw (S : Nat → Prop) (w : World) : Mod S w (dw w) := Mod.of (BJ w) S
structure Lay (α : Type) where
 n : Nat
 lay : Bool → World → List Value → α → List Nat → Prop
 len : ∀ {o w cs a bs}, lay o w cs a bs → cs.length = n
 one : ∀ {o w cs a bs}, lay o w cs a bs → cs.all Value.oneCell' = true
 lt : ∀ {o w cs a bs}, lay o w cs a bs → ∀ b ∈ bs, b < w.heap.size
 Aj : ∀ {o w w' cs a bs}, lay o w cs a bs → (∀ b ∈ bs, hp w' b = hp w b) → lay o w' cs a bs
 read : ∀ {w cs a bs}, lay true w cs a bs → ∃ bs', lay false w cs a bs' ∧ ∀ b ∈ bs', b ∈ bs
section
variable {α β : Type}
def D (L : Lay α) (S : Nat → Prop) (w : World) (cs : List Value) (a : α) : Prop := ∃ bs, L.lay false w cs a bs ∧ ∀ b ∈ bs, S b
def O (L : Lay α) (S : Nat → Prop) (w : World) (cs : List Value) (a : α) : Prop := ∃ bs, L.lay true w cs a bs ∧ bs.Nodup ∧ ∀ b ∈ bs, S b
variable {L : Lay α} {S S' : Nat → Prop} {w w' : World} {cs : List Value} {a : α}
theorem D.Aj (h : D L S w cs a) (k : ∀ b, S b → b < w.heap.size → hp w' b = hp w b) : D L S w' cs a := by
 obtain ⟨bs, h1, h2⟩ := h
 exact ⟨bs, L.Aj h1 fun b hb => k b (h2 b hb) (L.lt h1 b hb), h2⟩
theorem O.Aj (h : O L S w cs a) (k : ∀ b, S b → b < w.heap.size → hp w' b = hp w b) : O L S w' cs a := by
 obtain ⟨bs, h1, h2, h3⟩ := h
 exact ⟨bs, L.Aj h1 fun b hb => k b (h3 b hb) (L.lt h1 b hb), h2, h3⟩
theorem D.wide (h : D L S w cs a) (k : ∀ b, S b → b < w.heap.size → S' b) : D L S' w cs a := by
 obtain ⟨bs, h1, h2⟩ := h
 exact ⟨bs, h1, fun b hb => k b (h2 b hb) (L.lt h1 b hb)⟩
theorem O.wide (h : O L S w cs a) (k : ∀ b, S b → b < w.heap.size → S' b) : O L S' w cs a := by
 obtain ⟨bs, h1, h2, h3⟩ := h
 exact ⟨bs, h1, h2, fun b hb => k b (h3 b hb) (L.lt h1 b hb)⟩
theorem O.d (h : O L S w cs a) : D L S w cs a := by
 obtain ⟨bs, h1, _, h3⟩ := h
 obtain ⟨bs', h4, h5⟩ := L.read h1
 exact ⟨bs', h4, fun b hb => h3 b (h5 b hb)⟩
theorem D.len (h : D L S w cs a) : cs.length = L.n := by obtain ⟨bs, h1, _⟩ := h; exact L.len h1
theorem D.one (h : D L S w cs a) : cs.all Value.oneCell' = true := by obtain ⟨bs, h1, _⟩ := h; exact L.one h1
theorem O.lt (h : O L S w cs a) : O L (fun b => S b ∧ b < w.heap.size) w cs a := h.wide fun b h1 h2 => ⟨h1, h2⟩
theorem D.ext (h : D L S w cs a) (k : Ext w w') : D L S w' cs a := h.Aj fun b _ hb => k.Ai hb
theorem O.ext (h : O L S w cs a) (k : Ext w w') : O L S w' cs a := h.Aj fun b _ hb => k.Ai hb
def GH : Lay Int where
 n := 1
 lay _ _ cs a bs := cs = [i64 a] ∧ bs = []
 len := by rintro o w cs a bs ⟨rfl, rfl⟩; rfl
 one := by rintro o w cs a bs ⟨rfl, rfl⟩; rfl
 lt := by rintro o w cs a bs ⟨rfl, rfl⟩; simp
 Aj := fun h _ => h
 read := fun h => ⟨_, h, fun _ h => h⟩
def Tq : Lay ByteArray where
 n := 1
 lay _ _ cs a bs := cs = [.string a] ∧ a.size ≤ 140737488351232 ∧ bs = []
 len := by rintro o w cs a bs ⟨rfl, _, rfl⟩; rfl
 one := by rintro o w cs a bs ⟨rfl, _, rfl⟩; rfl
 lt := by rintro o w cs a bs ⟨rfl, _, rfl⟩; simp
 Aj := fun h _ => h
 read := fun h => ⟨_, h, fun _ h => h⟩
def LBool : Lay Bool where
 n := 1
 lay _ _ cs a bs := cs = [.bool a] ∧ bs = []
 len := by rintro o w cs a bs ⟨rfl, rfl⟩; rfl
 one := by rintro o w cs a bs ⟨rfl, rfl⟩; rfl
 lt := by rintro o w cs a bs ⟨rfl, rfl⟩; simp
 Aj := fun h _ => h
 read := fun h => ⟨_, h, fun _ h => h⟩
def Ey : Lay Tag where
 n := 2
 lay _ _ cs a bs := cs = Ki a ∧ bs = []
 len := by rintro o w cs a bs ⟨rfl, rfl⟩; rfl
 one := by rintro o w cs a bs ⟨rfl, rfl⟩; rfl
 lt := by rintro o w cs a bs ⟨rfl, rfl⟩; simp
 Aj := fun h _ => h
 read := fun h => ⟨_, h, fun _ h => h⟩
def BC (L : Lay α) (M : Lay β) : Lay (α × β) where
 n := L.n + M.n
 lay o w cs a bs := ∃ c d b1 b2, cs = c ++ d ∧ L.lay o w c a.1 b1 ∧ M.lay o w d a.2 b2 ∧ bs = b1 ++ b2
 len := by rintro o w cs a bs ⟨c, d, b1, b2, rfl, h1, h2, rfl⟩; rw [List.length_append, L.len h1, M.len h2]
 one := by rintro o w cs a bs ⟨c, d, b1, b2, rfl, h1, h2, rfl⟩; rw [List.all_append, L.one h1, M.one h2]; rfl
 lt := by
  rintro o w cs a bs ⟨c, d, b1, b2, rfl, h1, h2, rfl⟩ b hb
  rcases List.mem_append.1 hb with hb | hb
  ·exact L.lt h1 b hb
  ·exact M.lt h2 b hb
 Aj := by
  rintro o w w' cs a bs ⟨c, d, b1, b2, rfl, h1, h2, rfl⟩ k
  exact ⟨c, d, b1, b2, rfl, L.Aj h1 fun b hb => k b (List.mem_append_left _ hb), M.Aj h2 fun b hb => k b (List.mem_append_right _ hb), rfl⟩
 read := by
  rintro w cs a bs ⟨c, d, b1, b2, rfl, h1, h2, rfl⟩
  obtain ⟨b3, h3, h4⟩ := L.read h1
  obtain ⟨b5, h5, h6⟩ := M.read h2
  refine ⟨b3 ++ b5, ⟨c, d, b3, b5, rfl, h3, h5, rfl⟩, fun b hb => ?_⟩
  rcases List.mem_append.1 hb with hb | hb
  ·exact List.mem_append_left _ (h4 b hb)
  ·exact List.mem_append_right _ (h6 b hb)
def LR (L : Lay α) (f : β → α) : Lay β where
 n := L.n
 lay o w cs b bs := L.lay o w cs (f b) bs
 len h := L.len h
 one h := L.one h
 lt h := L.lt h
 Aj h := L.Aj h
 read h := L.read h
theorem D.map {f : β → α} {b : β} : D (LR L f) S w cs b = D L S w cs (f b) := rfl
theorem O.map {f : β → α} {b : β} : O (LR L f) S w cs b = O L S w cs (f b) := rfl
theorem D.pair {M : Lay β} {p : α × β} : D (BC L M) S w cs p ↔ ∃ c d, cs = c ++ d ∧ D L S w c p.1 ∧ D M S w d p.2 := by
 constructor
 ·rintro ⟨bs, ⟨c, d, b1, b2, rfl, h1, h2, rfl⟩, hS⟩
  exact ⟨c, d, rfl, ⟨b1, h1, fun b hb => hS b (List.mem_append_left _ hb)⟩, ⟨b2, h2, fun b hb => hS b (List.mem_append_right _ hb)⟩⟩
 ·rintro ⟨c, d, rfl, ⟨b1, h1, s1⟩, ⟨b2, h2, s2⟩⟩
  refine ⟨_, ⟨c, d, b1, b2, rfl, h1, h2, rfl⟩, fun b hb => ?_⟩
  rcases List.mem_append.1 hb with hb | hb
  ·exact s1 b hb
  ·exact s2 b hb
theorem O.pair {M : Lay β} {p : α × β} {c d : List Value} {S1 S2 : Nat → Prop} (h1 : O L S1 w c p.1) (h2 : O M S2 w d p.2) (hd : ∀ b, b < w.heap.size → S1 b → ¬ S2 b) : O (BC L M) (fun b => S1 b ∨ S2 b) w (c ++ d) p := by
 obtain ⟨b1, h1, n1, s1⟩ := h1
 obtain ⟨b2, h2, n2, s2⟩ := h2
 refine ⟨_, ⟨c, d, b1, b2, rfl, h1, h2, rfl⟩, ?_, fun b hb => ?_⟩
 ·rw [List.nodup_append]
  refine ⟨n1, n2, fun x hx y hy e => ?_⟩
  subst e
  exact hd x (L.lt h1 x hx) (s1 x hx) (s2 x hy)
 ·rcases List.mem_append.1 hb with hb | hb
  ·exact .inl (s1 b hb)
  ·exact .inr (s2 b hb)
theorem O.CM {M : Lay β} {p : α × β} (h : O (BC L M) S w cs p) : ∃ c d S1 S2, cs = c ++ d ∧ O L S1 w c p.1 ∧ O M S2 w d p.2 ∧ (∀ b, S1 b → S b ∧ ¬ S2 b ∧ b < w.heap.size) ∧ (∀ b, S2 b → S b ∧ ¬ S1 b ∧ b < w.heap.size) := by
 obtain ⟨bs, ⟨c, d, b1, b2, rfl, h1, h2, rfl⟩, hn, hS⟩ := h
 rw [List.nodup_append] at hn
 exact ⟨c, d, (· ∈ b1), (· ∈ b2), rfl, ⟨b1, h1, hn.1, fun b hb => hb⟩, ⟨b2, h2, hn.2.1, fun b hb => hb⟩, fun b hb => ⟨hS b (List.mem_append_left _ hb), fun h => hn.2.2 b hb b h rfl, L.lt h1 b hb⟩,
  fun b hb => ⟨hS b (List.mem_append_right _ hb), fun h => hn.2.2 b h b hb rfl, M.lt h2 b hb⟩⟩
theorem D.int {n : Int} : D GH S w cs n ↔ cs = [i64 n] := ⟨fun ⟨_, h, _⟩ => h.1, fun h => ⟨[], ⟨h, rfl⟩, by simp⟩⟩
theorem D.str {n : ByteArray} : D Tq S w cs n ↔ cs = [.string n] ∧ n.size ≤ 140737488351232 := ⟨fun ⟨_, h, _⟩ => ⟨h.1, h.2.1⟩, fun h => ⟨[], ⟨h.1, h.2, rfl⟩, by simp⟩⟩
theorem D.bool {n : Bool} : D LBool S w cs n ↔ cs = [.bool n] := ⟨fun ⟨_, h, _⟩ => h.1, fun h => ⟨[], ⟨h, rfl⟩, by simp⟩⟩
theorem D.tag {n : Tag} : D Ey S w cs n ↔ cs = Ki n := ⟨fun ⟨_, h, _⟩ => h.1, fun h => ⟨[], ⟨h, rfl⟩, by simp⟩⟩
theorem O.int {n : Int} : O GH S w cs n ↔ cs = [i64 n] := ⟨fun ⟨_, h, _⟩ => h.1, fun h => ⟨[], ⟨h, rfl⟩, by simp, by simp⟩⟩
theorem O.bool {n : Bool} : O LBool S w cs n ↔ cs = [.bool n] := ⟨fun ⟨_, h, _⟩ => h.1, fun h => ⟨[], ⟨h, rfl⟩, by simp, by simp⟩⟩
theorem O.tag {n : Tag} : O Ey S w cs n ↔ cs = Ki n := ⟨fun ⟨_, h, _⟩ => h.1, fun h => ⟨[], ⟨h, rfl⟩, by simp, by simp⟩⟩
def DA (s : Value) {α : Type} : List α → List Nat
 | [] => []
 | _ :: _ => (Av s).toList
def AP (E : TypeId) (mx : Nat) (L : Lay α) : Lay (List α) where
 n := 1
 lay o w cs xs bs := ∃ s css bss, cs = [s] ∧ Bc (L.lay o w) css xs bss ∧ xs.length ≤ mx ∧ (match o with
  | false => Sl w s xs.length css.flatten ∧ (∀ b ∈ DA s xs, b < w.heap.size) ∧ bs = DA s xs ++ bss.flatten
  | true => Il w 0 E L.n s xs.length css.flatten ∧ bs = (Av s).toList ++ bss.flatten)
 len := by rintro o w cs a bs ⟨s, css, bss, rfl, _⟩; rfl
 one := by
  rintro o w cs a bs ⟨s, css, bss, rfl, _, _, h⟩
  cases o with
  | false => obtain ⟨⟨a, c, rfl, _⟩, _⟩ := h; cases a <;> rfl
  | true =>
   obtain ⟨⟨_, _, h⟩, _⟩ := h
   rcases h with ⟨rfl, _⟩ | ⟨g, cap, cur, rfl, _⟩ <;> rfl
 lt := by
  rintro o w cs a bs ⟨s, css, bss, rfl, h3, _, h⟩ b hb
  have hf : b ∈ bss.flatten → b < w.heap.size := by
   intro hb
   obtain ⟨l, hl, hb⟩ := List.mem_flatten.1 hb
   obtain ⟨x, _, c, _, h⟩ := h3.PT l hl
   exact L.lt h b hb
  cases o with
  | false =>
   obtain ⟨_, h1, rfl⟩ := h
   rcases List.mem_append.1 hb with hb | hb
   ·exact h1 b hb
   ·exact hf hb
  | true =>
   obtain ⟨h1, rfl⟩ := h
   rcases List.mem_append.1 hb with hb | hb
   ·exact (h1.lt (g := b) (by simpa using hb)).2.1
   ·exact hf hb
 Aj := by
  rintro o w w' cs a bs ⟨s, css, bss, rfl, h3, hm, h⟩ k
  have hk : (∀ b ∈ bss.flatten, hp w' b = hp w b) → Bc (L.lay o w') css a bss := fun k => h3.imp fun x y z _ _ hz h => L.Aj h fun b hb => k b (List.mem_flatten.2 ⟨z, hz, hb⟩)
  cases o with
  | false =>
   obtain ⟨h1, h2, rfl⟩ := h
   refine ⟨s, css, bss, rfl, hk fun b hb => k b (List.mem_append_right _ hb), hm, ?_, ?_, rfl⟩
   ·cases a with
    | nil =>
     obtain ⟨a, c, h4, h5, h6⟩ := h1
     have : css = [] := by have := h3.length.1; exact List.eq_nil_of_length_eq_zero this
     subst this
     exact ⟨a, c, h4, h5, .inl rfl⟩
    | cons x xs => exact h1.Aj fun b hb => k b (List.mem_append_left _ hb)
   ·intro b hb
    have h7 := k b (List.mem_append_left _ hb)
    have h8 := h2 b hb
    rcases Nat.lt_or_ge b w'.heap.size with h' | h'
    ·exact h'
    ·rw [hp, Array.getElem?_eq_none h', hp] at h7
     exact absurd (Array.getElem?_eq_none_iff.1 h7.symm) (by omega)
  | true =>
   obtain ⟨h1, rfl⟩ := h
   exact ⟨s, css, bss, rfl, hk fun b hb => k b (List.mem_append_right _ hb), hm, h1.Aj fun g hg => k g (List.mem_append_left _ (by simp [hg])), rfl⟩
 read := by
  rintro w cs a bs ⟨s, css, bss, rfl, h3, hm, h1, rfl⟩
  have : ∀ {css : List (List Value)} {a : List α} {bss : List (List Nat)}, Bc (L.lay true w) css a bss → ∃ bss', Bc (L.lay false w) css a bss' ∧ ∀ b ∈ bss'.flatten, b ∈ bss.flatten := by
   intro css a bss h
   refine Bc.ind (M := fun css a bss => ∃ bss', Bc (L.lay false w) css a bss' ∧ ∀ b ∈ bss'.flatten, b ∈ bss.flatten) ⟨[], trivial, by simp⟩ ?_ h
   rintro c css x xs b bss h1 _ ⟨bss', h2, h3⟩
   obtain ⟨b', h4, h5⟩ := L.read h1
   refine ⟨b' :: bss', ⟨h4, h2⟩, fun y hy => ?_⟩
   rw [List.flatten_cons, List.mem_append] at hy ⊢
   exact hy.imp (h5 y) (h3 y)
  obtain ⟨bss', h4, h5⟩ := this h3
  have hr : ∀ b ∈ DA s a, b ∈ (Av s).toList := by
   intro b hb
   cases a with
   | nil => simp [DA] at hb
   | cons x xs => exact hb
  refine ⟨_, ⟨s, css, bss', rfl, h4, hm, h1.sl, fun b hb => (h1.lt (g := b) (by simpa using hr b hb)).2.1, rfl⟩, fun b hb => ?_⟩
  rw [List.mem_append] at hb ⊢
  exact hb.imp (hr b) (h5 b)
variable {E mx : Nat}
theorem D.sl {s : Value} {xs : List α} (h : D (AP E mx L) S w [s] xs) : ∃ a c, s = .slice a xs.length c ∧ xs.length ≤ mx ∧ xs.length ≤ 9223372036854775807 := by
 obtain ⟨bs, ⟨s', css, bss, he, h3, hm, ⟨a, c, h1, h2, _⟩, _⟩, _⟩ := h
 obtain rfl : s = s' := by simpa using he
 exact ⟨a, c, h1, hm, h2⟩
theorem D.Gn {t : List Value} {xs : List α} (h : D (AP E mx L) S w t xs) : ∃ a c, t = [.slice a xs.length c] ∧ D (AP E mx L) S w [.slice a xs.length c] xs := by
 obtain ⟨bs, ⟨s', css, bss, rfl, h3, hm, ⟨a, c, rfl, h2, h4⟩, h5⟩, h6⟩ := h
 exact ⟨a, c, rfl, bs, ⟨_, css, bss, rfl, h3, hm, ⟨a, c, rfl, h2, h4⟩, h5⟩, h6⟩
theorem O.Gn {t : List Value} {xs : List α} (h : O (AP E mx L) S w t xs) : ∃ a c, t = [.slice a xs.length c] ∧ O (AP E mx L) S w [.slice a xs.length c] xs := by
 obtain ⟨a, c, rfl, _⟩ := h.d.Gn
 exact ⟨a, c, rfl, h⟩
theorem D.n {a : Option Addr} {n c : Nat} {xs : List α} (h : D (AP E mx L) S w [.slice a n c] xs) : n = xs.length ∧ xs.length ≤ mx ∧ xs.length ≤ 9223372036854775807 := by
 obtain ⟨a', c', h1, h2⟩ := h.sl
 simp only [Value.slice.injEq] at h1
 exact ⟨h1.2.1, h2⟩
theorem O.n {a : Option Addr} {n c : Nat} {xs : List α} (h : O (AP E mx L) S w [.slice a n c] xs) : n = xs.length ∧ xs.length ≤ mx ∧ xs.length ≤ 9223372036854775807 := h.d.n
theorem D.at {a : Option Addr} {n c : Nat} {xs : List α} (h : D (AP E mx L) S w [.slice a n c] xs) (h0 : 0 < L.n) {i : Nat} {x : α} (hi : xs[i]? = some x) :
  ∃ b o cs, a = some ⟨b, o, none⟩ ∧ At w b (o + i * L.n) cs ∧ D L S w cs x ∧ S b ∧ b < w.heap.size := by
 obtain ⟨bs, ⟨s', css, bss, he, h3, hm, h1, h2, rfl⟩, hS⟩ := h
 obtain ⟨rfl⟩ : .slice a n c = s' := by simpa using he
 obtain ⟨cs, bl, h4, h5, h6⟩ := h3.get hi
 obtain ⟨b, o, c', h7, h8⟩ := Sl.at h1 (fun c hc => by obtain ⟨x, _, z, _, h⟩ := h3.SB c hc; exact L.len h) h0 h4
 simp only [Value.slice.injEq] at h7
 obtain ⟨rfl, _⟩ := h7
 have hb : b ∈ DA (.slice (some ⟨b, o, none⟩) n c) xs := by
  cases xs with
  | nil => simp at hi
  | cons y ys => simp [DA, Av]
 exact ⟨b, o, cs, rfl, h8, ⟨bl, h6, fun b hb => hS b (List.mem_append_right _ (List.mem_flatten.2 ⟨bl, List.mem_of_getElem? h5, hb⟩))⟩, hS b (List.mem_append_left _ hb), h2 b hb⟩
theorem D.nil (a : Option Addr) (c : Nat) : D (AP E mx L) S w [.slice a 0 c] ([] : List α) :=
 ⟨[], ⟨_, [], [], rfl, trivial, by simp, ⟨a, c, rfl, by simp, .inl rfl⟩, by simp [DA], rfl⟩, by simp⟩
theorem O.nil : O (AP E mx L) S w [.slice none 0 0] ([] : List α) :=
 ⟨[], ⟨_, [], [], rfl, trivial, by simp, Il.nil _ _ _ _, rfl⟩, by simp, by simp⟩
def FP (L : Lay α) (S : Nat → Prop) (w : World) (css : List (List Value)) (xs : List α) : Prop := ∃ bss, Bc (L.lay true w) css xs bss ∧ bss.flatten.Nodup ∧ ∀ b ∈ bss.flatten, S b
theorem FP.lay {css : List (List Value)} {xs : List α} (h : FP L S w css xs) : css.length = xs.length ∧ ∀ c ∈ css, c.length = L.n := by
 obtain ⟨bss, h3, _⟩ := h
 exact ⟨h3.length.1, fun c hc => by obtain ⟨x, _, z, _, h⟩ := h3.SB c hc; exact L.len h⟩
theorem FP.VC {css : List (List Value)} {xs : List α} (h : FP L S w css xs) : css.flatten.all Value.oneCell' = true := by
 obtain ⟨bss, h3, _⟩ := h
 rw [List.all_eq_true]
 intro v hv
 obtain ⟨c, hc, hv⟩ := List.mem_flatten.1 hv
 obtain ⟨x, _, z, _, h⟩ := h3.SB c hc
 exact List.all_eq_true.1 (L.one h) v hv
theorem Hb {css : List (List Value)} {xs : List α} {bss : List (List Nat)} {o : Bool} (h3 : Bc (L.lay o w) css xs bss) : ∀ b ∈ bss.flatten, b < w.heap.size := fun b hb => by
 obtain ⟨l, hl, hb⟩ := List.mem_flatten.1 hb
 obtain ⟨x, _, c, _, h⟩ := h3.PT l hl
 exact L.lt h b hb
theorem FP.Aj {css : List (List Value)} {xs : List α} (h : FP L S w css xs) (k : ∀ b, S b → b < w.heap.size → hp w' b = hp w b) : FP L S w' css xs := by
 obtain ⟨bss, h3, hn, hS⟩ := h
 exact ⟨bss, h3.imp fun p q r _ _ hr h => L.Aj h fun b hb => by
  have := List.mem_flatten.2 ⟨r, hr, hb⟩
  exact k b (hS b this) (Hb h3 b this), hn, hS⟩
theorem FP.wide {css : List (List Value)} {xs : List α} (h : FP L S w css xs) (k : ∀ b, S b → b < w.heap.size → S' b) : FP L S' w css xs := by
 obtain ⟨bss, h3, hn, hS⟩ := h
 exact ⟨bss, h3, hn, fun b hb => k b (hS b hb) (Hb h3 b hb)⟩
theorem FP.nil : FP L S w [] [] := ⟨[], trivial, by simp, by simp⟩
theorem FP.one {x : α} (h : O L S w cs x) : FP L S w [cs] [x] := by
 obtain ⟨bs, h1, h2, h3⟩ := h
 exact ⟨[bs], ⟨h1, trivial⟩, by simpa using h2, by simpa using h3⟩
theorem FP.app {c1 c2 : List (List Value)} {x1 x2 : List α} {S1 S2 : Nat → Prop} (h1 : FP L S1 w c1 x1) (h2 : FP L S2 w c2 x2) (hd : ∀ b, b < w.heap.size → S1 b → ¬ S2 b) : FP L (fun b => S1 b ∨ S2 b) w (c1 ++ c2) (x1 ++ x2) := by
 obtain ⟨b1, h3, n1, s1⟩ := h1
 obtain ⟨b2, h4, n2, s2⟩ := h2
 refine ⟨b1 ++ b2, Bc.app h3 h4, ?_, fun b hb => ?_⟩
 ·rw [List.flatten_append, List.nodup_append]
  refine ⟨n1, n2, fun p hp q hq e => ?_⟩
  subst e
  exact hd p (Hb h3 p hp) (s1 p hp) (s2 p hq)
 ·rw [List.flatten_append] at hb
  rcases List.mem_append.1 hb with hb | hb
  ·exact .inl (s1 b hb)
  ·exact .inr (s2 b hb)
theorem FP.cut {css : List (List Value)} {xs : List α} (h : FP L S w css xs) (i : Nat) : ∃ S1 S2, FP L S1 w (css.take i) (xs.take i) ∧ FP L S2 w (css.drop i) (xs.drop i) ∧ (∀ b, S1 b → S b ∧ ¬ S2 b ∧ b < w.heap.size) ∧ (∀ b, S2 b → S b ∧ ¬ S1 b ∧ b < w.heap.size) := by
 obtain ⟨bss, h3, hn, hS⟩ := h
 have e : bss.flatten = (bss.take i).flatten ++ (bss.drop i).flatten := by rw [← List.flatten_append, List.take_append_drop]
 have l := Hb h3
 rw [e] at hn hS l
 rw [List.nodup_append] at hn
 exact ⟨(· ∈ (bss.take i).flatten), (· ∈ (bss.drop i).flatten), ⟨_, h3.take i, hn.1, fun b hb => hb⟩, ⟨_, h3.drop i, hn.2.1, fun b hb => hb⟩,
  fun b hb => ⟨hS b (List.mem_append_left _ hb), fun h => hn.2.2 b hb b h rfl, l b (List.mem_append_left _ hb)⟩, fun b hb => ⟨hS b (List.mem_append_right _ hb), fun h => hn.2.2 b h b hb rfl, l b (List.mem_append_right _ hb)⟩⟩
theorem O.un {s : Value} {xs : List α} (h : O (AP E mx L) S w [s] xs) : ∃ css, Il w 0 E L.n s xs.length css.flatten ∧ FP L (fun b => S b ∧ b ∉ (Av s).toList ∧ b < w.heap.size) w css xs ∧ (∀ b ∈ (Av s).toList, S b ∧ b < w.heap.size) ∧ xs.length ≤ mx := by
 obtain ⟨bs, ⟨s', css, bss, he, h3, hm, h1, rfl⟩, hn, hS⟩ := h
 obtain rfl : s = s' := by simpa using he
 rw [List.nodup_append] at hn
 exact ⟨css, h1, ⟨bss, h3, hn.2.1, fun b hb => ⟨hS b (List.mem_append_right _ hb), fun h => hn.2.2 b h b hb rfl, Hb h3 b hb⟩⟩, fun b hb => ⟨hS b (List.mem_append_left _ hb), (h1.lt (g := b) (by simpa using hb)).2.1⟩, hm⟩
theorem O.mk {s : Value} {xs : List α} {css : List (List Value)} {S1 : Nat → Prop} (h1 : Il w 0 E L.n s xs.length css.flatten) (h2 : FP L S1 w css xs) (hd : ∀ b ∈ (Av s).toList, ¬ S1 b) (hm : xs.length ≤ mx) : O (AP E mx L) (fun b => S1 b ∨ b ∈ (Av s).toList) w [s] xs := by
 obtain ⟨bss, h3, hn, hS⟩ := h2
 refine ⟨_, ⟨s, css, bss, rfl, h3, hm, h1, rfl⟩, ?_, fun b hb => ?_⟩
 ·rw [List.nodup_append]
  refine ⟨by cases Av s <;> simp, hn, fun p hp q hq e => ?_⟩
  subst e
  exact hd p hp (hS p hq)
 ·rcases List.mem_append.1 hb with hb | hb
  ·exact .inr hb
  ·exact .inl (hS b hb)
theorem O.apps {P : Program} {t ty y : Nat} (hE : EZ P t = some (E, L.n, y)) {z : List Value} (hz : Cg P E = some z) (hzs : z.length = L.n) (h0 : 0 < L.n) {sv : Value} {xs ys : List α} {css : List (List Value)} {S1 : Nat → Prop} {b o m c : Nat}
  (ho : O (AP E mx L) S w [sv] xs) (hx : FP L S1 w css ys) (hd : ∀ b, b < w.heap.size → S b → ¬ S1 b) (hA : At w b o css.flatten) (hm : m = ys.length) (hm0 : 0 < m) (hl : xs.length + m ≤ mx) (hy : mx * y ≤ 140737488355328) (hm2 : mx ≤ 140737488355328) :
  Ae (Au P #[t, t] ty #[sv, .slice (some ⟨b, o, none⟩) m c] w) fun r => ∃ a' c', r.1 = .slice a' (xs.length + m) c' ∧
   O (AP E mx L) (fun b => S b ∨ S1 b ∨ (w.heap.size ≤ b ∧ b < r.2.heap.size)) r.2 [r.1] (xs ++ ys) ∧ Mod S w r.2 := by
 obtain ⟨c0, h1, h2, h3, hmx⟩ := ho.un
 obtain ⟨l1, l2⟩ := hx.lay
 have hb1 : (xs.length + m) * y ≤ mx * y := Nat.mul_le_mul_right _ hl
 refine Ae.mono (Kw hE hz hzs h0 h1 (Nat.zero_le _) hA (by rw [Bi l2, l1, hm]) hx.VC (by omega) (by omega) hm0) ?_
 rintro ⟨s1, w1⟩ ⟨h4, h5, h6⟩
 dsimp only at *
 have hg : ∀ b, b < w.heap.size → b ∉ (Av sv).toList → hp w1 b = hp w b := fun b hb hn => h5.Ai b hb fun e => hn (by simp [e])
 obtain ⟨a', c', e1, _⟩ := h4.at
 have k1 := h2.Aj (w' := w1) fun b hb hs => hg b hs hb.2.1
 have k2 := hx.Aj (w' := w1) fun b hb hs => hg b hs fun h => hd b hs (h3 b h).1 hb
 have k2' : FP L (fun b => S1 b ∧ b < w.heap.size) w1 css ys := by
  obtain ⟨bss, q1, q2, q3⟩ := hx
  exact ⟨bss, q1.imp fun p q r _ _ hr h => L.Aj h fun b hb => by
   have hb' := List.mem_flatten.2 ⟨r, hr, hb⟩
   exact hg b (Hb q1 b hb') fun h => hd b (Hb q1 b hb') (h3 b h).1 (q3 b hb'), q2, fun b hb => ⟨q3 b hb, Hb q1 b hb⟩⟩
 have k3 := k1.app k2' fun b _ hb hb2 => hd b hb.2.2 hb.1 hb2.1
 have k4 : ∀ b ∈ (Av s1).toList, ¬ ((S b ∧ b ∉ (Av sv).toList ∧ b < w.heap.size) ∨ (S1 b ∧ b < w.heap.size)) := by
  intro b hb hn
  rcases h6 with h6 | ⟨g, h6, h7, _⟩
  ·rw [h6] at hb
   rcases hn with hn | hn
   ·exact hn.2.1 hb
   ·exact hd b hn.2 (h3 b hb).1 hn.1
  ·rw [h6] at hb
   simp only [Option.toList_some, List.mem_singleton] at hb
   omega
 refine ⟨a', c', e1, (O.mk (mx := mx) (css := c0 ++ css) (xs := xs ++ ys) ?_ k3 k4 (by rw [List.length_append]; omega)).wide ?_, ?_⟩
 ·rw [List.flatten_append, List.length_append, ← hm]; exact h4
 ·intro b hb hs
  rcases hb with (hb | hb) | hb
  ·exact .inl hb.1
  ·exact .inr (.inl hb.1)
  ·rcases h6 with h6 | ⟨g, h6, h7, h8⟩
   ·rw [h6] at hb; exact .inl (h3 b hb).1
   ·rw [h6] at hb
    simp only [Option.toList_some, List.mem_singleton] at hb
    subst hb
    exact .inr (.inr ⟨h7, h8⟩)
 ·exact ⟨h5.os, h5.tape, h5.output, h5.size, fun b hb hn => h5.Ai b hb fun e => hn (h3 b (by simp [e])).1⟩
theorem O.app {P : Program} {t ty y : Nat} (hE : EZ P t = some (E, L.n, y)) {z : List Value} (hz : Cg P E = some z) (hzs : z.length = L.n) (h0 : 0 < L.n) {sv : Value} {xs : List α} {x : α} {S1 : Nat → Prop} {b o c : Nat}
  (ho : O (AP E mx L) S w [sv] xs) (hx : O L S1 w cs x) (hd : ∀ b, b < w.heap.size → S b → ¬ S1 b) (hA : At w b o cs) (hl : xs.length + 1 ≤ mx) (hy : mx * y ≤ 140737488355328) (hm2 : mx ≤ 140737488355328) :
  Ae (Au P #[t, t] ty #[sv, .slice (some ⟨b, o, none⟩) 1 c] w) fun r => ∃ a' c', r.1 = .slice a' (xs.length + 1) c' ∧
   O (AP E mx L) (fun b => S b ∨ S1 b ∨ (w.heap.size ≤ b ∧ b < r.2.heap.size)) r.2 [r.1] (xs ++ [x]) ∧ Mod S w r.2 :=
 O.apps hE hz hzs h0 ho (FP.one hx) hd (by simpa using hA) rfl (by omega) hl hy hm2
theorem O.elem {a : Option Addr} {n c : Nat} {xs : List α} (h : O (AP E mx L) S w [.slice a n c] xs) (h0 : 0 < L.n) {i : Nat} {x : α} (hi : xs[i]? = some x) :
  ∃ g cur cs S1, a = some ⟨g, 0, none⟩ ∧ S g ∧ g < w.heap.size ∧ hp w g = some (.cells cur E (0, 0)) ∧ (i + 1) * L.n ≤ cur.size ∧ (cur.toList.drop (i * L.n)).take L.n = cs ∧ At w g (i * L.n) cs ∧ O L S1 w cs x ∧ (∀ b, S1 b → S b ∧ b ≠ g ∧ b < w.heap.size) ∧
   ∀ (w' : World) (cs' : List Value) (x' : α) (S2 : Nat → Prop), O L S2 w' cs' x' → hp w' g = some (.cells (AH cur.toList (i * L.n) cs').toArray E (0, 0)) → (∀ b, b < w.heap.size → S b → b ≠ g → ¬ S1 b → hp w' b = hp w b) →
    (∀ b, b < w'.heap.size → S2 b → S1 b ∨ ¬ (b < w.heap.size ∧ S b)) → O (AP E mx L) (fun b => S b ∨ S2 b) w' [.slice a n c] (xs.set i x') := by
 obtain ⟨bs, ⟨s', css, bss, he, h3, hm, h1, rfl⟩, hn, hS⟩ := h
 obtain rfl : .slice a n c = s' := by simpa using he
 obtain ⟨cs, bx, h4, h5, h6⟩ := h3.get hi
 have hil : i < xs.length := (List.getElem?_eq_some_iff.1 hi).1
 have hcl : ∀ c ∈ css, c.length = L.n := fun c hc => by obtain ⟨x, _, z, _, h⟩ := h3.SB c hc; exact L.len h
 obtain ⟨e1, e2, ho⟩ := h1
 rcases ho with ⟨_, hz⟩ | ⟨g, cap, cur, hs, hg, hh, hc, hcm, hcs, ht⟩
 ·omega
 simp only [Value.slice.injEq] at hs
 obtain ⟨rfl, rfl, rfl⟩ := hs
 have hlen := h3.length
 have hfl := Bi hcl
 have him : (i + 1) * L.n ≤ xs.length * L.n := Nat.mul_le_mul_right _ hil
 have hcm2 : xs.length * L.n ≤ c * L.n := Nat.mul_le_mul_right _ hc
 have hgm : g ∈ (Av (.slice (some ⟨g, 0, none⟩) xs.length c)).toList := by simp [Av]
 have hAt : ∀ (j : Nat) v, cs[j]? = some v → cur.toList[i * L.n + j]? = some v := fun j v hv => by
  have h7 := flat_get css i cs hcl h4 j v hv
  rw [← ht, List.getElem?_take] at h7
  split at h7
  ·exact h7
  ·contradiction
 have hbx : ∀ b ∈ bx, b ∈ bss.flatten := fun b hb => List.mem_flatten.2 ⟨bx, List.mem_of_getElem? h5, hb⟩
 rw [List.nodup_append] at hn
 have hnf : (bss.flatMap id).Nodup := by simpa [List.flatMap] using hn.2.1
 have nbx : bx.Nodup := by
  obtain ⟨l1, l2, hl⟩ := List.append_of_mem (List.mem_of_getElem? h5)
  have := hn.2.1
  rw [hl, List.flatten_append, List.flatten_cons, List.nodup_append, List.nodup_append] at this
  exact this.2.1.1
 have hgl : g < w.heap.size := Aq hh
 refine ⟨g, cur, cs, (· ∈ bx), rfl, hS g (List.mem_append_left _ hgm), hgl, hh, by omega, ?_, fun j v hv => ?_, ⟨bx, h6, nbx, fun b hb => hb⟩, fun b hb => ⟨hS b (List.mem_append_right _ (hbx b hb)), fun e => hn.2.2 g hgm b (hbx b hb) e.symm, L.lt h6 b hb⟩, ?_⟩
 ·apply List.ext_getElem?
  intro j
  have hcl' := hcl cs (List.mem_of_getElem? h4)
  rw [List.getElem?_take]
  rcases Nat.lt_or_ge j L.n with hj | hj
  ·rw [if_pos hj, List.getElem?_drop, hAt j (cs[j]'(by omega)) (List.getElem?_eq_getElem (by omega)), List.getElem?_eq_getElem (by omega)]
  ·rw [if_neg (by omega), List.getElem?_eq_none (by omega)]
 ·rw [hh, Bm, ← BQ]; exact hAt j v hv
 ·rintro w' cs' x' S2 ⟨b2, k1, k2, k3⟩ hw hk hdis
  have lcs' := L.len k1
  have hilb : i < bss.length := by omega
  have hilc : i < css.length := by omega
  have hkeep : Bc (L.lay true w') (css.set i cs') (xs.set i x') (bss.set i b2) := by
   have hq : ∀ {css : List (List Value)} {xs : List α} {bss : List (List Nat)} (i : Nat), Bc (L.lay true w) css xs bss → (∀ (j : Nat) (bl : List Nat), j ≠ i → bss[j]? = some bl → ∀ b ∈ bl, hp w' b = hp w b) → Bc (L.lay true w') (css.set i cs') (xs.set i x') (bss.set i b2) := by
    intro css
    induction css with
    | nil => intro xs bss i h _; cases xs <;> cases bss <;> first | exact h | exact h.elim
    | cons d css ih =>
     intro xs bss i h hb
     cases xs with
     | nil => exact h.elim
     | cons y xs =>
      cases bss with
      | nil => exact h.elim
      | cons e bss =>
       cases i with
       | zero => exact ⟨k1, h.2.imp fun p q r hp hq hr hl => L.Aj hl fun b hbr => by
         obtain ⟨j, hj⟩ := List.getElem?_of_mem hr
         exact hb (j + 1) r (by omega) (by simpa using hj) b hbr⟩
       | succ i => exact ⟨L.Aj h.1 fun b hbr => hb 0 e (by omega) rfl b hbr, ih i h.2 fun j bl hj hl b hbb => hb (j + 1) bl (by omega) (by simpa using hl) b hbb⟩
   refine hq i h3 fun j bl hj hl b hb => ?_
   have hbf : b ∈ bss.flatten := List.mem_flatten.2 ⟨bl, List.mem_of_getElem? hl, hb⟩
   refine hk b ?_ (hS b (List.mem_append_right _ hbf)) (fun e => hn.2.2 g hgm b hbf e.symm) fun hbb => DH (f := id) hnf hl h5 hj b hb hbb
   obtain ⟨y, _, z, _, h⟩ := h3.PT bl (List.mem_of_getElem? hl)
   exact L.lt h b hb
  refine ⟨(Av (.slice (some ⟨g, 0, none⟩) xs.length c)).toList ++ (bss.set i b2).flatten, ⟨_, css.set i cs', bss.set i b2, rfl, hkeep, by simpa using hm, ⟨?_, by simpa using e2, .inr ⟨g, c, _, by rw [List.length_set], by omega, hw, by simpa using hc, hcm, ?_, ?_⟩⟩, rfl⟩, ?_, ?_⟩
  ·rw [Bi (n := L.n), List.length_set, List.length_set, hlen.1]
   intro d hd
   rcases List.mem_or_eq_of_mem_set hd with h | h
   ·exact hcl d h
   ·rw [h]; exact lcs'
  ·rw [Aa]
   simp only [List.size_toArray, List.length_append, List.length_take, List.length_drop, Array.length_toList, lcs']
   rw [Nat.succ_mul] at him
   omega
  ·rw [Nat.succ_mul] at him
   have hcz : cur.toList.length = cur.size := by simp
   rw [LQ i hcl hilc lcs', ← ht, List.length_set, List.toList_toArray, JY (by rw [lcs']; omega) (by omega), Aa, lcs']
  ·rw [List.nodup_append]
   have hmem : ∀ b ∈ (bss.set i b2).flatten, b ∈ b2 ∨ ∃ j bl, j ≠ i ∧ bss[j]? = some bl ∧ b ∈ bl := by
    intro b hb
    obtain ⟨l, hl, hb⟩ := List.mem_flatten.1 hb
    obtain ⟨j, hj⟩ := List.getElem?_of_mem hl
    rw [List.getElem?_set] at hj
    split at hj
    ·obtain rfl : b2 = l := by simpa [hilb] using hj
     exact .inl hb
    ·exact .inr ⟨j, l, by omega, hj, hb⟩
   have k4 : ∀ b ∈ b2, b ∈ bx ∨ ¬ (b < w.heap.size ∧ S b) := fun b hb => hdis b (L.lt k1 b hb) (k3 b hb)
   refine ⟨by simp [Av], ?_, ?_⟩
   ·have hq : ∀ {bss : List (List Nat)} (i : Nat), bss.flatten.Nodup → (∀ b ∈ b2, ∀ (j : Nat) (bl : List Nat), j ≠ i → bss[j]? = some bl → b ∉ bl) → (bss.set i b2).flatten.Nodup := by
     intro bss
     induction bss with
     | nil => intro i h _; simp
     | cons e bss ih =>
      intro i h hb
      rw [List.flatten_cons, List.nodup_append] at h
      cases i with
      | zero =>
       rw [List.set_cons_zero, List.flatten_cons, List.nodup_append]
       refine ⟨k2, h.2.1, fun p hp q hq e => ?_⟩
       subst e
       obtain ⟨l, hl, hq⟩ := List.mem_flatten.1 hq
       obtain ⟨j, hj⟩ := List.getElem?_of_mem hl
       exact hb p hp (j + 1) l (by omega) (by simpa using hj) hq
      | succ i =>
       rw [List.set_cons_succ, List.flatten_cons, List.nodup_append]
       refine ⟨h.1, ih i h.2.1 fun b hbb j bl hj hl => hb b hbb (j + 1) bl (by omega) (by simpa using hl), fun p hp q hq e' => ?_⟩
       subst e'
       obtain ⟨l, hl, hq⟩ := List.mem_flatten.1 hq
       obtain ⟨j, hj⟩ := List.getElem?_of_mem hl
       rw [List.getElem?_set] at hj
       split at hj
       ·split at hj
        ·obtain rfl := Option.some.inj hj
         exact hb p hq 0 e (by omega) rfl hp
        ·contradiction
       ·exact h.2.2 p hp p (List.mem_flatten.2 ⟨l, List.mem_of_getElem? hj, hq⟩) rfl
    refine hq i hn.2.1 fun b hb j bl hj hl hbl => ?_
    rcases k4 b hb with h | h
    ·exact DH (f := id) hnf hl h5 hj b hbl h
    ·refine h ⟨?_, hS b (List.mem_append_right _ (List.mem_flatten.2 ⟨bl, List.mem_of_getElem? hl, hbl⟩))⟩
     obtain ⟨y, _, z, _, h⟩ := h3.PT bl (List.mem_of_getElem? hl)
     exact L.lt h b hbl
   ·intro p hp q hq e
    subst e
    have hpg : p = g := by simpa [Av] using hp
    subst hpg
    rcases hmem p hq with h | ⟨j, bl, _, hl, h⟩
    ·rcases k4 p h with h | h
     ·exact hn.2.2 p hgm p (hbx p h) rfl
     ·exact h ⟨hgl, hS p (List.mem_append_left _ hgm)⟩
    ·exact hn.2.2 p hgm p (List.mem_flatten.2 ⟨bl, List.mem_of_getElem? hl, h⟩) rfl
  ·intro b hb
   rcases List.mem_append.1 hb with hb | hb
   ·exact .inl (hS b (List.mem_append_left _ (by simpa [Av] using hb)))
   ·obtain ⟨l, hl, hbl⟩ := List.mem_flatten.1 hb
    rcases List.mem_or_eq_of_mem_set hl with h | h
    ·exact .inl (hS b (List.mem_append_right _ (List.mem_flatten.2 ⟨l, h, hbl⟩)))
    ·exact .inr (k3 b (h ▸ hbl))
end
end Go.Ev
