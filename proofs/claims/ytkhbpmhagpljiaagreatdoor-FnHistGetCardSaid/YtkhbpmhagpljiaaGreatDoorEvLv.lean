/- A part of the proof, without conditions. -/
import Derived.Lib.Overlaps
import Derived.Lib.AppendZerosOnto
import Derived.Laws.Externs
import Derived.Test.YtkhbpmhagpljiaaGreatDoorEvHj
import Derived.Test.YtkhbpmhagpljiaaGreatDoorEvX
import Derived.Test.YtkhbpmhagpljiaaGreatDoorEvO
set_option linter.unusedVariables false
set_option linter.unusedSimpArgs false
set_option linter.deprecated false
namespace Go.Ev
open Go Go.RowKit
section
variable {P : Program}
end
end Go.Ev
namespace Go.Ev
open Go Go.RowKit
section
variable {P : Program} {S : Nat → Prop} {w w' : World} {E mx : Nat}
def Raw (E : TypeId) (w : World) (g : Nat) (xs : List ByteArray) (c : Nat) : Prop :=
 ∃ cur : List Value, hp w g = some (.cells cur.toArray E (0, 0)) ∧ xs.length ≤ c ∧ c ≤ cur.length ∧ c ≤ 9223372036854775807 ∧ cur.take xs.length = xs.map Value.string ∧ ∀ x ∈ xs, x.size ≤ 140737488351232
theorem PR : ∀ {xs : List ByteArray}, (∀ x ∈ xs, x.size ≤ 140737488351232) → GB HG (fun _ => False) w (xs.map fun x => [.string x]) xs
 | [], _ => GB.nil
 | x :: xs, h => by
  obtain ⟨bss, h1, h2, h3⟩ := PR (fun y hy => h y (List.mem_cons_of_mem _ hy))
  exact ⟨[] :: bss, ⟨⟨rfl, h x (List.mem_cons_self ..), rfl⟩, h1⟩, by simpa using h2, by simpa using h3⟩
theorem Raw.o {g c : Nat} {xs : List ByteArray} (h : Raw E w g xs c) (hm : xs.length ≤ mx) : O (AY E mx HG) (fun b => b = g) w [.slice (some ⟨g, 0, none⟩) xs.length c] xs := by
 obtain ⟨cur, h1, h2, h3, h4, h5, h6⟩ := h
 have hfl : (xs.map fun x => [Value.string x]).flatten = xs.map Value.string := by
  clear h5 h2 hm h6
  induction xs with
  | nil => rfl
  | cons x xs ih => simp only [List.map_cons, List.flatten_cons, ih]; rfl
 have hO : K0 w 0 E HG.n (.slice (some ⟨g, 0, none⟩) xs.length c) xs.length (xs.map fun x => [Value.string x]).flatten := by
  rw [hfl]
  refine ⟨by simp [show HG.n = 1 from rfl], by omega, .inr ⟨g, c, cur.toArray, rfl, Nat.zero_le _, h1, h2, h4, by simp [show HG.n = 1 from rfl]; omega, by simp [show HG.n = 1 from rfl, h5]⟩⟩
 exact (O.mk (mx := mx) (S1 := fun _ => False) hO (PR h6) (fun _ _ h => h) hm).wide fun b hb _ => by
  rcases hb with h | h
  ·exact h.elim
  ·simpa [AF] using h
theorem Tb {t ty e s y : Nat} (h : Hu P t = some (e, s, y)) {g n cap : Nat} {cur : Array Value} (hh : hp w g = some (.cells cur e (0, 0))) {b o m c : Nat} {news : List Value} (hA : At w b o news) (hn : news.length = m * s) (h1 : news.all Value.oneCell' = true) (hroom : n + m ≤ cap) (hfit : n * s + news.length ≤ cur.size) :
  Ar P #[t, t] ty #[.slice (some ⟨g, 0, none⟩) n cap, .slice (some ⟨b, o, none⟩) m c] w = some (.slice (some ⟨g, 0, none⟩) (n + m) cap, w.setRow g (cur.toList.take (n * s) ++ news ++ cur.toList.drop (n * s + news.length)).toArray) := by
 obtain ⟨hu, i, hi, h4, h5⟩ := Nr h
 have hA' : ∀ j u, news[j]? = Option.some u → w.cell? ((⟨b, o, none⟩ : Addr).add j) = Option.some u := fun j u hu => by rw [add_lit, cell?_eq]; exact hA j u hu
 have h1' : ∀ u ∈ news, u.oneCell' = true := fun u hu => List.all_eq_true.1 h1 u hu
 have hr := run_append_room (P := P) w t ty e i hu hi g n cap cur hh ⟨b, o, none⟩ m c news (by rw [h4]; exact hn) hA' h1' hroom (by rw [h4]; exact hfit)
 have hx := congrArg ro hr
 rw [h4] at hx
 exact hx
end
def Cx (c : UInt8) : Nat → List UInt8 → List (List UInt8)
 | 0, l => [l]
 | n + 1, l => match DI c l with
  | none => [l]
  | some p => p.1 :: Cx c n p.2
theorem Ld {c : UInt8} : ∀ {l : List UInt8}, c ∉ l → DI c l = none
 | [], _ => rfl
 | b :: l, h => by
  have hb : ¬ b = c := fun e => h (by rw [e]; exact List.mem_cons_self)
  unfold DI
  rw [if_neg hb, Ld fun hm => h (List.mem_cons_of_mem _ hm)]
  rfl
theorem EY {c : UInt8} {l : List UInt8} (h : c ∉ l) : ∀ n, Cx c n l = [l]
 | 0 => rfl
 | n + 1 => by unfold Cx; rw [Ld h]
theorem H0 {c : UInt8} {a b : List UInt8} (h : c ∉ a) (n : Nat) : Cx c (n + 1) (a ++ c :: b) = a :: Cx c n b := by
 show (match DI c (a ++ c :: b) with | none => _ | some p => _) = _
 rw [IA h]
theorem LJ (c : UInt8) : ∀ (n : Nat) (l : List UInt8), ∀ x ∈ Cx c n l, x.length ≤ l.length
 | 0, l, x, h => by simp [Cx] at h; rw [h]; exact Nat.le_refl _
 | n + 1, l, x, h => by
  unfold Cx at h
  cases hc : DI c l with
  | none => rw [hc] at h; simp at h; rw [h]; exact Nat.le_refl _
  | some p =>
   rw [hc] at h
   have h1 := (GF hc).1
   have hlen : l.length = p.1.length + (p.2.length + 1) := by conv => lhs; rw [h1]; simp
   rcases List.mem_cons.1 h with rfl | h
   ·omega
   ·have := LJ c n p.2 x h; omega
theorem Pe {c : UInt8} (h : c.toNat < 48 ∨ 57 < c.toNat) (v : Nat) : c ∉ Bn v := fun hm => by
 have := Kl c hm
 omega
theorem UE : ∀ (v : Nat), 10 ≤ v → (Bn v).head? ≠ some 48 := by
 intro v
 induction v using Nat.strongRecOn with
 | _ v ih =>
  intro h10
  rw [EU Ad]
  by_cases h : v / 10 < 10
  ·rw [Dy h]
   intro hh
   have : dg (v / 10) = 48 := by simpa using hh
   have h2 := congrArg UInt8.toNat this
   rw [Pa h] at h2
   have h3 : (48 : UInt8).toNat = 48 := rfl
   omega
  ·obtain ⟨c, l, h1, _, _⟩ := Pc (v / 10)
   have := ih (v / 10) Ad Ad
   rw [h1] at this ⊢
   simpa using this
theorem UF {P : Program} {E : TypeId} {w : World} {g : Nat} {s : ByteArray} (hs : s.size ≤ 140737488351232) (h : hp w g = some (.cells #[.string s] E (0, 0))) : D (AY E 8796093021952 HG) (fun b => b = g) w [.slice (some ⟨g, 0, none⟩) 1 1] [s] := by
 have hvr : Raw E w g [s] 1 := ⟨[.string s], h, by simp, by simp, by omega, rfl, by simpa using hs⟩
 exact (hvr.o (mx := 8796093021952) (by simp)).d
theorem At.new {w : World} {cs : List Value} {E : TypeId} : At (w.alloc (.cells cs.toArray E)) w.heap.size 0 cs := by
 intro j v hv
 rw [Av rfl, Bt, ← CD, Nat.zero_add]
 simpa using hv
end Go.Ev
