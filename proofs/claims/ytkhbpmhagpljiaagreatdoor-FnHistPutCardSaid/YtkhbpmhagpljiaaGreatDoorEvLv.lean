/- A part of the proof, without conditions. -/
import Derived.Lib.Overlaps
import Derived.Lib.AppendZerosOnto
import Derived.Laws.Externs
import Derived.Test.YtkhbpmhagpljiaaGreatDoorEvHj
import Derived.Test.YtkhbpmhagpljiaaGreatDoorEvX
import Derived.Test.YtkhbpmhagpljiaaGreatDoorEvO
set_option linter.unusedVariables false
set_option linter.unusedSimpArgs false
set_option linter.deprecated false
namespace Go.Ev
open Go Go.RowKit
section
variable {P : Program}
end
end Go.Ev
namespace Go.Ev
open Go Go.RowKit
section
variable {P : Program} {S : Nat → Prop} {w w' : World} {E mx : Nat}
theorem RT {t ty e s y : Nat} (h : GQ P t = some (e, s, y)) {g n cap : Nat} {cur : Array Value} (hh : hp w g = some (.cells cur e (0, 0))) {b o m c : Nat} {news : List Value} (hA : At w b o news) (hn : news.length = m * s) (h1 : news.all Value.oneCell' = true) (hroom : n + m ≤ cap) (hfit : n * s + news.length ≤ cur.size) :
  Aq P #[t, t] ty #[.slice (some ⟨g, 0, none⟩) n cap, .slice (some ⟨b, o, none⟩) m c] w = some (.slice (some ⟨g, 0, none⟩) (n + m) cap, w.setRow g (cur.toList.take (n * s) ++ news ++ cur.toList.drop (n * s + news.length)).toArray) := by
 obtain ⟨hu, i, hi, h4, h5⟩ := Me h
 have hA' : ∀ j u, news[j]? = Option.some u → w.cell? ((⟨b, o, none⟩ : Addr).add j) = Option.some u := fun j u hu => by rw [add_lit, cell?_eq]; exact hA j u hu
 have h1' : ∀ u ∈ news, u.oneCell' = true := fun u hu => List.all_eq_true.1 h1 u hu
 have hr := run_append_room (P := P) w t ty e i hu hi g n cap cur hh ⟨b, o, none⟩ m c news (by rw [h4]; exact hn) hA' h1' hroom (by rw [h4]; exact hfit)
 have hx := congrArg ro hr
 rw [h4] at hx
 exact hx
end
def Gs (c : UInt8) : Nat → List UInt8 → List (List UInt8)
 | 0, l => [l]
 | n + 1, l => match Dw c l with
  | none => [l]
  | some p => p.1 :: Gs c n p.2
theorem Kk {c : UInt8} : ∀ {l : List UInt8}, c ∉ l → Dw c l = none
 | [], _ => rfl
 | b :: l, h => by
  have hb : ¬ b = c := fun e => h (by rw [e]; exact List.mem_cons_self)
  unfold Dw
  rw [if_neg hb, Kk fun hm => h (List.mem_cons_of_mem _ hm)]
  rfl
theorem Gt {c : UInt8} {l : List UInt8} (h : c ∉ l) : ∀ n, Gs c n l = [l]
 | 0 => rfl
 | n + 1 => by unfold Gs; rw [Kk h]
theorem KU {c : UInt8} {a b : List UInt8} (h : c ∉ a) (n : Nat) : Gs c (n + 1) (a ++ c :: b) = a :: Gs c n b := by
 show (match Dw c (a ++ c :: b) with | none => _ | some p => _) = _
 rw [Jx h]
theorem Qt (c : UInt8) : ∀ (n : Nat) (l : List UInt8), ∀ x ∈ Gs c n l, x.length ≤ l.length
 | 0, l, x, h => by simp [Gs] at h; rw [h]; exact Nat.le_refl _
 | n + 1, l, x, h => by
  unfold Gs at h
  cases hc : Dw c l with
  | none => rw [hc] at h; simp at h; rw [h]; exact Nat.le_refl _
  | some p =>
   rw [hc] at h
   have h1 := (Ha hc).1
   have hlen : l.length = p.1.length + (p.2.length + 1) := by conv => lhs; rw [h1]; simp
   rcases List.mem_cons.1 h with rfl | h
   ·omega
   ·have := Qt c n p.2 x h; omega
theorem TJ {c : UInt8} (h : c.toNat < 48 ∨ 57 < c.toNat) (v : Nat) : c ∉ Bx v := fun hm => by
 have := Ms c hm
 omega
theorem At.new {w : World} {cs : List Value} {E : TypeId} : At (w.alloc (.cells cs.toArray E)) w.heap.size 0 cs := by
 intro j v hv
 rw [Ar rfl, Bn, ← Cr, Nat.zero_add]
 simpa using hv
end Go.Ev
