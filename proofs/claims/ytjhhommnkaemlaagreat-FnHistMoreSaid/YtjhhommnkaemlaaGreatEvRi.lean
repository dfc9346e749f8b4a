/- A part of the proof, without conditions. -/
import Derived.Lib.Overlaps
import Derived.Lib.AppendZerosOnto
import Derived.Laws.Externs
import Derived.Test.YtjhhommnkaemlaaGreatEvHj
import Derived.Test.YtjhhommnkaemlaaGreatEvV
set_option linter.unusedVariables false
set_option linter.unusedSimpArgs false
set_option linter.deprecated false
namespace Go.Ev
open Go Go.RowKit
section
variable {P : Program}
end
end Go.Ev
namespace Go.Ev
open Go Go.RowKit
section
variable {P : Program} {S : Nat → Prop} {w w' : World} {E mx : Nat}
theorem RB {t ty e s y : Nat} (h : EZ P t = some (e, s, y)) {g n cap : Nat} {cur : Array Value} (hh : hp w g = some (.cells cur e (0, 0))) {b o m c : Nat} {news : List Value} (hA : At w b o news) (hn : news.length = m * s) (h1 : news.all Value.oneCell' = true) (hroom : n + m ≤ cap) (hfit : n * s + news.length ≤ cur.size) :
  Au P #[t, t] ty #[.slice (some ⟨g, 0, none⟩) n cap, .slice (some ⟨b, o, none⟩) m c] w = some (.slice (some ⟨g, 0, none⟩) (n + m) cap, w.setRow g (cur.toList.take (n * s) ++ news ++ cur.toList.drop (n * s + news.length)).toArray) := by
 obtain ⟨hu, i, hi, h4, h5⟩ := LC h
 have hA' : ∀ j u, news[j]? = Option.some u → w.cell? ((⟨b, o, none⟩ : Addr).add j) = Option.some u := fun j u hu => by rw [add_lit, cell?_eq]; exact hA j u hu
 have h1' : ∀ u ∈ news, u.oneCell' = true := fun u hu => List.all_eq_true.1 h1 u hu
 have hr := run_append_room (P := P) w t ty e i hu hi g n cap cur hh ⟨b, o, none⟩ m c news (by rw [h4]; exact hn) hA' h1' hroom (by rw [h4]; exact hfit)
 have hx := congrArg ro hr
 rw [h4] at hx
 exact hx
end
end Go.Ev
