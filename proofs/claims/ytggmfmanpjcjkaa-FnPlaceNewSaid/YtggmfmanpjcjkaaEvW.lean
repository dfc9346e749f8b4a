/- A part of the proof: an evaluator of the model, its laws, and contracts of functions; no condition. -/
import Derived.Test.YtggmfmanpjcjkaaEvO
set_option linter.unusedVariables false
set_option linter.unusedSimpArgs false
namespace Go.Ev
open Go Go.RowKit
/-! ### Plain laws of tags, causes and stores -/
theorem tag_ext {a b : Tag} (h1 : a.t = b.t) (h2 : a.p = b.p) : a = b := by cases a; cases b; simp_all
theorem pastOk_iff {xs : List Tag} : pastOk xs = true ↔ xs.all tagOk = true ∧ xs.length = 4 := by simp [pastOk]
theorem storeOk_iff {xs : List Ver} : storeOk xs = true ↔ slots 0 xs = true ∧ xs.length = 4 := by simp [storeOk]
theorem slots_get : ∀ {xs : List Ver} {i k : Nat} {x : Ver}, slots i xs = true → xs[k]? = some x → slotOk (i + k) x = true
  | a :: xs, i, 0, x, h, hx => by
    simp only [slots, Bool.and_eq_true] at h
    obtain rfl : a = x := by simpa using hx
    exact h.1
  | a :: xs, i, k + 1, x, h, hx => by
    simp only [slots, Bool.and_eq_true] at h
    have := slots_get (i := i + 1) (k := k) h.2 (by simpa using hx)
    rwa [show i + 1 + k = i + (k + 1) by omega] at this
  | [], _, _, _, _, hx => by simp at hx
end Go.Ev
