/- A part of the proof: an evaluator of the model, its laws, and contracts of functions; no condition. -/
import Derived.Test.YtkhbpmhagpljiaaDoorEvLz
import Derived.Test.YtkhbpmhagpljiaaDoorEvHi
set_option linter.unusedVariables false
set_option linter.unusedSimpArgs false
namespace Go.Ev
open Go Go.RowKit
/-! ### What was done, as text -/
def wWrite : List UInt8 := [119, 114, 105, 116, 101]
def wRead : List UInt8 := [114, 101, 97, 100]
def wSure : List UInt8 := [115, 117, 114, 101]
def kindWs : List (List UInt8) := [[], wWrite, wRead, wSure]
def kindL (k : Int) : List UInt8 := if k = 1 then wWrite else if k = 2 then wRead else wSure
def lineL (d : Done) : List UInt8 := decL d.sess.toNat ++ 32 :: (kindL d.kind ++ 32 :: (decL d.key.toNat ++ 32 :: tagL d.tag))
def histL : List Done → List UInt8
  | [] => []
  | d :: l => lineL d ++ 10 :: histL l
theorem histL_app : ∀ (a b : List Done), histL (a ++ b) = histL a ++ histL b
  | [], b => rfl
  | d :: a, b => by simp only [List.cons_append, histL, histL_app a b, List.append_assoc]
theorem kindL_at {k : Int} (h1 : 1 ≤ k) (h2 : k ≤ 3) : kindWs[k.toNat]? = some (kindL k) := by
  have : k = 1 ∨ k = 2 ∨ k = 3 := by omega
  rcases this with rfl | rfl | rfl <;> rfl
/-- What is read as a history. -/
def HistGot (l : List UInt8) (xs : List Done) (ok : Bool) : Prop := (ok = true → formP xs = true ∧ histL xs = l) ∧ (ok = false → xs = [] ∧ ∀ ys, formP ys = true → histL ys ≠ l)
theorem formP_ops {l : List Done} (h : formP l = true) : ∀ d ∈ l, opOk d = true := by
  simp only [formP, Bool.and_eq_true, List.all_eq_true] at h
  exact h.1
theorem formP_len {l : List Done} (h : formP l = true) : l.length ≤ 80 := by
  simp only [formP, Bool.and_eq_true, decide_eq_true_eq] at h
  exact h.2
theorem HistGot.len {l : List UInt8} {t : List Done} {ok : Bool} (h : HistGot l t ok) : t.length ≤ 80 := by
  cases ok
  · rw [(h.2 rfl).1]; simp
  · exact formP_len (h.1 rfl).1
def histPutL (l : List Done) : List UInt8 := if formP l then histL l else []
end Go.Ev
