/- A part of the proof: an evaluator of the model, its laws, and contracts of functions; no condition. -/
import Derived.Test.YtcafhepclddcaaaH27
import Derived.Test.YtcafhepclddcaaaEvL
import Derived.Test.YtcafhepclddcaaaEvR
import Derived.Test.YtcafhepclddcaaaEvT
import Derived.Test.YtcafhepclddcaaaEvJ
import Derived.Test.YtcafhepclddcaaaC13
set_option linter.unusedVariables false
set_option linter.unusedSimpArgs false
set_option maxRecDepth 100000
set_option maxHeartbeats 1000000
namespace Go.Proofs.Ytcafhepclddcaaa.X
open Go Go.Ev Go.RowKit
theorem strwt_app (l k : List ByteArray) : MStr.wtL (l ++ k) = MStr.wtL l + MStr.wtL k := by
  induction l with
  | nil => simp [Mk.wtL]
  | cons z l ih => simp only [List.cons_append, Mk.wtL, ih]; omega
theorem strwt_cut (xs : List ByteArray) (k : Nat) : MStr.wtL (xs.take k) + MStr.wtL (xs.drop k) = MStr.wtL xs := by
  rw [← strwt_app, List.take_append_drop]
theorem ringAddP_wt (xs : List ByteArray) (s : ByteArray) {m : Int} (t0 : m + (MRing.wt xs : Int) ≤ 1048576) (h0 : ¬ m < 0) (hs : ¬ (1048576 : Int) < s.size) : MRing.wt (ringAddP xs s).1 ≤ 1000000000000 := by
  have e : ∀ l, MRing.wt l = MStr.wtL l := fun _ => rfl
  rw [e] at t0 ⊢
  unfold ringAddP
  split
  · split
    · simp only; omega
    · have h1 := strwt_cut xs (posP xs s)
      have h2 : MStr.wtL [s] = 1 + s.size := by simp only [Mk.wtL]; rfl
      simp only [strwt_app, h2]
      omega
  · simp [Mk.wtL]
theorem rlStrS : Rl P 51 tStrs := rl_list (bytes := 16) Try.underlying51 (by kernel_rfl) (by decide) (by kernel_rfl) (by decide) (by decide) (rl_str Try.underlying9)
theorem rlRing : Rl P 53 tStrs := rd_struct Try.underlying53 (by kernel_rfl) rfl (rd_one (n := 1) rfl (by kernel_rfl) rlStrS)
end Go.Proofs.Ytcafhepclddcaaa.X
