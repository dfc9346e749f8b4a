/- A part of the proof: an evaluator of the model, its laws, and contracts of functions; no condition. -/
import Derived.Test.YthicfemhpnnaaaaS2
set_option linter.unusedVariables false
set_option linter.unusedSimpArgs false
set_option maxRecDepth 100000
set_option maxHeartbeats 1000000
namespace Go.Proofs.Ythicfemhpnnaaaa.X
open Go Go.Ev Go.RowKit
def verZ : Ver := ⟨0, ⟨0, 0⟩, [], ⟨#[]⟩, false⟩
theorem zero_Ver (w : World) : O tVer (fun _ => False) w [i64 0, i64 0, i64 0, .slice none 0 0, .string ⟨#[]⟩, .bool false] verZ :=
  O.ver.2 ⟨none, 0, rfl, O.nil, by decide⟩
theorem impl_nodesOk_c (n : Int) (w : World) : Ret (EV P 47 #[i64 n] w) fun r => r = (.bool (decide (1 ≤ n) && decide (n ≤ 4)), w) := by
  refine Ret.post fun Q hQ => ?_
  refine Ret.enter plain mixed (impl_nodesOk_fn _ _) (by kernel_rfl) (n := 1) (by kernel_rfl) rfl ?_
  simp (disch := first | assumption | omega | (simp only [World.size_alloc, size_setRow, dw_size]; done) | (simp only [World.size_alloc, size_setRow, dw_size] <;> omega) | (simp only [List.length_set, Array.length_toList, List.length_cons, List.length_nil, List.length_append, bts_size] <;> omega) | (simp only [List.all_cons, List.all_nil, Value.oneCell', Bool.and_self, Bool.and_true]; done)) [-Option.bind_some, hp_alloc_lt, hp_alloc_eq, hp_set_ne, wrap_small, ups_ap_cons, ups_ap_nil, upd_same, upd_other, env0_ap0, env0_aps, xt_a, xt_b, xt_c]
  refine Ret.bind (impl_within_c _ _ _ _) ?_
  rintro _ rfl
  simp (disch := first | assumption | omega | (simp only [World.size_alloc, size_setRow, dw_size]; done) | (simp only [World.size_alloc, size_setRow, dw_size] <;> omega) | (simp only [List.length_set, Array.length_toList, List.length_cons, List.length_nil, List.length_append, bts_size] <;> omega) | (simp only [List.all_cons, List.all_nil, Value.oneCell', Bool.and_self, Bool.and_true]; done)) [-Option.bind_some, hp_alloc_lt, hp_alloc_eq, hp_set_ne, wrap_small, ups_ap_cons, ups_ap_nil, upd_same, upd_other, env0_ap0, env0_aps, xt_a, xt_b, xt_c]
  exact hQ _ rfl
end Go.Proofs.Ythicfemhpnnaaaa.X
