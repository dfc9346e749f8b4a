/- Of a chain, ChainJoin returns what the reference's returns, for all arguments. No condition beyond the statement's own. -/
import Derived.Test.YthicfemhpnnaaaaRows
import Derived.Test.YthicfemhpnnaaaaEvI
import Derived.Test.YthicfemhpnnaaaaEvR
import Derived.Test.YthicfemhpnnaaaaC0r
import Derived.Test.YthicfemhpnnaaaaLFnExactChainJoin
import Derived.Test.YthicfemhpnnaaaaS0
namespace Go.Proofs.Ythicfemhpnnaaaa.fnExactChainJoin
open Go.ChangeShapes Go.WideShapes Go.ChangeAt Go.RowKit Go.Ev Go.Proofs.Ythicfemhpnnaaaa.X
open Go.ChangeMaps (open_string shut_string)
set_option linter.unusedVariables false
theorem own : ownKnob Try.prog.godebug = none := by kernel_rfl
theorem laidOut : laidOutB Try.prog = true := by kernel_rfl
set_option maxRecDepth 100000 in
theorem lifted (os : Os) (started : os.Started) (H : Type) (enc : TypeId × Value → H) :
    ReturnsInHanded {} Try.checked os 10 .any (Rows.fnExactChainJoinSpec.pre6 enc Try.prog Try.f10 Rows.fnExactChainJoinRow.domain false) (Rows.fnExactChainJoinSpec.post enc Try.prog Try.f10 false true false false) := by
  refine returnsInHanded_of_change_sized (C := Try.checked) own started (by kernel_rfl) Try.func10
    (ChangeSpec.witness6 (enc := enc) (C := Try.checked) false ⟨#[], #[.agg #[.slice none 0 0]], []⟩ 8 (by kernel_rfl) (by kernel_rfl) (by kernel_rfl) (by kernel_rfl)) ?_
  intro W base args ds gs before hval0 hW hcnd hsz0 _
  have hsz : (DataW.weightsEach Try.prog (Try.f10.params.toList ++ Rows.fnExactChainJoinSpec.plain.varTypes Try.prog) (ds ++ gs)).all (· ≤ reachBytes) = true := hsz0
  have hval : ∀ (j : Nat) t v, Try.f10.params[j]? = some t → args[j]? = some v → Value.okWide Try.prog W .any base t v := hval0
  have hW' := hW
  obtain ⟨p, q, hA0, hV, rfl, hfz, hnd⟩ := hW
  have hA : DataW.TrodAll enc Try.prog W 0 (fun _ => true) true Try.f10.params.toList args.toList ds p := hA0
  rw [Try.params10] at hA hval hsz
  obtain ⟨v0, vs0, d0, ds0, p0, q0, hargs, rfl, rfl, h0, r0⟩ := trodAll_cons hA
  obtain ⟨rfl, rfl, rfl⟩ := trodAll_nil r0
  obtain rfl : args = #[v0] := by cases args; simp_all
  obtain ⟨rfl, rfl⟩ := trodVars_none hV
  have k0 := h0
  have lt0 : ∀ x ∈ p0, x.block < W.heap.size := by obtain ⟨m, hm⟩ := k0; exact DataW.trod_lt m _ _ _ hm
  obtain ⟨fu0, hf0⟩ := h0
  obtain ⟨cs0, rfl, hcz0⟩ := okWide_struct Try.underlying41 (hval 0 41 v0 rfl rfl)
  obtain ⟨x0, hK0⟩ := rlChain H enc W fu0 _ _ _ hf0 (weights_at hsz (j := 0) (t := 41) rfl rfl)
  obtain ⟨l0, hl0⟩ : ∃ l : List Value, cs0 = l.toArray := ⟨cs0.toList, by simp⟩
  subst hl0
  have g0 := (by simpa using hK0 : D _ (fun b => b < W.heap.size) W l0 x0)
  clear hA0 hval0 hsz0 hsz
  refine (EV_calls (laws_FnExactChainJoin_c g0)).mono fun e W' ⟨v, he, hv, bel⟩ => ?_
  subst he
  subst hv
  exact ⟨_, rfl, _, _, _, [], _, [], hW', trodAll_mk1 (shut_bool Try.underlying4 _), (trodAll_cons_mk (Below.trod laidOut (by kernel_rfl) (of_decide_eq_true (by kernel_rfl)) k0 bel lt0) trodAll_mk0), rfl, bel.frame _, fun h => by cases h⟩
theorem over : Rows.fnExactChainJoinRow.holds Try.pinned (OpenSpec.ofChange Rows.fnExactChainJoinSpec) :=
  OpenClaim.holds_of_wide 10 Try.f10 rfl rfl rfl rfl rfl rfl rfl ⟨rfl, rfl, rfl, rfl, rfl⟩ rfl rfl rfl rfl rfl (by kernel_rfl) Try.func10 (by kernel_rfl)
    (of_decide_eq_true (by kernel_rfl)) (by unfold Func.isWrapper; first | (rw [if_pos (by decide +kernel)]; kernel_rfl) | (rw [if_neg (by decide +kernel)]; exact ⟨rfl, rfl⟩))
    (fun os started H enc _ => lifted os started H enc)
theorem proved : Rows.FnExactChainJoinSaid := over
#print axioms proved
end Go.Proofs.Ythicfemhpnnaaaa.fnExactChainJoin
namespace Go.Proofs.Ythicfemhpnnaaaa
/-- The row, under a short name, for the claim. -/
theorem fnExactChainJoin_holds : Rows.FnExactChainJoinSaid := fnExactChainJoin.proved
end Go.Proofs.Ythicfemhpnnaaaa
