/- The program's PlaceOk returns what the reference's returns: FnExactPlaceOk answers true for all arguments. No condition beyond the statement's own. -/
import Derived.Test.YtggmfmanpjcjkaaGreatRows
import Derived.Test.YtggmfmanpjcjkaaGreatEvI
import Derived.Test.YtggmfmanpjcjkaaGreatEvR
import Derived.Test.YtggmfmanpjcjkaaGreatC0r
import Derived.Test.YtggmfmanpjcjkaaGreatLFnExactPlaceOk
import Derived.Test.YtggmfmanpjcjkaaGreatS0
namespace Go.Proofs.YtggmfmanpjcjkaaGreat.fnExactPlaceOk
open Go.ChangeShapes Go.WideShapes Go.ChangeAt Go.RowKit Go.Ev Go.Proofs.YtggmfmanpjcjkaaGreat.X
open Go.ChangeMaps (open_string shut_string)
set_option linter.unusedVariables false
theorem own : ownKnob Tryz.prog.godebug = none := by kernel_rfl
theorem laidOut : laidOutB Tryz.prog = true := by kernel_rfl
set_option maxRecDepth 100000 in
theorem lifted (os : Os) (started : os.Started) (H : Type) (enc : TypeId × Value → H) :
    ReturnsInHanded {} Tryz.checked os 4 .any (Rows.fnExactPlaceOkSpec.pre6 enc Tryz.prog Tryz.f4 Rows.fnExactPlaceOkRow.domain false) (Rows.fnExactPlaceOkSpec.post enc Tryz.prog Tryz.f4 false true false false) := by
  refine returnsInHanded_of_change_sized (C := Tryz.checked) own started (by kernel_rfl) Tryz.func4
    (ChangeSpec.witness6 (enc := enc) (C := Tryz.checked) false ⟨#[], #[.agg #[.int .i64 0, .int .i64 0, .slice none 0 0, .slice none 0 0, .slice none 0 0, .bool false]], []⟩ 8 (by kernel_rfl) (by kernel_rfl) (by kernel_rfl) (by kernel_rfl)) ?_
  intro W base args ds gs before hval0 hW hcnd hsz0 _
  have hsz : (DataW.weightsEach Tryz.prog (Tryz.f4.params.toList ++ Rows.fnExactPlaceOkSpec.plain.varTypes Tryz.prog) (ds ++ gs)).all (· ≤ reachBytes) = true := hsz0
  have hval : ∀ (j : Nat) t v, Tryz.f4.params[j]? = some t → args[j]? = some v → Value.okWide Tryz.prog W .any base t v := hval0
  have hW' := hW
  obtain ⟨p, q, hA0, hV, rfl, hfz, hnd⟩ := hW
  have hA : DataW.TrodAll enc Tryz.prog W 0 (fun _ => true) true Tryz.f4.params.toList args.toList ds p := hA0
  rw [Tryz.params4] at hA hval hsz
  obtain ⟨v0, vs0, d0, ds0, p0, q0, hargs, rfl, rfl, h0, r0⟩ := trodAll_cons hA
  obtain ⟨rfl, rfl, rfl⟩ := trodAll_nil r0
  obtain rfl : args = #[v0] := by cases args; simp_all
  obtain ⟨rfl, rfl⟩ := trodVars_none hV
  have k0 := h0
  have lt0 : ∀ x ∈ p0, x.block < W.heap.size := by obtain ⟨m, hm⟩ := k0; exact DataW.trod_lt m _ _ _ hm
  obtain ⟨fu0, hf0⟩ := h0
  obtain ⟨cs0, rfl, hcz0⟩ := okWide_struct Tryz.underlying41 (hval 0 41 v0 rfl rfl)
  obtain ⟨x0, hK0⟩ := rlPlace H enc W fu0 _ _ _ hf0 (weights_at hsz (j := 0) (t := 41) rfl rfl)
  obtain ⟨l0, hl0⟩ : ∃ l : List Value, cs0 = l.toArray := ⟨cs0.toList, by simp⟩
  subst hl0
  have g0 := (by simpa using hK0 : D _ (fun b => b < W.heap.size) W l0 x0)
  clear hA0 hval0 hsz0 hsz
  refine (EV_calls (laws_FnExactPlaceOk_c g0)).mono fun e W' ⟨v, he, hv, bel⟩ => ?_
  subst he
  subst hv
  exact ⟨_, rfl, _, _, _, [], _, [], hW', trodAll_mk1 (shut_bool Tryz.underlying4 _), (trodAll_cons_mk (Below.trod laidOut (by kernel_rfl) (of_decide_eq_true (by kernel_rfl)) k0 bel lt0) trodAll_mk0), rfl, bel.frame _, fun h => by cases h⟩
theorem over : Rows.fnExactPlaceOkRow.holds Tryz.pinned (OpenSpec.ofChange Rows.fnExactPlaceOkSpec) :=
  OpenClaim.holds_of_wide 4 Tryz.f4 rfl rfl rfl rfl rfl rfl rfl ⟨rfl, rfl, rfl, rfl, rfl⟩ rfl rfl rfl rfl rfl (by kernel_rfl) Tryz.func4 (by kernel_rfl)
    (of_decide_eq_true (by kernel_rfl)) (by unfold Func.isWrapper; first | (rw [if_pos (by decide +kernel)]; kernel_rfl) | (rw [if_neg (by decide +kernel)]; exact ⟨rfl, rfl⟩))
    (fun os started H enc _ => lifted os started H enc)
theorem proved : Rows.FnExactPlaceOkSaid := over
#print axioms proved
end Go.Proofs.YtggmfmanpjcjkaaGreat.fnExactPlaceOk
namespace Go.Proofs.YtggmfmanpjcjkaaGreat
/-- The row, under a short name, for the claim. -/
theorem fnExactPlaceOk_holds : Rows.FnExactPlaceOkSaid := fnExactPlaceOk.proved
end Go.Proofs.YtggmfmanpjcjkaaGreat
