/- For every code, a new world of the drawn numbers of nodes and clients is as the reference's, is safe, and all its nodes have the same. No condition beyond the statement's own. -/
import Derived.Test.YtligcpabhddggaaGreatRows
import Derived.Test.YtligcpabhddggaaGreatEvI
import Derived.Test.YtligcpabhddggaaGreatEvR
import Derived.Test.YtligcpabhddggaaGreatEvT
import Derived.Test.YtligcpabhddggaaGreatLFnWorldNew
import Derived.Test.YtligcpabhddggaaGreatS0
namespace Go.Proofs.YtligcpabhddggaaGreat.fnWorldNew
open Go.ChangeShapes Go.WideShapes Go.ChangeAt Go.RowKit Go.Ev Go.Proofs.YtligcpabhddggaaGreat.X
open Go.ChangeMaps (open_string shut_string)
set_option linter.unusedVariables false
theorem own : ownKnob Tryz.prog.godebug = none := by kernel_rfl
theorem laidOut : laidOutB Tryz.prog = true := by kernel_rfl
set_option maxRecDepth 100000 in
theorem lifted (os : Os) (started : os.Started) (H : Type) (enc : TypeId × Value → H) :
    ReturnsInHanded {} Tryz.checked os 3 .any (Rows.fnWorldNewSpec.pre6 enc Tryz.prog Tryz.f3 Rows.fnWorldNewRow.domain false) (Rows.fnWorldNewSpec.post enc Tryz.prog Tryz.f3 false true false false) := by
  refine returnsInHanded_of_change_sized (C := Tryz.checked) own started (by kernel_rfl) Tryz.func3
    (ChangeSpec.witness6 (enc := enc) (C := Tryz.checked) false ⟨#[], #[.slice none 0 0], []⟩ 8 (by kernel_rfl) (by kernel_rfl) (by kernel_rfl) (by kernel_rfl)) ?_
  intro W base args ds gs before hval0 hW hcnd hsz0 _
  have hsz : (DataW.weightsEach Tryz.prog (Tryz.f3.params.toList ++ Rows.fnWorldNewSpec.plain.varTypes Tryz.prog) (ds ++ gs)).all (· ≤ reachBytes) = true := hsz0
  have hval : ∀ (j : Nat) t v, Tryz.f3.params[j]? = some t → args[j]? = some v → Value.okWide Tryz.prog W .any base t v := hval0
  have hW' := hW
  obtain ⟨p, q, hA0, hV, rfl, hfz, hnd⟩ := hW
  have hA : DataW.TrodAll enc Tryz.prog W 0 (fun _ => true) true Tryz.f3.params.toList args.toList ds p := hA0
  rw [Tryz.params3] at hA hval hsz
  obtain ⟨v0, vs0, d0, ds0, p0, q0, hargs, rfl, rfl, h0, r0⟩ := trodAll_cons hA
  obtain ⟨rfl, rfl, rfl⟩ := trodAll_nil r0
  obtain rfl : args = #[v0] := by cases args; simp_all
  obtain ⟨rfl, rfl⟩ := trodVars_none hV
  have k0 := h0
  have lt0 : ∀ x ∈ p0, x.block < W.heap.size := by obtain ⟨m, hm⟩ := k0; exact DataW.trod_lt m _ _ _ hm
  obtain ⟨fu0, hf0⟩ := h0
  obtain ⟨a0, len0, cap0, rfl⟩ := okWide_slice Tryz.underlying22 (hval 0 22 v0 rfl rfl)
  obtain ⟨x0, s0, hs0, g0⟩ := rdBytes H enc W fu0 _ _ _ hf0 (weights_at hsz (j := 0) (t := 22) rfl rfl)
  obtain rfl : Value.slice a0 len0 cap0 = s0 := by simpa [Value.cells] using hs0
  clear hA0 hval0 hsz0 hsz
  refine (EV_calls (laws_FnWorldNew_c g0)).mono fun e W' ⟨v, he, hv, bel⟩ => ?_
  subst he
  subst hv
  exact ⟨_, rfl, _, _, _, [], _, [], hW', trodAll_mk1 (shut_bool Tryz.underlying4 _), (trodAll_cons_mk (Below.trod laidOut (by kernel_rfl) (of_decide_eq_true (by kernel_rfl)) k0 bel lt0) trodAll_mk0), rfl, bel.frame _, fun h => by cases h⟩
theorem over : Rows.fnWorldNewRow.holds Tryz.pinned (OpenSpec.ofChange Rows.fnWorldNewSpec) :=
  OpenClaim.holds_of_wide 3 Tryz.f3 rfl rfl rfl rfl rfl rfl rfl ⟨rfl, rfl, rfl, rfl, rfl⟩ rfl rfl rfl rfl rfl (by kernel_rfl) Tryz.func3 (by kernel_rfl)
    (of_decide_eq_true (by kernel_rfl)) (by unfold Func.isWrapper; first | (rw [if_pos (by decide +kernel)]; kernel_rfl) | (rw [if_neg (by decide +kernel)]; exact ⟨rfl, rfl⟩))
    (fun os started H enc _ => lifted os started H enc)
theorem proved : Rows.FnWorldNewSaid := over
#print axioms proved
end Go.Proofs.YtligcpabhddggaaGreat.fnWorldNew
namespace Go.Proofs.YtligcpabhddggaaGreat
/-- The row, under a short name, for the claim. -/
theorem fnWorldNew_holds : Rows.FnWorldNewSaid := fnWorldNew.proved
end Go.Proofs.YtligcpabhddggaaGreat
