/- For every input the law FnExactHistPut of the given program returns true, and each argument reads behind the call as it read before. The tables of package math/bits and of internal/strconv, and strconv's two errors where they are listed, stand as the program's text lays them (the card ties them to it); no condition beyond. -/
import Derived.Test.YtkhbpmhagpljiaaDoorRows
import Derived.Test.YtkhbpmhagpljiaaDoorTie
import Derived.Test.YtkhbpmhagpljiaaDoorCards
import Derived.SevenTiedAt
import Derived.Stop.Joined
import Derived.Lay
import Derived.Test.YtkhbpmhagpljiaaDoorEvI
import Derived.Test.YtkhbpmhagpljiaaDoorEvLd
import Derived.Test.YtkhbpmhagpljiaaDoorU12
namespace Go.Proofs.YtkhbpmhagpljiaaDoor.fnExactHistPut
open Go.ChangeShapes Go.WideShapes Go.ChangeAt Go.RowKit Go.Ev Go.Proofs.YtkhbpmhagpljiaaDoor.X
open Go.ChangeMaps (open_string shut_string)
set_option linter.unusedVariables false
theorem own : ownKnob Tryd.prog.godebug = none := by kernel_rfl
theorem laidOut : laidOutB Tryd.prog = true := by kernel_rfl
def laidL : List (String × DataW Unit) := [("math/bits.deBruijn32tab", Rows.laid_math_bits_deBruijn32tab), ("math/bits.deBruijn64tab", Rows.laid_math_bits_deBruijn64tab), ("internal/strconv.uint64pow10", Rows.laid_internal_strconv_uint64pow10)]
theorem door_met (os : Os) (args : Array Value) : laidMetH Tryd.prog laidL ((World.laidAll Tryd.prog os laidL).forCall (fun _ _ => 0) ⟨#[], args, []⟩).memory := by
  rw [MakeChecks.laidMetH_plain _ _ _ (by kernel_rfl)]
  exact laidMet_laidAll _ (by kernel_rfl) (by kernel_rfl)
theorem of_laid {W : World} (h : laidMetH Tryd.prog laidL W) : Glob W := by
  rw [MakeChecks.laidMetH_plain _ _ _ (by kernel_rfl)] at h
  obtain ⟨ps, ⟨g0, t0, cs0, f0, p0, q0, hg0, ht0, hv0, hd0, ⟨g1, t1, cs1, f1, p1, q1, hg1, ht1, hv1, hd1, ⟨g2, t2, cs2, f2, p2, q2, hg2, ht2, hv2, hd2, _, _⟩, _⟩, _⟩, _, _⟩ := h
  refine ⟨?_, ?_, ?_⟩
  · have hk : Tryd.prog.globalNamed "math/bits.deBruijn32tab" = some 4 ∧ (Tryd.prog.globals[4]?).map (·.type) = some 119 := ⟨by kernel_rfl, by kernel_rfl⟩
    obtain rfl := Option.some.inj (hk.1.symm.trans hg0)
    obtain rfl := Option.some.inj (hk.2.symm.trans ht0)
    exact laid_ints (vals := tab32) Tryd.underlying119 Tryd.underlying5 (by kernel_rfl) hg0 hv0 hd0
  · have hk : Tryd.prog.globalNamed "math/bits.deBruijn64tab" = some 5 ∧ (Tryd.prog.globals[5]?).map (·.type) = some 120 := ⟨by kernel_rfl, by kernel_rfl⟩
    obtain rfl := Option.some.inj (hk.1.symm.trans hg1)
    obtain rfl := Option.some.inj (hk.2.symm.trans ht1)
    exact laid_ints (vals := tab64) Tryd.underlying120 Tryd.underlying5 (by kernel_rfl) hg1 hv1 hd1
  · have hk : Tryd.prog.globalNamed "internal/strconv.uint64pow10" = some 1 ∧ (Tryd.prog.globals[1]?).map (·.type) = some 100 := ⟨by kernel_rfl, by kernel_rfl⟩
    obtain rfl := Option.some.inj (hk.1.symm.trans hg2)
    obtain rfl := Option.some.inj (hk.2.symm.trans ht2)
    exact laid_ints (vals := tab10) Tryd.underlying100 Tryd.underlying84 (by kernel_rfl) hg2 hv2 hd2
set_option maxRecDepth 100000 in
theorem lifted (os : Os) (started : os.Started) (H : Type) (enc : TypeId × Value → H) :
    ReturnsInHanded {} Tryd.checked os 3 .any (fun w args => (Rows.fnExactHistPutSpec.pre enc Tryd.prog Tryd.f3 [] false w args ∧ laidMetH Tryd.prog laidL w) ∧ sizedMet enc Tryd.prog Tryd.f3 (OpenSpec.ofChange Rows.fnExactHistPutSpec) false w args) (Rows.fnExactHistPutSpec.post enc Tryd.prog Tryd.f3 false true false false) := by
  refine returnsInHanded_of_change_and (C := Tryd.checked) (X := fun w _ => laidMetH Tryd.prog laidL w) (fun _ _ _ hh h => h.of_heap hh) own started (by kernel_rfl) Tryd.func3
    (ChangeSpec.witness_shaped (enc := enc) (C := Tryd.checked) (os := os) (X := fun w _ => laidMetH Tryd.prog laidL w) false (World.laidAll Tryd.prog os laidL) #[.slice none 0 0] 8 (World.laidAll_os _ _ _) (World.shaped_of_ZipB (by kernel_rfl) (by kernel_rfl)) (by kernel_rfl) (by kernel_rfl) (by kernel_rfl) (door_met os _)) ?_
  intro W base args ds gs before hval0 hW hcnd hsz0 hL _
  have hsz : (DataW.weightsEach Tryd.prog (Tryd.f3.params.toList ++ Rows.fnExactHistPutSpec.plain.varTypes Tryd.prog) (ds ++ gs)).all (· ≤ reachBytes) = true := hsz0
  have hval : ∀ (j : Nat) t v, Tryd.f3.params[j]? = some t → args[j]? = some v → Value.okWide Tryd.prog W .any base t v := hval0
  have hW' := hW
  obtain ⟨p, q, hA0, hV, rfl, hfz, hnd⟩ := hW
  have hA : DataW.TrodAll enc Tryd.prog W 0 (fun _ => true) true Tryd.f3.params.toList args.toList ds p := hA0
  rw [Tryd.params3] at hA hval hsz
  obtain ⟨v0, vs0, d0, ds0, p0, q0, hargs, rfl, rfl, h0, r0⟩ := trodAll_cons hA
  obtain ⟨rfl, rfl, rfl⟩ := trodAll_nil r0
  obtain rfl : args = #[v0] := by cases args; simp_all
  obtain ⟨rfl, rfl⟩ := trodVars_none hV
  have k0 := h0
  have lt0 : ∀ x ∈ p0, x.block < W.heap.size := by obtain ⟨m, hm⟩ := k0; exact DataW.trod_lt m _ _ _ hm
  obtain ⟨fu0, hf0⟩ := h0
  obtain ⟨a0, len0, cap0, rfl⟩ := okWide_slice Tryd.underlying22 (hval 0 22 v0 rfl rfl)
  obtain ⟨x0, hK0⟩ := rlDoneS H enc W fu0 _ _ _ hf0 (weights_at hsz (j := 0) (t := 22) rfl rfl)
  have g0 := (by simpa [Value.cells] using hK0 : D _ (fun b => b < W.heap.size) W [.slice a0 len0 cap0] x0)
  have G := of_laid hL
  clear hA0 hval0 hsz0 hsz
  refine (EV_calls (laws_FnExactHistPut_c G g0)).mono fun e W' ⟨v, he, hv, bel⟩ => ?_
  subst he
  subst hv
  exact ⟨_, rfl, _, _, _, [], _, [], hW', trodAll_mk1 (shut_bool Tryd.underlying4 _), (trodAll_cons_mk (Below.trod laidOut (by kernel_rfl) (of_decide_eq_true (by kernel_rfl)) k0 bel lt0) trodAll_mk0), rfl, bel.frame _, fun h => by cases h⟩
theorem over : Rows.fnExactHistPutRow.holds Tryd.pinned (OpenSpec.ofChange Rows.fnExactHistPutSpec) :=
  OpenClaim.holds_of_wide 3 Tryd.f3 rfl rfl rfl rfl rfl rfl rfl ⟨rfl, rfl, rfl, rfl, rfl⟩ rfl rfl rfl rfl rfl (by kernel_rfl) Tryd.func3 (by kernel_rfl)
    (of_decide_eq_true (by kernel_rfl)) (by unfold Func.isWrapper; first | (rw [if_pos (by decide +kernel)]; kernel_rfl) | (rw [if_neg (by decide +kernel)]; exact ⟨rfl, rfl⟩))
    (fun os started H enc _ => lifted os started H enc)
theorem proved : Rows.FnExactHistPutCardSaid :=
  Claim7.holds_tied_plain_at .later [] [.data, .data, .data] true (true, "eefe6a46f03bf6f71448309931536aeac577d329be589ef31cb10b0279ce6384") true
    over (fun _ h => by cases h) (by kernel_rfl) (fun _ h => by cases h) fnExactHistPut_row_tie rfl ⟨rfl, rfl⟩ (by kernel_rfl) rfl
    (fun f fn hf hfn => by
      obtain rfl : f = 3 := Option.some.inj ((show Tryd.prog.funcNamed "loop.example/confluence/laws.FnExactHistPut" = some 3 by kernel_rfl).symm.trans hf) |>.symm
      obtain rfl : fn = Tryd.f3 := (Option.some.inj (Tryd.func3.symm.trans hfn)).symm
      exact ⟨by kernel_rfl, fun j t ht => by
        rw [Tryd.params3] at ht
        have hm : t ∈ [22] := by simpa using Array.mem_of_getElem? ht
        have hall : ([22].all fun u => !Tryd.prog.wantsStandIn u) = true := by kernel_rfl
        exact (show Tryd.prog.wantsStandIn t = false by simpa using List.all_eq_true.1 hall t hm)⟩)
    (by kernel_rfl)
#print axioms proved
end Go.Proofs.YtkhbpmhagpljiaaDoor.fnExactHistPut
namespace Go.Proofs.YtkhbpmhagpljiaaDoor
/-- The row, under a short name, for the claim. -/
theorem fnExactHistPut_holds : Rows.FnExactHistPutCardSaid := fnExactHistPut.proved
end Go.Proofs.YtkhbpmhagpljiaaDoor
