/- For every input the law FnExactHistGet of the given program returns true, and each argument reads behind the call as it read before. The tables of package math/bits and of internal/strconv, and strconv's two errors where they are listed, stand as the program's text lays them (the card ties them to it); no condition beyond. -/
import Derived.Test.YtkhbpmhagpljiaaDoorRows
import Derived.Test.YtkhbpmhagpljiaaDoorTie
import Derived.Test.YtkhbpmhagpljiaaDoorCards
import Derived.SevenTiedAt
import Derived.Stop.Joined
import Derived.Lay
import Derived.Test.YtkhbpmhagpljiaaDoorEvI
import Derived.Test.YtkhbpmhagpljiaaDoorEvLd
import Derived.Test.YtkhbpmhagpljiaaDoorU16
namespace Go.Proofs.YtkhbpmhagpljiaaDoor.fnExactHistGet
open Go.ChangeShapes Go.WideShapes Go.ChangeAt Go.RowKit Go.Ev Go.Proofs.YtkhbpmhagpljiaaDoor.X
open Go.ChangeMaps (open_string shut_string)
set_option linter.unusedVariables false
theorem own : ownKnob Tryd.prog.godebug = none := by kernel_rfl
theorem laidOut : laidOutB Tryd.prog = true := by kernel_rfl
def laidL : List (String × DataW Unit) := [("math/bits.deBruijn32tab", Rows.laid_math_bits_deBruijn32tab), ("math/bits.deBruijn64tab", Rows.laid_math_bits_deBruijn64tab), ("internal/strconv.uint64pow10", Rows.laid_internal_strconv_uint64pow10), ("unicode/utf8.acceptRanges", Rows.laid_unicode_utf8_acceptRanges), ("strconv.ErrRange", Rows.laid_strconv_ErrRange), ("strconv.ErrSyntax", Rows.laid_strconv_ErrSyntax), ("unicode/utf8.first", Rows.laid_unicode_utf8_first)]
theorem door_met (os : Os) (args : Array Value) : laidMetH Tryd.prog laidL ((World.laidAll Tryd.prog os laidL).forCall (fun _ _ => 0) ⟨#[], args, []⟩).memory := by
  rw [MakeChecks.laidMetH_plain _ _ _ (by kernel_rfl)]
  exact laidMet_laidAll _ (by kernel_rfl) (by kernel_rfl)
theorem of_laid {W : World} (h : laidMetH Tryd.prog laidL W) : GlobE W := by
  rw [MakeChecks.laidMetH_plain _ _ _ (by kernel_rfl)] at h
  obtain ⟨ps, ⟨g0, t0, cs0, f0, p0, q0, hg0, ht0, hv0, hd0, ⟨g1, t1, cs1, f1, p1, q1, hg1, ht1, hv1, hd1, ⟨g2, t2, cs2, f2, p2, q2, hg2, ht2, hv2, hd2, ⟨g3, t3, cs3, f3, p3, q3, hg3, ht3, hv3, hd3, ⟨g4, t4, cs4, f4, p4, q4, hg4, ht4, hv4, hd4, ⟨g5, t5, cs5, f5, p5, q5, hg5, ht5, hv5, hd5, ⟨g6, t6, cs6, f6, p6, q6, hg6, ht6, hv6, hd6, _, _⟩, _⟩, _⟩, _⟩, _⟩, _⟩, _⟩, _, _⟩ := h
  refine ⟨⟨?_, ?_, ?_⟩, ?_, ?_⟩
  · have hk : Tryd.prog.globalNamed "math/bits.deBruijn32tab" = some 4 ∧ (Tryd.prog.globals[4]?).map (·.type) = some 119 := ⟨by kernel_rfl, by kernel_rfl⟩
    obtain rfl := Option.some.inj (hk.1.symm.trans hg0)
    obtain rfl := Option.some.inj (hk.2.symm.trans ht0)
    exact laid_ints (vals := tab32) Tryd.underlying119 Tryd.underlying5 (by kernel_rfl) hg0 hv0 hd0
  · have hk : Tryd.prog.globalNamed "math/bits.deBruijn64tab" = some 5 ∧ (Tryd.prog.globals[5]?).map (·.type) = some 120 := ⟨by kernel_rfl, by kernel_rfl⟩
    obtain rfl := Option.some.inj (hk.1.symm.trans hg1)
    obtain rfl := Option.some.inj (hk.2.symm.trans ht1)
    exact laid_ints (vals := tab64) Tryd.underlying120 Tryd.underlying5 (by kernel_rfl) hg1 hv1 hd1
  · have hk : Tryd.prog.globalNamed "internal/strconv.uint64pow10" = some 1 ∧ (Tryd.prog.globals[1]?).map (·.type) = some 100 := ⟨by kernel_rfl, by kernel_rfl⟩
    obtain rfl := Option.some.inj (hk.1.symm.trans hg2)
    obtain rfl := Option.some.inj (hk.2.symm.trans ht2)
    exact laid_ints (vals := tab10) Tryd.underlying100 Tryd.underlying84 (by kernel_rfl) hg2 hv2 hd2
  · have hk : Tryd.prog.globalNamed "strconv.ErrRange" = some 3 ∧ (Tryd.prog.globals[3]?).map (·.type) = some 48 := ⟨by kernel_rfl, by kernel_rfl⟩
    obtain rfl := Option.some.inj (hk.1.symm.trans hg4)
    obtain rfl := Option.some.inj (hk.2.symm.trans ht4)
    exact laid_iface Tryd.underlying48 hg4 hv4 hd4
  · have hk : Tryd.prog.globalNamed "strconv.ErrSyntax" = some 2 ∧ (Tryd.prog.globals[2]?).map (·.type) = some 48 := ⟨by kernel_rfl, by kernel_rfl⟩
    obtain rfl := Option.some.inj (hk.1.symm.trans hg5)
    obtain rfl := Option.some.inj (hk.2.symm.trans ht5)
    exact laid_iface Tryd.underlying48 hg5 hv5 hd5
set_option maxRecDepth 100000 in
theorem lifted (os : Os) (started : os.Started) (H : Type) (enc : TypeId × Value → H) :
    ReturnsInHanded {} Tryd.checked os 4 .any (fun w args => (Rows.fnExactHistGetSpec.pre enc Tryd.prog Tryd.f4 [] false w args ∧ laidMetH Tryd.prog laidL w) ∧ sizedMet enc Tryd.prog Tryd.f4 (OpenSpec.ofChange Rows.fnExactHistGetSpec) false w args) (Rows.fnExactHistGetSpec.post enc Tryd.prog Tryd.f4 false true false false) := by
  refine returnsInHanded_of_change_and (C := Tryd.checked) (X := fun w _ => laidMetH Tryd.prog laidL w) (fun _ _ _ hh h => h.of_heap hh) own started (by kernel_rfl) Tryd.func4
    (ChangeSpec.witness_shaped (enc := enc) (C := Tryd.checked) (os := os) (X := fun w _ => laidMetH Tryd.prog laidL w) false (World.laidAll Tryd.prog os laidL) #[.string ⟨#[]⟩] 8 (World.laidAll_os _ _ _) (World.shaped_of_ZipB (by kernel_rfl) (by kernel_rfl)) (by kernel_rfl) (by kernel_rfl) (by kernel_rfl) (door_met os _)) ?_
  intro W base args ds gs before hval0 hW hcnd hsz0 hL _
  have hsz : (DataW.weightsEach Tryd.prog (Tryd.f4.params.toList ++ Rows.fnExactHistGetSpec.plain.varTypes Tryd.prog) (ds ++ gs)).all (· ≤ reachBytes) = true := hsz0
  have hval : ∀ (j : Nat) t v, Tryd.f4.params[j]? = some t → args[j]? = some v → Value.okWide Tryd.prog W .any base t v := hval0
  have hW' := hW
  obtain ⟨p, q, hA0, hV, rfl, hfz, hnd⟩ := hW
  have hA : DataW.TrodAll enc Tryd.prog W 0 (fun _ => true) true Tryd.f4.params.toList args.toList ds p := hA0
  rw [Tryd.params4] at hA hval hsz
  obtain ⟨v0, vs0, d0, ds0, p0, q0, hargs, rfl, rfl, h0, r0⟩ := trodAll_cons hA
  obtain ⟨rfl, rfl, rfl⟩ := trodAll_nil r0
  obtain rfl : args = #[v0] := by cases args; simp_all
  obtain ⟨rfl, rfl⟩ := trodVars_none hV
  have k0 := h0
  have lt0 : ∀ x ∈ p0, x.block < W.heap.size := by obtain ⟨m, hm⟩ := k0; exact DataW.trod_lt m _ _ _ hm
  obtain ⟨fu0, hf0⟩ := h0
  obtain ⟨x0, rfl⟩ := okWide_string Tryd.underlying9 (hval 0 9 v0 rfl rfl)
  obtain ⟨y0, hy0, hz0⟩ := rd_string Tryd.underlying9 H enc W fu0 _ _ _ hf0 (weights_at hsz (j := 0) (t := 9) rfl rfl)
  obtain rfl : x0 = y0 := by simpa [Value.cells] using hy0
  have G := of_laid hL
  clear hA0 hval0 hsz0 hsz
  refine (EV_calls (laws_FnExactHistGet_c G hz0)).mono fun e W' ⟨v, he, hv, bel⟩ => ?_
  subst he
  subst hv
  exact ⟨_, rfl, _, _, _, [], _, [], hW', trodAll_mk1 (shut_bool Tryd.underlying4 _), (trodAll_cons_mk (Below.trod laidOut (by kernel_rfl) (of_decide_eq_true (by kernel_rfl)) k0 bel lt0) trodAll_mk0), rfl, bel.frame _, fun h => by cases h⟩
theorem over : Rows.fnExactHistGetRow.holds Tryd.pinned (OpenSpec.ofChange Rows.fnExactHistGetSpec) :=
  OpenClaim.holds_of_wide 4 Tryd.f4 rfl rfl rfl rfl rfl rfl rfl ⟨rfl, rfl, rfl, rfl, rfl⟩ rfl rfl rfl rfl rfl (by kernel_rfl) Tryd.func4 (by kernel_rfl)
    (of_decide_eq_true (by kernel_rfl)) (by unfold Func.isWrapper; first | (rw [if_pos (by decide +kernel)]; kernel_rfl) | (rw [if_neg (by decide +kernel)]; exact ⟨rfl, rfl⟩))
    (fun os started H enc _ => lifted os started H enc)
theorem proved : Rows.FnExactHistGetCardSaid :=
  Claim7.holds_tied_plain_at .later [] [.data, .data, .data, .data, .sentinel, .sentinel, .pinned] true (true, "eefe6a46f03bf6f71448309931536aeac577d329be589ef31cb10b0279ce6384") true
    over (fun _ h => by cases h) (by kernel_rfl) (fun _ h => by cases h) fnExactHistGet_row_tie rfl ⟨rfl, rfl⟩ (by kernel_rfl) rfl
    (fun f fn hf hfn => by
      obtain rfl : f = 4 := Option.some.inj ((show Tryd.prog.funcNamed "loop.example/confluence/laws.FnExactHistGet" = some 4 by kernel_rfl).symm.trans hf) |>.symm
      obtain rfl : fn = Tryd.f4 := (Option.some.inj (Tryd.func4.symm.trans hfn)).symm
      exact ⟨by kernel_rfl, fun j t ht => by
        rw [Tryd.params4] at ht
        have hm : t ∈ [9] := by simpa using Array.mem_of_getElem? ht
        have hall : ([9].all fun u => !Tryd.prog.wantsStandIn u) = true := by kernel_rfl
        exact (show Tryd.prog.wantsStandIn t = false by simpa using List.all_eq_true.1 hall t hm)⟩)
    (by kernel_rfl)
#print axioms proved
end Go.Proofs.YtkhbpmhagpljiaaDoor.fnExactHistGet
namespace Go.Proofs.YtkhbpmhagpljiaaDoor
/-- The row, under a short name, for the claim. -/
theorem fnExactHistGet_holds : Rows.FnExactHistGetCardSaid := fnExactHistGet.proved
end Go.Proofs.YtkhbpmhagpljiaaDoor
