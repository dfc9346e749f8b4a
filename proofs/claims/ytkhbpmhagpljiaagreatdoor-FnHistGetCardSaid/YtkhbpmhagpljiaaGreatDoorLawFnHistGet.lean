/- For every code, what the program reads of the drawn text is what the reference reads, and what was read is written just so. The tables of package math/bits and of internal/strconv, and strconv's two errors where they are listed, stand as the program's text lays them (the card ties them to it); no condition beyond. -/
import Derived.Test.YtkhbpmhagpljiaaGreatDoorRows
import Derived.Test.YtkhbpmhagpljiaaGreatDoorTie
import Derived.Test.YtkhbpmhagpljiaaGreatDoorCards
import Derived.SevenTiedAt
import Derived.Stop.Joined
import Derived.Lay
import Derived.Test.YtkhbpmhagpljiaaGreatDoorEvI
import Derived.Test.YtkhbpmhagpljiaaGreatDoorEvJ
import Derived.Test.YtkhbpmhagpljiaaGreatDoorU18
set_option linter.unusedVariables false
set_option linter.unusedSimpArgs false
set_option linter.deprecated false
namespace Go.Proofs.YtkhbpmhagpljiaaGreatDoor.fnHistGet
open Go.ChangeShapes Go.WideShapes Go.ChangeAt Go.RowKit Go.Ev Go.Proofs.YtkhbpmhagpljiaaGreatDoor.X
open Go.ChangeMaps (open_string shut_string)
theorem own : ownKnob Tryz.prog.godebug = none := by kernel_rfl
theorem laidOut : laidOutB Tryz.prog = true := by kernel_rfl
def NC : List (String × DataW Unit) := [("math/bits.deBruijn32tab", Rows.laid_math_bits_deBruijn32tab), ("math/bits.deBruijn64tab", Rows.laid_math_bits_deBruijn64tab), ("internal/strconv.uint64pow10", Rows.laid_internal_strconv_uint64pow10), ("unicode/utf8.acceptRanges", Rows.laid_unicode_utf8_acceptRanges), ("strconv.ErrRange", Rows.laid_strconv_ErrRange), ("strconv.ErrSyntax", Rows.laid_strconv_ErrSyntax), ("unicode/utf8.first", Rows.laid_unicode_utf8_first)]
theorem Ui (os : Os) (args : Array Value) : laidMetH Tryz.prog NC ((World.laidAll Tryz.prog os NC).forCall (fun _ _ => 0) ⟨#[], args, []⟩).memory := by
 rw [MakeChecks.laidMetH_plain _ _ _ (by kernel_rfl)]
 exact laidMet_laidAll _ (by kernel_rfl) (by kernel_rfl)
theorem Vh {W : World} (h : laidMetH Tryz.prog NC W) : GlobE W := by
 rw [MakeChecks.laidMetH_plain _ _ _ (by kernel_rfl)] at h
 obtain ⟨ps, ⟨g0, t0, cs0, f0, p0, q0, hg0, ht0, hv0, hd0, ⟨g1, t1, cs1, f1, p1, q1, hg1, ht1, hv1, hd1, ⟨g2, t2, cs2, f2, p2, q2, hg2, ht2, hv2, hd2, ⟨g3, t3, cs3, f3, p3, q3, hg3, ht3, hv3, hd3, ⟨g4, t4, cs4, f4, p4, q4, hg4, ht4, hv4, hd4, ⟨g5, t5, cs5, f5, p5, q5, hg5, ht5, hv5, hd5, ⟨g6, t6, cs6, f6, p6, q6, hg6, ht6, hv6, hd6, _, _⟩, _⟩, _⟩, _⟩, _⟩, _⟩, _⟩, _, _⟩ := h
 refine ⟨⟨?_, ?_, ?_⟩, ?_, ?_⟩
 ·have hk : Tryz.prog.globalNamed "math/bits.deBruijn32tab" = some 4 ∧ (Tryz.prog.globals[4]?).map (·.type) = some 190 := ⟨by kernel_rfl, by kernel_rfl⟩
  obtain rfl := Option.some.inj (hk.1.symm.trans hg0)
  obtain rfl := Option.some.inj (hk.2.symm.trans ht0)
  exact Lb (Dc := VD) Tryz.underlying190 Tryz.underlying5 (by kernel_rfl) hg0 hv0 hd0
 ·have hk : Tryz.prog.globalNamed "math/bits.deBruijn64tab" = some 5 ∧ (Tryz.prog.globals[5]?).map (·.type) = some 191 := ⟨by kernel_rfl, by kernel_rfl⟩
  obtain rfl := Option.some.inj (hk.1.symm.trans hg1)
  obtain rfl := Option.some.inj (hk.2.symm.trans ht1)
  exact Lb (Dc := VE) Tryz.underlying191 Tryz.underlying5 (by kernel_rfl) hg1 hv1 hd1
 ·have hk : Tryz.prog.globalNamed "internal/strconv.uint64pow10" = some 1 ∧ (Tryz.prog.globals[1]?).map (·.type) = some 140 := ⟨by kernel_rfl, by kernel_rfl⟩
  obtain rfl := Option.some.inj (hk.1.symm.trans hg2)
  obtain rfl := Option.some.inj (hk.2.symm.trans ht2)
  exact Lb (Dc := VF) Tryz.underlying140 Tryz.underlying120 (by kernel_rfl) hg2 hv2 hd2
 ·have hk : Tryz.prog.globalNamed "strconv.ErrRange" = some 3 ∧ (Tryz.prog.globals[3]?).map (·.type) = some 43 := ⟨by kernel_rfl, by kernel_rfl⟩
  obtain rfl := Option.some.inj (hk.1.symm.trans hg4)
  obtain rfl := Option.some.inj (hk.2.symm.trans ht4)
  exact NI Tryz.underlying43 hg4 hv4 hd4
 ·have hk : Tryz.prog.globalNamed "strconv.ErrSyntax" = some 2 ∧ (Tryz.prog.globals[2]?).map (·.type) = some 43 := ⟨by kernel_rfl, by kernel_rfl⟩
  obtain rfl := Option.some.inj (hk.1.symm.trans hg5)
  obtain rfl := Option.some.inj (hk.2.symm.trans ht5)
  exact NI Tryz.underlying43 hg5 hv5 hd5
set_option maxRecDepth 100000 in
theorem lifted (os : Os) (started : os.Started) (H : Type) (enc : TypeId × Value → H) :
  ReturnsInHanded {} Tryz.checked os 4 .any (fun w args => (Rows.fnHistGetSpec.pre enc Tryz.prog Tryz.f4 [] false w args ∧ laidMetH Tryz.prog NC w) ∧ sizedMet enc Tryz.prog Tryz.f4 (OpenSpec.ofChange Rows.fnHistGetSpec) false w args) (Rows.fnHistGetSpec.post enc Tryz.prog Tryz.f4 false true false false) := by
 refine returnsInHanded_of_change_and (C := Tryz.checked) (X := fun w _ => laidMetH Tryz.prog NC w) (fun _ _ _ hh h => h.of_heap hh) own started (by kernel_rfl) Tryz.func4
  (ChangeSpec.witness_shaped (enc := enc) (C := Tryz.checked) (os := os) (X := fun w _ => laidMetH Tryz.prog NC w) false (World.laidAll Tryz.prog os NC) #[.slice none 0 0] 8 (World.laidAll_os _ _ _) (World.shaped_of_ZipB (by kernel_rfl) (by kernel_rfl)) (by kernel_rfl) (by kernel_rfl) (by kernel_rfl) (Ui os _)) ?_
 intro W base args ds gs before hval0 hW hcnd hsz0 hL _
 have hsz : (DataW.weightsEach Tryz.prog (Tryz.f4.params.toList ++ Rows.fnHistGetSpec.plain.varTypes Tryz.prog) (ds ++ gs)).all (· ≤ reachBytes) = true := hsz0
 have hval : ∀ (j : Nat) t v, Tryz.f4.params[j]? = some t → args[j]? = some v → Value.okWide Tryz.prog W .any base t v := hval0
 have hW' := hW
 obtain ⟨p, q, hA0, hV, rfl, hfz, hnd⟩ := hW
 have hA : DataW.TrodAll enc Tryz.prog W 0 (fun _ => true) true Tryz.f4.params.toList args.toList ds p := hA0
 rw [Tryz.params4] at hA hval hsz
 obtain ⟨v0, vs0, d0, ds0, p0, q0, hargs, rfl, rfl, h0, r0⟩ := trodAll_cons hA
 obtain ⟨rfl, rfl, rfl⟩ := trodAll_nil r0
 obtain rfl : args = #[v0] := by cases args; simp_all
 obtain ⟨rfl, rfl⟩ := trodVars_none hV
 have k0 := h0
 have lt0 : ∀ x ∈ p0, x.block < W.heap.size := by obtain ⟨m, hm⟩ := k0; exact DataW.trod_lt m _ _ _ hm
 obtain ⟨fu0, hf0⟩ := h0
 obtain ⟨a0, len0, cap0, rfl⟩ := okWide_slice Tryz.underlying22 (hval 0 22 v0 rfl rfl)
 obtain ⟨x0, s0, hs0, g0⟩ := UT H enc W fu0 _ _ _ hf0 (Rm hsz (j := 0) (t := 22) rfl rfl)
 obtain rfl : Value.slice a0 len0 cap0 = s0 := by simpa [Value.cells] using hs0
 have G := Vh hL
 clear hA0 hval0 hsz0 hsz
 refine (Ug (Lc G g0)).mono fun e W' ⟨v, he, hv, bel⟩ => ?_
 subst he
 subst hv
 exact ⟨_, rfl, _, _, _, [], _, [], hW', trodAll_mk1 (shut_bool Tryz.underlying4 _), (trodAll_cons_mk (Below.trod laidOut (by kernel_rfl) (of_decide_eq_true (by kernel_rfl)) k0 bel lt0) trodAll_mk0), rfl, bel.frame _, fun h => by cases h⟩
theorem over : Rows.fnHistGetRow.holds Tryz.pinned (OpenSpec.ofChange Rows.fnHistGetSpec) :=
 OpenClaim.holds_of_wide 4 Tryz.f4 rfl rfl rfl rfl rfl rfl rfl ⟨rfl, rfl, rfl, rfl, rfl⟩ rfl rfl rfl rfl rfl (by kernel_rfl) Tryz.func4 (by kernel_rfl)
  (of_decide_eq_true (by kernel_rfl)) (by unfold Func.isWrapper; first | (rw [if_pos (by decide +kernel)]; kernel_rfl) | (rw [if_neg (by decide +kernel)]; exact ⟨rfl, rfl⟩))
  (fun os started H enc _ => lifted os started H enc)
theorem proved : Rows.FnHistGetCardSaid :=
 Claim7.holds_tied_plain_at .later [] [.data, .data, .data, .data, .sentinel, .sentinel, .pinned] true (true, "38169865d83e0b9cb5242a5cfd059eca3d1e6634404b724908b4e2b3f89c0f95") true
  over (fun _ h => by cases h) (by kernel_rfl) (fun _ h => by cases h) fnHistGet_row_tie rfl ⟨rfl, rfl⟩ (by kernel_rfl) rfl
  (fun f fn hf hfn => by
   obtain rfl : f = 4 := Option.some.inj ((show Tryz.prog.funcNamed "loop.example/confluence/laws.FnHistGet" = some 4 by kernel_rfl).symm.trans hf) |>.symm
   obtain rfl : fn = Tryz.f4 := (Option.some.inj (Tryz.func4.symm.trans hfn)).symm
   exact ⟨by kernel_rfl, fun j t ht => by
    rw [Tryz.params4] at ht
    have hm : t ∈ [22] := by simpa using Array.mem_of_getElem? ht
    have hall : ([22].all fun u => !Tryz.prog.wantsStandIn u) = true := by kernel_rfl
    exact (show Tryz.prog.wantsStandIn t = false by simpa using List.all_eq_true.1 hall t hm)⟩)
  (by kernel_rfl)
#print axioms proved
end Go.Proofs.YtkhbpmhagpljiaaGreatDoor.fnHistGet
namespace Go.Proofs.YtkhbpmhagpljiaaGreatDoor
theorem fnHistGet_holds : Rows.FnHistGetCardSaid := fnHistGet.proved
end Go.Proofs.YtkhbpmhagpljiaaGreatDoor
