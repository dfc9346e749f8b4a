/- A part of the proof: an evaluator of the model, its laws, and contracts of functions; no condition. -/
import Derived.Test.YtgdacclgooaodaaGreatDoorEvO
import Derived.Test.YtgdacclgooaodaaGreatDoorS11
set_option linter.unusedVariables false
set_option linter.unusedSimpArgs false
set_option maxRecDepth 100000
set_option maxHeartbeats 1000000
namespace Go.Proofs.YtgdacclgooaodaaGreatDoor.X
open Go Go.Ev Go.RowKit
theorem laws_cfPast_m {a b : Option Addr} {n m c c' : Nat} {S S' : Nat → Prop} {xs : List Tag} {w : World} (ha : D tTags S w [.slice a n c] xs) (hb : D tTags S' w [.slice b m c'] xs) :
    Ret (EV P 42 #[.agg #[.slice a n c], .agg #[.slice b m c']] w) fun r => r.1 = .bool true ∧ Ext w r.2 := laws_cfPast_c ha.rTags hb.rTags
theorem laws_cfVer_m {S S' : Nat → Prop} {cs ds : List Value} {x : Ver} {w : World} (ha : D tVer S w cs x) (hb : D tVer S' w ds x) : Ret (EV P 17 #[.agg cs.toArray, .agg ds.toArray] w) fun r => r.1 = .bool true ∧ Ext w r.2 := by
  obtain ⟨a, c, rfl, h1, _⟩ := D.ver.1 ha
  obtain ⟨b, c', rfl, h2, _⟩ := D.ver.1 hb
  refine Ret.post fun Q hQ => ?_
  refine Ret.enter plain mixed (laws_cfVer_fn _ _ _) (by kernel_rfl) (n := 2) (by kernel_rfl) rfl ?_
  simp (maxSteps := 1000000) (disch := first | assumption | omega | (simp only [World.size_alloc, size_setRow, dw_size]; done) | (simp only [World.size_alloc, size_setRow, dw_size] <;> omega) | (simp only [List.length_set, Array.length_toList, List.length_cons, List.length_nil, List.length_append, bts_size] <;> omega) | (simp only [List.all_cons, List.all_nil, Value.oneCell', Bool.and_self, Bool.and_true]; done)) [-Option.bind_some, hp_alloc_lt, hp_alloc_eq, hp_set_ne, wrap_small, ups_ap_cons, ups_ap_nil, upd_same, upd_other, env0_ap0, env0_aps, xt_a, xt_b, xt_c, -splice_eq, -stR_cells, stR_box, stR_boxA, stR_row, stR_row0, stR_row1, stR_rowA, stR_rowA0, splice_rowv, splice_rowv0, splice_rowv1, splice_z, splice_n, splice_s, nth_rowv, nth_rowv0, nth_rowv1, rowv_len, beq_self_eq_true]
  refine Ret.bind (laws_cfPast_m (h1.ext (by (repeat (first | exact Ext.rfl | assumption | (refine Ext.al ?_ _) | (refine Ext.dw ?_) | (refine Ext.set ?_ (by first | omega | (simp only [World.size_alloc, size_setRow, dw_size]; omega)) _) | (refine Ext.tr ?_ (by assumption)))))) (h2.ext (by (repeat (first | exact Ext.rfl | assumption | (refine Ext.al ?_ _) | (refine Ext.dw ?_) | (refine Ext.set ?_ (by first | omega | (simp only [World.size_alloc, size_setRow, dw_size]; omega)) _) | (refine Ext.tr ?_ (by assumption))))))) ?_
  rintro ⟨_, w1⟩ ⟨rfl, E1⟩
  try dsimp only at E1
  have zE1 := E1.size
  try simp only [World.size_alloc, size_setRow, dw_size] at zE1
  simp (maxSteps := 1000000) (disch := first | assumption | omega | (simp only [World.size_alloc, size_setRow, dw_size]; done) | (simp only [World.size_alloc, size_setRow, dw_size] <;> omega) | (simp only [List.length_set, Array.length_toList, List.length_cons, List.length_nil, List.length_append, bts_size] <;> omega) | (simp only [List.all_cons, List.all_nil, Value.oneCell', Bool.and_self, Bool.and_true]; done)) [-Option.bind_some, hp_alloc_lt, hp_alloc_eq, hp_set_ne, wrap_small, ups_ap_cons, ups_ap_nil, upd_same, upd_other, env0_ap0, env0_aps, xt_a, xt_b, xt_c, -splice_eq, -stR_cells, stR_box, stR_boxA, stR_row, stR_row0, stR_row1, stR_rowA, stR_rowA0, splice_rowv, splice_rowv0, splice_rowv1, splice_z, splice_n, splice_s, nth_rowv, nth_rowv0, nth_rowv1, rowv_len, beq_self_eq_true, E1.blk]
  exact hQ _ ⟨rfl, by (repeat (first | exact Ext.rfl | assumption | (refine Ext.al ?_ _) | (refine Ext.dw ?_) | (refine Ext.set ?_ (by first | omega | (simp only [World.size_alloc, size_setRow, dw_size]; omega)) _) | (refine Ext.tr ?_ (by assumption))))⟩
end Go.Proofs.YtgdacclgooaodaaGreatDoor.X
set_option linter.unusedVariables false
set_option linter.unusedSimpArgs false
set_option maxRecDepth 100000
namespace Go.Proofs.YtgdacclgooaodaaGreatDoor.X
open Go Go.Ev Go.RowKit
theorem tmod_nat (a b : Nat) : (a : Int).tmod (b : Int) = ((a % b : Nat) : Int) := by
  rw [Int.tmod_eq_emod_of_nonneg (by omega)]; rfl
theorem tdiv_nat (a b : Nat) : (a : Int).tdiv (b : Int) = ((a / b : Nat) : Int) := by
  rw [Int.tdiv_eq_ediv_of_nonneg (by omega)]; rfl
theorem rBytes_get {w : World} {s : Value} {ns : List Int} (h : rBytes w s ns) {i : Nat} (hi : i < ns.length) : ∃ (b o c m : Nat), s = .slice (some ⟨b, o, none⟩) ns.length c ∧ cellO (hp w b) (o + i) = some (.int .u8 (m : Int)) ∧ m ≤ 255 ∧ b < w.heap.size := by
  obtain ⟨a, c, h1, h2, h3, h4, h5⟩ := h
  rcases h5 with h5 | ⟨b, o, h5, h6⟩
  · subst h5; simp at hi
  · subst h5
    have hm := h4 ns[i] (List.getElem_mem hi)
    obtain ⟨m, hmm⟩ := Int.eq_ofNat_of_zero_le hm.1
    have hc := h6 i (.int .u8 (m : Int)) (by rw [List.getElem?_map, List.getElem?_eq_getElem hi, hmm]; rfl)
    refine ⟨b, o, c, m, h1, hc, by omega, ?_⟩
    rcases Nat.lt_or_ge b w.heap.size with h' | h'
    · exact h'
    · rw [hp, Array.getElem?_eq_none h'] at hc; simp [cellO] at hc
theorem rowB_of {s : Value} {ns : List Int} (h : ns.length ≠ 0) : rowB s ns = (blkOf s).toList := by
  cases ns with
  | nil => exact absurd rfl h
  | cons n ns => rfl
theorem spec_l20Rd_pick_c {b p t : Nat} {k : Nat} (hk : 1 ≤ k) (hk2 : k ≤ 1000000) (hp0 : p ≤ 1000000000000) {s : Value} {ns : List Int} {w : World} (hr : rRd t w b s p) (hs : rBytes w s ns) (hn : ns.length ≤ 1000000000000) (hb : ∀ x ∈ rowB s ns, x ≠ b) :
    Ret (EV P 44 #[pt b 0, i64 k] w) fun r => ∃ m : Nat, r.1 = i64 m ∧ m < k ∧ rRd t r.2 b s ((p + 1 : Nat) : Int) ∧ But w r.2 (some b) := by
  have hs' := hs
  obtain ⟨a, c, rfl, hc, hcm, _, _⟩ := hs
  unfold rRd at *
  have hwr : ∀ x : Int, 0 ≤ x → x ≤ 9000000000000000000 → IntKind.i64.wrap x = x := fun x h0 h1 => w64 (by omega) (by omega)
  have b1 : But w (w.setRow b #[.slice a ns.length c, i64 ((p : Int) + 1)]) (some b) := But.set w b _
  have hx1 : hp (w.setRow b #[.slice a ns.length c, i64 ((p : Int) + 1)]) b = some (.cells #[.slice a ns.length c, i64 (((p + 1 : Nat)) : Int)] t (0, 0)) := by rw [hp_set_eq, hr]; rfl
  refine Ret.enter plain mixed (spec_l20Rd_pick_fn _ _ _) (by kernel_rfl) (n := 2) (by kernel_rfl) rfl ?_
  have kk : ¬ (k : Int) < 1 := by omega
  have kn : (k : Int) ≠ 0 := by omega
  by_cases h0 : ns.length = 0
  · have hz : ((ns.length : Int) == 0) = true := by simp only [beq_iff_eq]; omega
    simp (disch := first | omega | (simp only [World.size_alloc, size_setRow, dw_size]; done) | (simp only [World.size_alloc, size_setRow, dw_size]; omega) | (simp only [List.length_set, Array.length_toList]; omega)) [-Option.bind_some, hp_alloc_lt, hp_alloc_eq, hp_set_ne, nk_ptr, hr, hwr, hz, kk, show ¬ k < 1 by omega]
    exact ⟨0, rfl, by omega, b1⟩
  have hz : ((ns.length : Int) == 0) = false := by simp only [beq_eq_false_iff_ne, ne_eq]; omega
  by_cases h1 : p < ns.length
  · obtain ⟨d, o, c', m, hs, hcell, hm, hd⟩ := rBytes_get hs' h1
    have hdb : d ≠ b := hb d (by rw [rowB_of h0]; simp [hs, blkOf])
    simp only [Value.slice.injEq, true_and] at hs
    obtain ⟨rfl, rfl⟩ := hs
    have hm1 : (m : Int).tmod (k : Int) = ((m % k : Nat) : Int) := tmod_nat m k
    simp (disch := first | omega | (simp only [World.size_alloc, size_setRow, dw_size]; done) | (simp only [World.size_alloc, size_setRow, dw_size]; omega) | (simp only [List.length_set, Array.length_toList]; omega)) [-Option.bind_some, hp_alloc_lt, hp_alloc_eq, hp_set_ne, nk_ptr, hr, hwr, hz, h1, kk, show ¬ k < 1 by omega, ia_34, hcell, hp_set_ne, hdb, bo_rem, kn, hm1]
    exact ⟨m % k, rfl, Nat.mod_lt _ (by omega), b1⟩
  have g1 : p % ns.length < ns.length := Nat.mod_lt _ (by omega)
  have g2 : (p * 7 + 3) % ns.length < ns.length := Nat.mod_lt _ (by omega)
  obtain ⟨d, o, c', m1, hs, hcell1, hm1, hd⟩ := rBytes_get hs' g1
  obtain ⟨d2, o2, c2, m2, hs2, hcell2, hm2, hd2⟩ := rBytes_get hs' g2
  have hdb : d ≠ b := hb d (by rw [rowB_of h0]; simp [hs, blkOf])
  have he := hs.symm.trans hs2
  simp only [Value.slice.injEq, Option.some.injEq, Addr.mk.injEq, true_and, and_true] at he hs
  obtain ⟨⟨rfl, rfl⟩, rfl⟩ := he
  obtain ⟨rfl, rfl⟩ := hs
  have t1 : (p : Int).tmod (ns.length : Int) = ((p % ns.length : Nat) : Int) := tmod_nat _ _
  have t2 : ((p : Int) * 7 + 3).tmod (ns.length : Int) = (((p * 7 + 3) % ns.length : Nat) : Int) := tmod_nat (p * 7 + 3) _
  have t3 : (p : Int).tdiv (ns.length : Int) = ((p / ns.length : Nat) : Int) := tdiv_nat _ _
  have t4 : p / ns.length ≤ p := Nat.div_le_self _ _
  generalize p % ns.length = q1 at *
  generalize (p * 7 + 3) % ns.length = q2 at *
  generalize p / ns.length = q3 at *
  have hn0 : (ns.length : Int) ≠ 0 := by omega
  simp (disch := first | omega | (simp only [World.size_alloc, size_setRow, dw_size]; done) | (simp only [World.size_alloc, size_setRow, dw_size]; omega) | (simp only [List.length_set, Array.length_toList]; omega)) [-Option.bind_some, hp_alloc_lt, hp_alloc_eq, hp_set_ne, nk_ptr, hr, hwr, hz, h1, kk, show ¬ k < 1 by omega, ia_34, hcell1, hcell2, hp_set_ne, hdb, bo_rem, bo_quo, kn, hn0, t1, t2, t3, g1, g2, show ns.length ≤ p by omega]
  obtain ⟨X, hX⟩ : ∃ X : Nat, X = m1 * 131 + m2 * 1117 + p * 29 + q3 * 53 := ⟨_, rfl⟩
  have hXi : (m1 : Int) * 131 + m2 * 1117 + p * 29 + q3 * 53 = (X : Int) := by omega
  have hXd : (X : Int).tdiv 64 = ((X / 64 : Nat) : Int) := tdiv_nat X 64
  rw [hXi, hXd, hwr _ (by omega) (by omega)]
  have hxo := fun x y w => (bo_xor (P := P) 3 x y (a := X) (b := X / 64) (by omega) (by omega) w).1
  rw [hxo]
  generalize (X ^^^ X / 64 : Nat) = Y
  have hY : (Y : Int).tmod (k : Int) = ((Y % k : Nat) : Int) := tmod_nat Y k
  simp (disch := first | omega | (simp only [World.size_alloc, size_setRow, dw_size]; done) | (simp only [World.size_alloc, size_setRow, dw_size]; omega) | (simp only [List.length_set, Array.length_toList]; omega)) [-Option.bind_some, hp_alloc_lt, hp_alloc_eq, hp_set_ne, bo_rem, kn, hY]
  exact ⟨Y % k, rfl, Nat.mod_lt _ (by omega), by simp (disch := first | omega | (simp only [World.size_alloc, size_setRow, dw_size]; done) | (simp only [World.size_alloc, size_setRow, dw_size]; omega) | (simp only [List.length_set, Array.length_toList]; omega)) [-Option.bind_some, hp_alloc_lt, hp_alloc_eq, hp_set_ne, hr], b1.tr (But.of (dw_ext _) _)⟩
end Go.Proofs.YtgdacclgooaodaaGreatDoor.X
set_option linter.unusedVariables false
set_option linter.unusedSimpArgs false
set_option maxRecDepth 100000
set_option maxHeartbeats 1000000
namespace Go.Proofs.YtgdacclgooaodaaGreatDoor.X
open Go Go.Ev Go.RowKit
/-- A reader in block g, at place p; what it reads lies below B. -/
def R (w : World) (B g p : Nat) : Prop := ∃ s ns, rRd 86 w g s p ∧ rBytes w s ns ∧ ns.length ≤ 1000000000000 ∧ (∀ x ∈ rowB s ns, x < B) ∧ B ≤ g
theorem R.lt {w : World} {B g p : Nat} (h : R w B g p) : B ≤ g ∧ g < w.heap.size := by
  obtain ⟨s, ns, h1, h2, h3, h4, h5⟩ := h
  exact ⟨h5, hp_lt h1⟩
theorem R.keep {w w' : World} {B g p : Nat} (h : R w B g p) (k : ∀ b, b < B ∨ b = g → b < w.heap.size → hp w' b = hp w b) : R w' B g p := by
  obtain ⟨s, ns, h1, h2, h3, h4, h5⟩ := h
  refine ⟨s, ns, (k g (.inr rfl) (hp_lt h1)).trans h1, ?_, h3, h4, h5⟩
  obtain ⟨a, c, q1, q2, q3, q4, q5⟩ := h2
  refine ⟨a, c, q1, q2, q3, q4, ?_⟩
  cases ns with
  | nil => exact .inl rfl
  | cons n ns =>
    rcases q5 with q5 | ⟨d, o, q6, q7⟩
    · cases q5
    · subst q1; subst q6
      have hd := h4 d (by simp [rowB, blkOf])
      exact .inr ⟨d, o, rfl, q7.same (k d (.inl hd) (At.lt (l := ns.map (Value.int .u8)) q7))⟩
theorem R.ext {w w' : World} {B g p : Nat} (h : R w B g p) (k : Ext w w') : R w' B g p := h.keep fun b _ hb => k.blk hb
theorem spec_l20Rd_pick_m {B g p k : Nat} (hk : 1 ≤ k) (hk2 : k ≤ 1000000) (hp0 : p ≤ 1000000000000) {w : World} (hr : R w B g p) :
    Ret (EV P 44 #[pt g 0, i64 k] w) fun r => ∃ m : Nat, r.1 = i64 m ∧ m < k ∧ R r.2 B g (p + 1) ∧ Mod (fun b => b = g) w r.2 := by
  obtain ⟨s, ns, h1, h2, h3, h4, h5⟩ := hr
  have hb : ∀ x ∈ rowB s ns, x ≠ g := fun x hx => by have := h4 x hx; omega
  refine Ret.mono (spec_l20Rd_pick_c hk hk2 hp0 h1 h2 h3 hb) ?_
  rintro r ⟨m, e1, e2, e3, M⟩
  have M' : Mod (fun b => b = g) w r.2 := ⟨M.os, M.tape, M.output, M.size, fun b hb hne => M.blk b hb (by simpa using fun h => hne h.symm)⟩
  have R0 : R w B g p := ⟨s, ns, h1, h2, h3, h4, h5⟩
  refine ⟨m, e1, e2, ⟨s, ns, e3, ?_, h3, h4, h5⟩, M'⟩
  obtain ⟨a, c, q1, q2, q3, q4, q5⟩ := h2
  refine ⟨a, c, q1, q2, q3, q4, ?_⟩
  cases ns with
  | nil => exact .inl rfl
  | cons n ns =>
    rcases q5 with q5 | ⟨d, o, q6, q7⟩
    · cases q5
    · subst q1; subst q6
      have hd := h4 d (by simp [rowB, blkOf])
      exact .inr ⟨d, o, rfl, q7.same (M'.blk d (At.lt (l := ns.map (Value.int .u8)) q7) (by omega))⟩
theorem spec_l20Open_m {s : Value} {ns : List Int} {w : World} (hs : rBytes w s ns) (hn : ns.length ≤ 1000000000000) :
    Ret (EV P 33 #[s] w) fun r => ∃ g, r.1 = pt g 0 ∧ R r.2 w.heap.size g 0 ∧ Ext w r.2 := by
  have hlt : ∀ x ∈ rowB s ns, x < w.heap.size := by
    intro x hx
    obtain ⟨a, c, q1, q2, q3, q4, q5⟩ := hs
    cases ns with
    | nil => simp [rowB] at hx
    | cons n ns =>
      rcases q5 with q5 | ⟨d, o, q6, q7⟩
      · cases q5
      · subst q1; subst q6
        simp only [rowB, blkOf, Option.toList_some, List.mem_singleton] at hx
        rw [hx]
        exact At.lt (l := ns.map (Value.int .u8)) q7
  have fin : ∀ (e : Env) (s : Value) (ns : List Int), e 0 = s → rBytes w s ns → ns.length ≤ 1000000000000 → (∀ x ∈ rowB s ns, x < w.heap.size) → Ret (spec_l20Open_j1 e w) fun r => ∃ g, r.1 = pt g 0 ∧ R r.2 w.heap.size g 0 ∧ Ext w r.2 := by
    intro e s ns e0 hs hn hlt
    have hs' := hs
    obtain ⟨a, c, rfl, q2, q3, q4, q5⟩ := hs
    refine Ret.post fun Q hQ => ?_
    rw [spec_l20Open_j1_eq]
    simp (maxSteps := 1000000) (disch := first | assumption | omega | (simp only [World.size_alloc, size_setRow, dw_size]; done) | (simp only [World.size_alloc, size_setRow, dw_size] <;> omega) | (simp only [List.length_set, Array.length_toList, List.length_cons, List.length_nil, List.length_append, bts_size] <;> omega) | (simp only [List.all_cons, List.all_nil, Value.oneCell', Bool.and_self, Bool.and_true]; done)) [-Option.bind_some, hp_alloc_lt, hp_alloc_eq, hp_set_ne, wrap_small, ups_ap_cons, ups_ap_nil, upd_same, upd_other, env0_ap0, env0_aps, xt_a, xt_b, xt_c, -splice_eq, -stR_cells, stR_box, stR_boxA, stR_row, stR_row0, stR_row1, stR_rowA, stR_rowA0, splice_rowv, splice_rowv0, splice_rowv1, splice_z, splice_n, splice_s, nth_rowv, nth_rowv0, nth_rowv1, rowv_len, e0, hlt, e0, hlt]
    refine hQ _ ⟨w.heap.size, rfl, ⟨_, ns, ?_, hs'.mono (Ext.keep (by (repeat (first | exact Ext.rfl | assumption | (refine Ext.al ?_ _) | (refine Ext.dw ?_) | (refine Ext.set ?_ (by first | omega | (simp only [World.size_alloc, size_setRow, dw_size]; omega)) _) | (refine Ext.tr ?_ (by assumption)))))), hn, hlt, by omega⟩, by (repeat (first | exact Ext.rfl | assumption | (refine Ext.al ?_ _) | (refine Ext.dw ?_) | (refine Ext.set ?_ (by first | omega | (simp only [World.size_alloc, size_setRow, dw_size]; omega)) _) | (refine Ext.tr ?_ (by assumption))))⟩
    show hp _ _ = _
    exact (by first | assumption | rfl | (simp (maxSteps := 1000000) (disch := first | assumption | omega | (simp only [World.size_alloc, size_setRow, dw_size]; done) | (simp only [World.size_alloc, size_setRow, dw_size] <;> omega) | (simp only [List.length_set, Array.length_toList, List.length_cons, List.length_nil, List.length_append, bts_size] <;> omega) | (simp only [List.all_cons, List.all_nil, Value.oneCell', Bool.and_self, Bool.and_true]; done)) [-Option.bind_some, hp_alloc_lt, hp_alloc_eq, hp_set_ne, wrap_small, ups_ap_cons, ups_ap_nil, upd_same, upd_other, env0_ap0, env0_aps, xt_a, xt_b, xt_c, -splice_eq, -stR_cells, stR_box, stR_boxA, stR_row, stR_row0, stR_row1, stR_rowA, stR_rowA0, splice_rowv, splice_rowv0, splice_rowv1, splice_z, splice_n, splice_s, nth_rowv, nth_rowv0, nth_rowv1, rowv_len, hlt, e0, hlt]; done))
  have hs' := hs
  obtain ⟨a, c, rfl, q2, q3, q4, q5⟩ := hs
  refine Ret.post fun Q hQ => ?_
  refine Ret.enter plain mixed (spec_l20Open_fn _ _) (by kernel_rfl) (n := 1) (by kernel_rfl) rfl ?_
  by_cases hl : 2000 < ns.length
  · have hts : rBytes w (.slice a 2000 c) (ns.take 2000) := by
      refine ⟨a, c, by rw [List.length_take]; congr 1; omega, by rw [List.length_take]; omega, q3, fun n hn => q4 n (List.mem_of_mem_take hn), ?_⟩
      rcases q5 with q5 | ⟨d, o, q6, q7⟩
      · subst q5; simp at hl
      · refine .inr ⟨d, o, q6, fun j v hv => q7 j v ?_⟩
        rw [List.map_take, List.getElem?_take] at hv
        split at hv
        · exact hv
        · cases hv
    simp (maxSteps := 1000000) (disch := first | assumption | omega | (simp only [World.size_alloc, size_setRow, dw_size]; done) | (simp only [World.size_alloc, size_setRow, dw_size] <;> omega) | (simp only [List.length_set, Array.length_toList, List.length_cons, List.length_nil, List.length_append, bts_size] <;> omega) | (simp only [List.all_cons, List.all_nil, Value.oneCell', Bool.and_self, Bool.and_true]; done)) [-Option.bind_some, hp_alloc_lt, hp_alloc_eq, hp_set_ne, wrap_small, ups_ap_cons, ups_ap_nil, upd_same, upd_other, env0_ap0, env0_aps, xt_a, xt_b, xt_c, -splice_eq, -stR_cells, stR_box, stR_boxA, stR_row, stR_row0, stR_row1, stR_rowA, stR_rowA0, splice_rowv, splice_rowv0, splice_rowv1, splice_z, splice_n, splice_s, nth_rowv, nth_rowv0, nth_rowv1, rowv_len, show (2000 : Int) < ns.length by omega, sl_h (P := P) el_34, show (2000 : Int) ≤ c by omega, hlt]
    refine Ret.mono (fin _ (.slice a 2000 c) (ns.take 2000) rfl hts (by rw [List.length_take]; omega) ?_) hQ
    intro x hx
    refine hlt x ?_
    cases ns with
    | nil => simp at hl
    | cons n ns =>
      cases a with
      | none => simp [rowB, blkOf] at hx
      | some _ => simpa [rowB, blkOf] using hx
  · simp (maxSteps := 1000000) (disch := first | assumption | omega | (simp only [World.size_alloc, size_setRow, dw_size]; done) | (simp only [World.size_alloc, size_setRow, dw_size] <;> omega) | (simp only [List.length_set, Array.length_toList, List.length_cons, List.length_nil, List.length_append, bts_size] <;> omega) | (simp only [List.all_cons, List.all_nil, Value.oneCell', Bool.and_self, Bool.and_true]; done)) [-Option.bind_some, hp_alloc_lt, hp_alloc_eq, hp_set_ne, wrap_small, ups_ap_cons, ups_ap_nil, upd_same, upd_other, env0_ap0, env0_aps, xt_a, xt_b, xt_c, -splice_eq, -stR_cells, stR_box, stR_boxA, stR_row, stR_row0, stR_row1, stR_rowA, stR_rowA0, splice_rowv, splice_rowv0, splice_rowv1, splice_z, splice_n, splice_s, nth_rowv, nth_rowv0, nth_rowv1, rowv_len, show ¬ (2000 : Int) < ns.length by omega, hlt]
    exact Ret.mono (fin _ _ ns rfl hs' hn hlt) hQ
theorem spec_l20Rd_one_m {B g p b k c : Nat} {ints : List Int} (hk : 1 ≤ k) (hk2 : k ≤ 1000000) (hp0 : p ≤ 1000000000000) {w : World} (hl : ints.length = k) (hA : At w b 0 (ints.map fun n => i64 n)) (hbg : b ≠ g) (hr : R w B g p) :
    Ret (EV P 64 #[pt g 0, .slice (some ⟨b, 0, none⟩) k c] w) fun r => ∃ n ∈ ints, r.1 = i64 n ∧ R r.2 B g (p + 1) ∧ Mod (fun b => b = g) w r.2 := by
  refine Ret.post fun Q hQ => ?_
  refine Ret.enter plain mixed (spec_l20Rd_one_fn _ _ _) (by kernel_rfl) (n := 2) (by kernel_rfl) rfl ?_
  simp (maxSteps := 1000000) (disch := first | assumption | omega | (simp only [World.size_alloc, size_setRow, dw_size]; done) | (simp only [World.size_alloc, size_setRow, dw_size] <;> omega) | (simp only [List.length_set, Array.length_toList, List.length_cons, List.length_nil, List.length_append, bts_size] <;> omega) | (simp only [List.all_cons, List.all_nil, Value.oneCell', Bool.and_self, Bool.and_true]; done)) [-Option.bind_some, hp_alloc_lt, hp_alloc_eq, hp_set_ne, wrap_small, ups_ap_cons, ups_ap_nil, upd_same, upd_other, env0_ap0, env0_aps, xt_a, xt_b, xt_c, -splice_eq, -stR_cells, stR_box, stR_boxA, stR_row, stR_row0, stR_row1, stR_rowA, stR_rowA0, splice_rowv, splice_rowv0, splice_rowv1, splice_z, splice_n, splice_s, nth_rowv, nth_rowv0, nth_rowv1, rowv_len]
  refine Ret.bind (spec_l20Rd_pick_m hk hk2 hp0 hr) ?_
  rintro ⟨_, w1⟩ ⟨m, rfl, hm, R1, M1⟩
  have zM1 := M1.size
  try simp only [World.size_alloc, size_setRow, dw_size] at zM1
  try dsimp only at R1 M1
  obtain ⟨n, hn, _⟩ := drop_at (l := ints) (k := m) (by omega)
  have hA1 := hA m (i64 n) (by rw [List.getElem?_map, hn]; rfl)
  have hbl : b < w.heap.size := by
    rcases Nat.lt_or_ge b w.heap.size with h | h
    · exact h
    · rw [hp, Array.getElem?_eq_none h] at hA1; simp [cellO] at hA1
  rw [Nat.zero_add] at hA1
  simp (maxSteps := 1000000) (disch := first | assumption | omega | (simp only [World.size_alloc, size_setRow, dw_size]; done) | (simp only [World.size_alloc, size_setRow, dw_size] <;> omega) | (simp only [List.length_set, Array.length_toList, List.length_cons, List.length_nil, List.length_append, bts_size] <;> omega) | (simp only [List.all_cons, List.all_nil, Value.oneCell', Bool.and_self, Bool.and_true]; done)) [-Option.bind_some, hp_alloc_lt, hp_alloc_eq, hp_set_ne, wrap_small, ups_ap_cons, ups_ap_nil, upd_same, upd_other, env0_ap0, env0_aps, xt_a, xt_b, xt_c, -splice_eq, -stR_cells, stR_box, stR_boxA, stR_row, stR_row0, stR_row1, stR_rowA, stR_rowA0, splice_rowv, splice_rowv0, splice_rowv1, splice_z, splice_n, splice_s, nth_rowv, nth_rowv0, nth_rowv1, rowv_len, ia_82, show (m : Int) < k by omega, hA1, M1.blk]
  exact hQ _ ⟨n, List.mem_of_getElem? hn, rfl, R1, M1⟩
end Go.Proofs.YtgdacclgooaodaaGreatDoor.X
