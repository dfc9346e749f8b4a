/- A part of the proof: an evaluator of the model, its laws, and contracts of functions; no condition. -/
import Derived.Test.YtcafhepclddcaaaEvJ
import Derived.Test.YtcafhepclddcaaaC17
set_option linter.unusedVariables false
set_option linter.unusedSimpArgs false
set_option maxRecDepth 100000
set_option maxHeartbeats 1000000
namespace Go.Proofs.Ytcafhepclddcaaa.X
open Go Go.Ev Go.RowKit
abbrev tTags : Lay (List Tag) := LTags 42
def MTag : Mk Tag := ⟨fun k _ => ⟨k, k + 1⟩, fun k _ => k + 1 + 1, fun _ => 0, fun k _ => by omega⟩
theorem MTag_mk (k : Int) (v : Tag) : MTag.mk k v = ⟨k, k + 1⟩ := rfl
theorem MTag_small : MTag.Small := fun k a => by show k + 1 + 1 ≤ _; omega
theorem laws_markTagS_n {a : Option Addr} {c : Nat} {S : Nat → Prop} {xs : List Tag} {k0 : Int} (h0 : 0 ≤ k0) (hk : k0 + 10 * MTag.wtL xs ≤ 100000000000000) :
    ∀ (d j : Nat) (e : Env) (w : World), j + d = xs.length → e 0 = .slice a xs.length c → e 1 = i64 (MTag.at k0 xs j) → e 5 = i64 j → O tTags S w [.slice a xs.length c] (MTag.part k0 xs j) →
    Ret (laws_markTagS_l1 e w) fun r => r.1 = i64 (MTag.nxL k0 xs) ∧ O tTags S r.2 [.slice a xs.length c] (MTag.mkL k0 xs) ∧ Mod S w r.2 := by
  intro d
  induction d with
  | zero =>
    intro j e w hd e0 e1 e5 ho
    rw [laws_markTagS_l1_eq]
    obtain rfl : j = xs.length := by omega
    rw [Mk.part_end (Nat.le_refl _)] at ho
    rw [Mk.at_end (Nat.le_refl _)] at e1
    simp (maxSteps := 1000000) (disch := first | assumption | omega | (simp only [World.size_alloc, size_setRow, dw_size]; done) | (simp only [World.size_alloc, size_setRow, dw_size] <;> omega) | (simp only [List.length_set, Array.length_toList, List.length_cons, List.length_nil, List.length_append, bts_size] <;> omega) | (simp only [List.all_cons, List.all_nil, Value.oneCell', Bool.and_self, Bool.and_true]; done)) [-Option.bind_some, hp_alloc_lt, hp_alloc_eq, hp_set_ne, wrap_small, ups_ap_cons, ups_ap_nil, upd_same, upd_other, env0_ap0, env0_aps, xt_a, xt_b, xt_c, e0, e1, e5, e0, e1, e5]
    exact ⟨ho, Mod.rfl⟩
  | succ d ih =>
    intro j e w hd e0 e1 e5 ho
    rw [laws_markTagS_l1_eq]
    have hlt : j < xs.length := by omega
    obtain ⟨x, hx, _⟩ := drop_at hlt
    have hq := Mk.at_small MTag_small xs k0 j
    have hs : MTag.at k0 xs (j + 1) = MTag.at k0 xs j + 1 + 1 := Mk.at_succ hx
    have hp := Mk.part_set (M := MTag) (k := k0) hx
    have hn := ho.n
    obtain ⟨g, cur, cs, S1, rfl, hSg, hgl, hg, hle, hx1, hS1, put⟩ := ho.row (by decide) (Mk.part_get hx)
    obtain rfl := O.tag.1 hx1
    simp only [LTag_n] at hg hle put
    generalize MTag.at k0 xs j = q at *
    simp (maxSteps := 1000000) (disch := first | assumption | omega | (simp only [World.size_alloc, size_setRow, dw_size]; done) | (simp only [World.size_alloc, size_setRow, dw_size] <;> omega) | (simp only [List.length_set, Array.length_toList, List.length_cons, List.length_nil, List.length_append, bts_size] <;> omega) | (simp only [List.all_cons, List.all_nil, Value.oneCell', Bool.and_self, Bool.and_true]; done)) [-Option.bind_some, hp_alloc_lt, hp_alloc_eq, hp_set_ne, wrap_small, ups_ap_cons, ups_ap_nil, upd_same, upd_other, env0_ap0, env0_aps, xt_a, xt_b, xt_c, -splice_eq, -stR_cells, stR_box, stR_boxA, stR_row, stR_row0, stR_row1, stR_rowA, stR_rowA0, splice_rowv, splice_rowv0, splice_rowv1, splice_z, splice_n, splice_s, nth_rowv, nth_rowv0, nth_rowv1, rowv_len, e0, e1, e5, hlt, ia_30, hg, e0, e1, e5, hlt, hg]
    refine Ret.mono (ih (j + 1) _ _ (by omega) (by first | omega | assumption | rfl | exact congrArg i64 (by omega) | (simp; done) | (simp; omega)) (by exact congrArg i64 hs.symm) (by first | omega | assumption | rfl | exact congrArg i64 (by omega) | (simp; done) | (simp; omega)) ?_) ?_
    · rw [← hp]
      exact (put _ _ ⟨q, q + 1⟩ (fun _ => False) (O.tag.2 rfl) (by first | assumption | rfl | (simp (maxSteps := 1000000) (disch := first | assumption | omega | (simp only [World.size_alloc, size_setRow, dw_size]; done) | (simp only [World.size_alloc, size_setRow, dw_size] <;> omega) | (simp only [List.length_set, Array.length_toList, List.length_cons, List.length_nil, List.length_append, bts_size] <;> omega) | (simp only [List.all_cons, List.all_nil, Value.oneCell', Bool.and_self, Bool.and_true]; done)) [-Option.bind_some, hp_alloc_lt, hp_alloc_eq, hp_set_ne, wrap_small, ups_ap_cons, ups_ap_nil, upd_same, upd_other, env0_ap0, env0_aps, xt_a, xt_b, xt_c, -splice_eq, -stR_cells, stR_box, stR_boxA, stR_row, stR_row0, stR_row1, stR_rowA, stR_rowA0, splice_rowv, splice_rowv0, splice_rowv1, splice_z, splice_n, splice_s, nth_rowv, nth_rowv0, nth_rowv1, rowv_len, hg, e0, e1, e5, hlt, hg]; done)) (by intro b _ _ _ _; first | rfl | (simp (disch := first | assumption | omega | (simp only [World.size_alloc, size_setRow, dw_size]; omega) | (simp only [World.size_alloc, size_setRow, dw_size, In]; omega)) only [hp_alloc_lt, hp_set_ne, hp_dw]; done)) (fun _ _ h => h.elim)).wide fun b h _ => h.elim id fun h => h.elim
    · rintro r ⟨h1, h2, h3⟩
      exact ⟨h1, h2, Mod.tr (Mod.set' (Mod.set' Mod.rfl (.inr hSg) _) (.inr hSg) _) h3⟩
theorem laws_markTagS_m {a : Option Addr} {n c : Nat} {S : Nat → Prop} {xs : List Tag} {k : Int} (h0 : 0 ≤ k) (hk : k + 10 * MTag.wtL xs ≤ 100000000000000) {w : World} (ho : O tTags S w [.slice a n c] xs) :
    Ret (EV P 31 #[.slice a n c, i64 k] w) fun r => r.1 = i64 (MTag.nxL k xs) ∧ O tTags S r.2 [.slice a n c] (MTag.mkL k xs) ∧ Mod S w r.2 := by
  obtain ⟨rfl, _⟩ := ho.n
  refine Ret.enter plain mixed (laws_markTagS_fn _ _ _) (by kernel_rfl) (n := 2) (by kernel_rfl) rfl ?_
  simp (maxSteps := 1000000) (disch := first | assumption | omega | (simp only [World.size_alloc, size_setRow, dw_size]; done) | (simp only [World.size_alloc, size_setRow, dw_size] <;> omega) | (simp only [List.length_set, Array.length_toList, List.length_cons, List.length_nil, List.length_append, bts_size] <;> omega) | (simp only [List.all_cons, List.all_nil, Value.oneCell', Bool.and_self, Bool.and_true]; done)) [-Option.bind_some, hp_alloc_lt, hp_alloc_eq, hp_set_ne, wrap_small, ups_ap_cons, ups_ap_nil, upd_same, upd_other, env0_ap0, env0_aps, xt_a, xt_b, xt_c]
  exact laws_markTagS_n h0 hk xs.length 0 _ w (by omega) rfl (by rw [Mk.at_zero]; rfl) rfl (by rw [Mk.part_zero]; exact ho)
theorem laws_heldTagS_n {a : Option Addr} {c : Nat} {S : Nat → Prop} {xs : List Tag} {k0 : Int} (h0 : 0 ≤ k0) (hk : k0 + 10 * MTag.wtL xs ≤ 100000000000000) :
    ∀ (d j : Nat) (e : Env) (w : World), j + d = xs.length → e 0 = .slice a xs.length c → e 1 = i64 (MTag.at k0 xs j) → e 5 = i64 j → D tTags S w [.slice a xs.length c] (MTag.mkL k0 xs) →
    Ret (laws_heldTagS_l1 e w) fun r => r.1 = i64 (MTag.nxL k0 xs) ∧ Ext w r.2 := by
  intro d
  induction d with
  | zero =>
    intro j e w hd e0 e1 e5 ho
    rw [laws_heldTagS_l1_eq]
    obtain rfl : j = xs.length := by omega
    rw [Mk.at_end (Nat.le_refl _)] at e1
    simp (maxSteps := 1000000) (disch := first | assumption | omega | (simp only [World.size_alloc, size_setRow, dw_size]; done) | (simp only [World.size_alloc, size_setRow, dw_size] <;> omega) | (simp only [List.length_set, Array.length_toList, List.length_cons, List.length_nil, List.length_append, bts_size] <;> omega) | (simp only [List.all_cons, List.all_nil, Value.oneCell', Bool.and_self, Bool.and_true]; done)) [-Option.bind_some, hp_alloc_lt, hp_alloc_eq, hp_set_ne, wrap_small, ups_ap_cons, ups_ap_nil, upd_same, upd_other, env0_ap0, env0_aps, xt_a, xt_b, xt_c, e0, e1, e5, e0, e1, e5]
    (repeat (first | exact Ext.rfl | assumption | (refine Ext.al ?_ _) | (refine Ext.dw ?_) | (refine Ext.set ?_ (by first | omega | (simp only [World.size_alloc, size_setRow, dw_size]; omega)) _) | (refine Ext.tr ?_ (by assumption))))
  | succ d ih =>
    intro j e w hd e0 e1 e5 ho
    rw [laws_heldTagS_l1_eq]
    have hlt : j < xs.length := by omega
    obtain ⟨x, hx, _⟩ := drop_at hlt
    have hq := Mk.at_small MTag_small xs k0 j
    have hs : MTag.at k0 xs (j + 1) = MTag.at k0 xs j + 1 + 1 := Mk.at_succ hx
    have hn := ho.n
    have hx2 := Mk.mkL_get (M := MTag) xs k0 j hx
    generalize MTag.at k0 xs j = q at *
    rw [MTag_mk] at hx2
    obtain ⟨b1, o1, cs1, rfl, A1, D1, _, l1⟩ := ho.at (by decide) hx2
    obtain rfl := D.tag.1 D1
    have p0 := A1 0 _ rfl
    have p1 := A1 1 _ rfl
    simp only [LTag_n, Nat.add_zero] at p0 p1
    simp (maxSteps := 1000000) (disch := first | assumption | omega | (simp only [World.size_alloc, size_setRow, dw_size]; done) | (simp only [World.size_alloc, size_setRow, dw_size] <;> omega) | (simp only [List.length_set, Array.length_toList, List.length_cons, List.length_nil, List.length_append, bts_size] <;> omega) | (simp only [List.all_cons, List.all_nil, Value.oneCell', Bool.and_self, Bool.and_true]; done)) [-Option.bind_some, hp_alloc_lt, hp_alloc_eq, hp_set_ne, wrap_small, ups_ap_cons, ups_ap_nil, upd_same, upd_other, env0_ap0, env0_aps, xt_a, xt_b, xt_c, e0, e1, e5, hlt, ia_30, p0, p1, bne_self_eq_false, e0, e1, e5, hlt]
    refine Ret.mono (ih (j + 1) _ _ (by omega) (by first | omega | assumption | rfl | exact congrArg i64 (by omega) | (simp; done) | (simp; omega)) (by exact congrArg i64 hs.symm) (by first | omega | assumption | rfl | exact congrArg i64 (by omega) | (simp; done) | (simp; omega)) (ho.ext (by (repeat (first | exact Ext.rfl | assumption | (refine Ext.al ?_ _) | (refine Ext.dw ?_) | (refine Ext.set ?_ (by first | omega | (simp only [World.size_alloc, size_setRow, dw_size]; omega)) _) | (refine Ext.tr ?_ (by assumption))))))) ?_
    rintro r ⟨h1, h2⟩
    exact ⟨h1, Ext.tr (by (repeat (first | exact Ext.rfl | assumption | (refine Ext.al ?_ _) | (refine Ext.dw ?_) | (refine Ext.set ?_ (by first | omega | (simp only [World.size_alloc, size_setRow, dw_size]; omega)) _) | (refine Ext.tr ?_ (by assumption))))) h2⟩
theorem laws_heldTagS_m {a : Option Addr} {n c : Nat} {S : Nat → Prop} {xs : List Tag} {k : Int} (h0 : 0 ≤ k) (hk : k + 10 * MTag.wtL xs ≤ 100000000000000) {w : World} (ho : D tTags S w [.slice a n c] (MTag.mkL k xs)) :
    Ret (EV P 32 #[.slice a n c, i64 k] w) fun r => r.1 = i64 (MTag.nxL k xs) ∧ Ext w r.2 := by
  obtain ⟨rfl, _⟩ := ho.n
  rw [Mk.mkL_length] at *
  refine Ret.enter plain mixed (laws_heldTagS_fn _ _ _) (by kernel_rfl) (n := 2) (by kernel_rfl) rfl ?_
  simp (maxSteps := 1000000) (disch := first | assumption | omega | (simp only [World.size_alloc, size_setRow, dw_size]; done) | (simp only [World.size_alloc, size_setRow, dw_size] <;> omega) | (simp only [List.length_set, Array.length_toList, List.length_cons, List.length_nil, List.length_append, bts_size] <;> omega) | (simp only [List.all_cons, List.all_nil, Value.oneCell', Bool.and_self, Bool.and_true]; done)) [-Option.bind_some, hp_alloc_lt, hp_alloc_eq, hp_set_ne, wrap_small, ups_ap_cons, ups_ap_nil, upd_same, upd_other, env0_ap0, env0_aps, xt_a, xt_b, xt_c]
  exact laws_heldTagS_n h0 hk xs.length 0 _ w (by omega) rfl (by rw [Mk.at_zero]; rfl) rfl ho
end Go.Proofs.Ytcafhepclddcaaa.X
set_option linter.unusedVariables false
set_option linter.unusedSimpArgs false
set_option maxRecDepth 100000
set_option maxHeartbeats 1000000
namespace Go.Proofs.Ytcafhepclddcaaa.X
open Go Go.Ev Go.RowKit
theorem impl_Past_copied_n {a : Option Addr} {n c : Nat} {S : Nat → Prop} {xs : List Tag} {w : World} (ha : D tTags S w [.slice a n c] xs) :
    Ret (EV P 57 #[.agg #[.slice a n c]] w) fun r => ∃ a' c', r.1 = .agg #[.slice a' xs.length c'] ∧ O tTags (In w.heap.size r.2.heap.size) r.2 [.slice a' xs.length c'] xs ∧ Ext w r.2 := by
  refine Ret.mono (impl_Past_copied_c ha.rTags) ?_
  rintro ⟨_, w1⟩ ⟨s, rfl, h1, h2⟩
  obtain ⟨a', c', rfl, h3⟩ := tags_os h1
  exact ⟨a', c', rfl, h3, h2⟩
end Go.Proofs.Ytcafhepclddcaaa.X
set_option linter.unusedVariables false
set_option linter.unusedSimpArgs false
set_option maxRecDepth 100000
set_option maxHeartbeats 1000000
namespace Go.Proofs.Ytcafhepclddcaaa.X
open Go Go.Ev Go.RowKit
noncomputable def MPast : Mk (List Tag) := MTag.list
theorem laws_eqPast_m {S S' : Nat → Prop} {cs ds : List Value} {x : List Tag} {w : World} (ha : D tTags S w cs x) (hb : D tTags S' w ds x) : Ret (EV P 21 #[.agg cs.toArray, .agg ds.toArray] w) fun r => r.1 = .bool true ∧ Ext w r.2 := by
  obtain ⟨a, c, rfl, ha⟩ := ha.sl'
  obtain ⟨b, d, rfl, hb⟩ := hb.sl'
  exact laws_eqPast_c ha.rTags hb.rTags
theorem laws_markPast_m {S : Nat → Prop} {cs : List Value} {x : List Tag} {k : Int} (h0 : 0 ≤ k) (hk : k + 10 * MPast.wt x ≤ 100000000000000) {w : World} (ho : O tTags S w cs x) :
    Ret (EV P 23 #[.agg cs.toArray, i64 k] w) fun r => r.1 = i64 (MPast.nx k x) ∧ O tTags S r.2 cs (MPast.mk k x) ∧ Mod S w r.2 := by
  obtain ⟨a, c, rfl, ho⟩ := ho.sl'
  refine Ret.post fun Q hQ => ?_
  refine Ret.enter plain mixed (laws_markPast_fn _ _ _) (by kernel_rfl) (n := 2) (by kernel_rfl) rfl ?_
  simp (maxSteps := 1000000) (disch := first | assumption | omega | (simp only [World.size_alloc, size_setRow, dw_size]; done) | (simp only [World.size_alloc, size_setRow, dw_size] <;> omega) | (simp only [List.length_set, Array.length_toList, List.length_cons, List.length_nil, List.length_append, bts_size] <;> omega) | (simp only [List.all_cons, List.all_nil, Value.oneCell', Bool.and_self, Bool.and_true]; done)) [-Option.bind_some, hp_alloc_lt, hp_alloc_eq, hp_set_ne, wrap_small, ups_ap_cons, ups_ap_nil, upd_same, upd_other, env0_ap0, env0_aps, xt_a, xt_b, xt_c]
  refine Ret.bind (laws_markTagS_m h0 hk (ho.ext (by (repeat (first | exact Ext.rfl | assumption | (refine Ext.al ?_ _) | (refine Ext.dw ?_) | (refine Ext.set ?_ (by first | omega | (simp only [World.size_alloc, size_setRow, dw_size]; omega)) _) | (refine Ext.tr ?_ (by assumption))))))) ?_
  rintro ⟨_, w1⟩ ⟨rfl, o1, M1⟩
  try dsimp only at o1 M1
  have zM1 := M1.size
  try simp only [World.size_alloc, size_setRow, dw_size] at zM1
  simp (maxSteps := 1000000) (disch := first | assumption | omega | (simp only [World.size_alloc, size_setRow, dw_size]; done) | (simp only [World.size_alloc, size_setRow, dw_size] <;> omega) | (simp only [List.length_set, Array.length_toList, List.length_cons, List.length_nil, List.length_append, bts_size] <;> omega) | (simp only [List.all_cons, List.all_nil, Value.oneCell', Bool.and_self, Bool.and_true]; done)) [-Option.bind_some, hp_alloc_lt, hp_alloc_eq, hp_set_ne, wrap_small, ups_ap_cons, ups_ap_nil, upd_same, upd_other, env0_ap0, env0_aps, xt_a, xt_b, xt_c, M1.blk]
  exact hQ _ ⟨rfl, o1, (Mod.of (S := S) (by (repeat (first | exact Ext.rfl | assumption | (refine Ext.al ?_ _) | (refine Ext.dw ?_) | (refine Ext.set ?_ (by first | omega | (simp only [World.size_alloc, size_setRow, dw_size]; omega)) _) | (refine Ext.tr ?_ (by assumption)))))).tr M1⟩
theorem laws_heldPast_m {S : Nat → Prop} {cs : List Value} {x : List Tag} {k : Int} (h0 : 0 ≤ k) (hk : k + 10 * MPast.wt x ≤ 100000000000000) {w : World} (ho : D tTags S w cs (MPast.mk k x)) :
    Ret (EV P 24 #[.agg cs.toArray, i64 k] w) fun r => r.1 = i64 (MPast.nx k x) ∧ Ext w r.2 := by
  obtain ⟨a, c, rfl, ho⟩ := ho.sl'
  have hle : k ≤ MTag.nxL k x := Mk.nxL_le _ _
  refine Ret.post fun Q hQ => ?_
  refine Ret.enter plain mixed (laws_heldPast_fn _ _ _) (by kernel_rfl) (n := 2) (by kernel_rfl) rfl ?_
  simp (maxSteps := 1000000) (disch := first | assumption | omega | (simp only [World.size_alloc, size_setRow, dw_size]; done) | (simp only [World.size_alloc, size_setRow, dw_size] <;> omega) | (simp only [List.length_set, Array.length_toList, List.length_cons, List.length_nil, List.length_append, bts_size] <;> omega) | (simp only [List.all_cons, List.all_nil, Value.oneCell', Bool.and_self, Bool.and_true]; done)) [-Option.bind_some, hp_alloc_lt, hp_alloc_eq, hp_set_ne, wrap_small, ups_ap_cons, ups_ap_nil, upd_same, upd_other, env0_ap0, env0_aps, xt_a, xt_b, xt_c]
  refine Ret.bind (laws_heldTagS_m h0 hk (ho.ext (by (repeat (first | exact Ext.rfl | assumption | (refine Ext.al ?_ _) | (refine Ext.dw ?_) | (refine Ext.set ?_ (by first | omega | (simp only [World.size_alloc, size_setRow, dw_size]; omega)) _) | (refine Ext.tr ?_ (by assumption))))))) ?_
  rintro ⟨_, w1⟩ ⟨rfl, E1⟩
  try dsimp only at E1
  have zE1 := E1.size
  try simp only [World.size_alloc, size_setRow, dw_size] at zE1
  simp (maxSteps := 1000000) (disch := first | assumption | omega | (simp only [World.size_alloc, size_setRow, dw_size]; done) | (simp only [World.size_alloc, size_setRow, dw_size] <;> omega) | (simp only [List.length_set, Array.length_toList, List.length_cons, List.length_nil, List.length_append, bts_size] <;> omega) | (simp only [List.all_cons, List.all_nil, Value.oneCell', Bool.and_self, Bool.and_true]; done)) [-Option.bind_some, hp_alloc_lt, hp_alloc_eq, hp_set_ne, wrap_small, ups_ap_cons, ups_ap_nil, upd_same, upd_other, env0_ap0, env0_aps, xt_a, xt_b, xt_c, show ¬ MTag.nxL k x < 0 by omega, E1.blk]
  exact hQ _ ⟨rfl, by (repeat (first | exact Ext.rfl | assumption | (refine Ext.al ?_ _) | (refine Ext.dw ?_) | (refine Ext.set ?_ (by first | omega | (simp only [World.size_alloc, size_setRow, dw_size]; omega)) _) | (refine Ext.tr ?_ (by assumption))))⟩
end Go.Proofs.Ytcafhepclddcaaa.X
set_option linter.unusedVariables false
set_option linter.unusedSimpArgs false
set_option maxRecDepth 100000
set_option maxHeartbeats 1000000
namespace Go.Proofs.Ytcafhepclddcaaa.X
open Go Go.Ev Go.RowKit
theorem MPast_le (k : Int) (x : List Tag) : k ≤ MPast.nx k x ∧ MPast.nx k x ≤ k + 10 * MPast.wt x := ⟨Mk.nxL_le _ _, Mk.nxL_small MTag_small _ _⟩
end Go.Proofs.Ytcafhepclddcaaa.X
