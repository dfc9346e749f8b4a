/- A part of the proof: an evaluator of the model, its laws, and contracts of functions; no condition. -/
import Derived.Test.YthicfemhpnnaaaaGreatEvJ
import Derived.Test.YthicfemhpnnaaaaGreatC16
set_option linter.unusedVariables false
set_option linter.unusedSimpArgs false
set_option maxRecDepth 100000
set_option maxHeartbeats 1000000
namespace Go.Proofs.YthicfemhpnnaaaaGreat.X
open Go Go.Ev Go.RowKit
abbrev tTags : Lay (List Tag) := LTags 40
abbrev tVer : Lay Ver := LVer 40
abbrev tVers : Lay (List Ver) := LVers 40 45
def MTag : Mk Tag := ⟨fun k _ => ⟨k, k + 1⟩, fun k _ => k + 1 + 1, fun _ => 0, fun k _ => by omega⟩
theorem MTag_mk (k : Int) (v : Tag) : MTag.mk k v = ⟨k, k + 1⟩ := rfl
theorem MTag_small : MTag.Small := fun k a => by show k + 1 + 1 ≤ _; omega
theorem laws_markTagS_n {a : Option Addr} {c : Nat} {S : Nat → Prop} {xs : List Tag} {k0 : Int} (h0 : 0 ≤ k0) (hk : k0 + 10 * MTag.wtL xs ≤ 100000000000000) :
    ∀ (d j : Nat) (e : Env) (w : World), j + d = xs.length → e 0 = .slice a xs.length c → e 1 = i64 (MTag.at k0 xs j) → e 5 = i64 j → O tTags S w [.slice a xs.length c] (MTag.part k0 xs j) →
    Ret (laws_markTagS_l1 e w) fun r => r.1 = i64 (MTag.nxL k0 xs) ∧ O tTags S r.2 [.slice a xs.length c] (MTag.mkL k0 xs) ∧ Mod S w r.2 := by
  intro d
  induction d with
  | zero =>
    intro j e w hd e0 e1 e5 ho
    rw [laws_markTagS_l1_eq]
    obtain rfl : j = xs.length := by omega
    rw [Mk.part_end (Nat.le_refl _)] at ho
    rw [Mk.at_end (Nat.le_refl _)] at e1
    simp (maxSteps := 1000000) (disch := first | assumption | omega | (simp only [World.size_alloc, size_setRow, dw_size]; done) | (simp only [World.size_alloc, size_setRow, dw_size] <;> omega) | (simp only [List.length_set, Array.length_toList, List.length_cons, List.length_nil, List.length_append, bts_size] <;> omega) | (simp only [List.all_cons, List.all_nil, Value.oneCell', Bool.and_self, Bool.and_true]; done)) [-Option.bind_some, hp_alloc_lt, hp_alloc_eq, hp_set_ne, wrap_small, ups_ap_cons, ups_ap_nil, upd_same, upd_other, env0_ap0, env0_aps, xt_a, xt_b, xt_c, e0, e1, e5, e0, e1, e5]
    exact ⟨ho, Mod.rfl⟩
  | succ d ih =>
    intro j e w hd e0 e1 e5 ho
    rw [laws_markTagS_l1_eq]
    have hlt : j < xs.length := by omega
    obtain ⟨x, hx, _⟩ := drop_at hlt
    have hq := Mk.at_small MTag_small xs k0 j
    have hs : MTag.at k0 xs (j + 1) = MTag.at k0 xs j + 1 + 1 := Mk.at_succ hx
    have hp := Mk.part_set (M := MTag) (k := k0) hx
    have hn := ho.n
    obtain ⟨g, cur, cs, S1, rfl, hSg, hgl, hg, hle, hx1, hS1, put⟩ := ho.row (by decide) (Mk.part_get hx)
    obtain rfl := O.tag.1 hx1
    simp only [LTag_n] at hg hle put
    generalize MTag.at k0 xs j = q at *
    simp (maxSteps := 1000000) (disch := first | assumption | omega | (simp only [World.size_alloc, size_setRow, dw_size]; done) | (simp only [World.size_alloc, size_setRow, dw_size] <;> omega) | (simp only [List.length_set, Array.length_toList, List.length_cons, List.length_nil, List.length_append, bts_size] <;> omega) | (simp only [List.all_cons, List.all_nil, Value.oneCell', Bool.and_self, Bool.and_true]; done)) [-Option.bind_some, hp_alloc_lt, hp_alloc_eq, hp_set_ne, wrap_small, ups_ap_cons, ups_ap_nil, upd_same, upd_other, env0_ap0, env0_aps, xt_a, xt_b, xt_c, -splice_eq, -stR_cells, stR_box, stR_boxA, stR_row, stR_row0, stR_row1, stR_rowA, stR_rowA0, splice_rowv, splice_rowv0, splice_rowv1, splice_z, splice_n, splice_s, nth_rowv, nth_rowv0, nth_rowv1, rowv_len, e0, e1, e5, hlt, ia_41, hg, e0, e1, e5, hlt, hg]
    refine Ret.mono (ih (j + 1) _ _ (by omega) (by first | omega | assumption | rfl | exact congrArg i64 (by omega) | (simp; done) | (simp; omega)) (by exact congrArg i64 hs.symm) (by first | omega | assumption | rfl | exact congrArg i64 (by omega) | (simp; done) | (simp; omega)) ?_) ?_
    · rw [← hp]
      exact (put _ _ ⟨q, q + 1⟩ (fun _ => False) (O.tag.2 rfl) (by first | assumption | rfl | (simp (maxSteps := 1000000) (disch := first | assumption | omega | (simp only [World.size_alloc, size_setRow, dw_size]; done) | (simp only [World.size_alloc, size_setRow, dw_size] <;> omega) | (simp only [List.length_set, Array.length_toList, List.length_cons, List.length_nil, List.length_append, bts_size] <;> omega) | (simp only [List.all_cons, List.all_nil, Value.oneCell', Bool.and_self, Bool.and_true]; done)) [-Option.bind_some, hp_alloc_lt, hp_alloc_eq, hp_set_ne, wrap_small, ups_ap_cons, ups_ap_nil, upd_same, upd_other, env0_ap0, env0_aps, xt_a, xt_b, xt_c, -splice_eq, -stR_cells, stR_box, stR_boxA, stR_row, stR_row0, stR_row1, stR_rowA, stR_rowA0, splice_rowv, splice_rowv0, splice_rowv1, splice_z, splice_n, splice_s, nth_rowv, nth_rowv0, nth_rowv1, rowv_len, hg, e0, e1, e5, hlt, hg]; done)) (by intro b _ _ _ _; first | rfl | (simp (disch := first | assumption | omega | (simp only [World.size_alloc, size_setRow, dw_size]; omega) | (simp only [World.size_alloc, size_setRow, dw_size, In]; omega)) only [hp_alloc_lt, hp_set_ne, hp_dw]; done)) (fun _ _ h => h.elim)).wide fun b h _ => h.elim id fun h => h.elim
    · rintro r ⟨h1, h2, h3⟩
      exact ⟨h1, h2, Mod.tr (Mod.set' (Mod.set' Mod.rfl (.inr hSg) _) (.inr hSg) _) h3⟩
theorem laws_markTagS_m {a : Option Addr} {n c : Nat} {S : Nat → Prop} {xs : List Tag} {k : Int} (h0 : 0 ≤ k) (hk : k + 10 * MTag.wtL xs ≤ 100000000000000) {w : World} (ho : O tTags S w [.slice a n c] xs) :
    Ret (EV P 108 #[.slice a n c, i64 k] w) fun r => r.1 = i64 (MTag.nxL k xs) ∧ O tTags S r.2 [.slice a n c] (MTag.mkL k xs) ∧ Mod S w r.2 := by
  obtain ⟨rfl, _⟩ := ho.n
  refine Ret.enter plain mixed (laws_markTagS_fn _ _ _) (by kernel_rfl) (n := 2) (by kernel_rfl) rfl ?_
  simp (maxSteps := 1000000) (disch := first | assumption | omega | (simp only [World.size_alloc, size_setRow, dw_size]; done) | (simp only [World.size_alloc, size_setRow, dw_size] <;> omega) | (simp only [List.length_set, Array.length_toList, List.length_cons, List.length_nil, List.length_append, bts_size] <;> omega) | (simp only [List.all_cons, List.all_nil, Value.oneCell', Bool.and_self, Bool.and_true]; done)) [-Option.bind_some, hp_alloc_lt, hp_alloc_eq, hp_set_ne, wrap_small, ups_ap_cons, ups_ap_nil, upd_same, upd_other, env0_ap0, env0_aps, xt_a, xt_b, xt_c]
  exact laws_markTagS_n h0 hk xs.length 0 _ w (by omega) rfl (by rw [Mk.at_zero]; rfl) rfl (by rw [Mk.part_zero]; exact ho)
theorem laws_heldTagS_n {a : Option Addr} {c : Nat} {S : Nat → Prop} {xs : List Tag} {k0 : Int} (h0 : 0 ≤ k0) (hk : k0 + 10 * MTag.wtL xs ≤ 100000000000000) :
    ∀ (d j : Nat) (e : Env) (w : World), j + d = xs.length → e 0 = .slice a xs.length c → e 1 = i64 (MTag.at k0 xs j) → e 5 = i64 j → D tTags S w [.slice a xs.length c] (MTag.mkL k0 xs) →
    Ret (laws_heldTagS_l1 e w) fun r => r.1 = i64 (MTag.nxL k0 xs) ∧ Ext w r.2 := by
  intro d
  induction d with
  | zero =>
    intro j e w hd e0 e1 e5 ho
    rw [laws_heldTagS_l1_eq]
    obtain rfl : j = xs.length := by omega
    rw [Mk.at_end (Nat.le_refl _)] at e1
    simp (maxSteps := 1000000) (disch := first | assumption | omega | (simp only [World.size_alloc, size_setRow, dw_size]; done) | (simp only [World.size_alloc, size_setRow, dw_size] <;> omega) | (simp only [List.length_set, Array.length_toList, List.length_cons, List.length_nil, List.length_append, bts_size] <;> omega) | (simp only [List.all_cons, List.all_nil, Value.oneCell', Bool.and_self, Bool.and_true]; done)) [-Option.bind_some, hp_alloc_lt, hp_alloc_eq, hp_set_ne, wrap_small, ups_ap_cons, ups_ap_nil, upd_same, upd_other, env0_ap0, env0_aps, xt_a, xt_b, xt_c, e0, e1, e5, e0, e1, e5]
    (repeat (first | exact Ext.rfl | assumption | (refine Ext.al ?_ _) | (refine Ext.dw ?_) | (refine Ext.set ?_ (by first | omega | (simp only [World.size_alloc, size_setRow, dw_size]; omega)) _) | (refine Ext.tr ?_ (by assumption))))
  | succ d ih =>
    intro j e w hd e0 e1 e5 ho
    rw [laws_heldTagS_l1_eq]
    have hlt : j < xs.length := by omega
    obtain ⟨x, hx, _⟩ := drop_at hlt
    have hq := Mk.at_small MTag_small xs k0 j
    have hs : MTag.at k0 xs (j + 1) = MTag.at k0 xs j + 1 + 1 := Mk.at_succ hx
    have hn := ho.n
    have hx2 := Mk.mkL_get (M := MTag) xs k0 j hx
    generalize MTag.at k0 xs j = q at *
    rw [MTag_mk] at hx2
    obtain ⟨b1, o1, cs1, rfl, A1, D1, _, l1⟩ := ho.at (by decide) hx2
    obtain rfl := D.tag.1 D1
    have p0 := A1 0 _ rfl
    have p1 := A1 1 _ rfl
    simp only [LTag_n, Nat.add_zero] at p0 p1
    simp (maxSteps := 1000000) (disch := first | assumption | omega | (simp only [World.size_alloc, size_setRow, dw_size]; done) | (simp only [World.size_alloc, size_setRow, dw_size] <;> omega) | (simp only [List.length_set, Array.length_toList, List.length_cons, List.length_nil, List.length_append, bts_size] <;> omega) | (simp only [List.all_cons, List.all_nil, Value.oneCell', Bool.and_self, Bool.and_true]; done)) [-Option.bind_some, hp_alloc_lt, hp_alloc_eq, hp_set_ne, wrap_small, ups_ap_cons, ups_ap_nil, upd_same, upd_other, env0_ap0, env0_aps, xt_a, xt_b, xt_c, e0, e1, e5, hlt, ia_41, p0, p1, bne_self_eq_false, e0, e1, e5, hlt]
    refine Ret.mono (ih (j + 1) _ _ (by omega) (by first | omega | assumption | rfl | exact congrArg i64 (by omega) | (simp; done) | (simp; omega)) (by exact congrArg i64 hs.symm) (by first | omega | assumption | rfl | exact congrArg i64 (by omega) | (simp; done) | (simp; omega)) (ho.ext (by (repeat (first | exact Ext.rfl | assumption | (refine Ext.al ?_ _) | (refine Ext.dw ?_) | (refine Ext.set ?_ (by first | omega | (simp only [World.size_alloc, size_setRow, dw_size]; omega)) _) | (refine Ext.tr ?_ (by assumption))))))) ?_
    rintro r ⟨h1, h2⟩
    exact ⟨h1, Ext.tr (by (repeat (first | exact Ext.rfl | assumption | (refine Ext.al ?_ _) | (refine Ext.dw ?_) | (refine Ext.set ?_ (by first | omega | (simp only [World.size_alloc, size_setRow, dw_size]; omega)) _) | (refine Ext.tr ?_ (by assumption))))) h2⟩
theorem laws_heldTagS_m {a : Option Addr} {n c : Nat} {S : Nat → Prop} {xs : List Tag} {k : Int} (h0 : 0 ≤ k) (hk : k + 10 * MTag.wtL xs ≤ 100000000000000) {w : World} (ho : D tTags S w [.slice a n c] (MTag.mkL k xs)) :
    Ret (EV P 134 #[.slice a n c, i64 k] w) fun r => r.1 = i64 (MTag.nxL k xs) ∧ Ext w r.2 := by
  obtain ⟨rfl, _⟩ := ho.n
  rw [Mk.mkL_length] at *
  refine Ret.enter plain mixed (laws_heldTagS_fn _ _ _) (by kernel_rfl) (n := 2) (by kernel_rfl) rfl ?_
  simp (maxSteps := 1000000) (disch := first | assumption | omega | (simp only [World.size_alloc, size_setRow, dw_size]; done) | (simp only [World.size_alloc, size_setRow, dw_size] <;> omega) | (simp only [List.length_set, Array.length_toList, List.length_cons, List.length_nil, List.length_append, bts_size] <;> omega) | (simp only [List.all_cons, List.all_nil, Value.oneCell', Bool.and_self, Bool.and_true]; done)) [-Option.bind_some, hp_alloc_lt, hp_alloc_eq, hp_set_ne, wrap_small, ups_ap_cons, ups_ap_nil, upd_same, upd_other, env0_ap0, env0_aps, xt_a, xt_b, xt_c]
  exact laws_heldTagS_n h0 hk xs.length 0 _ w (by omega) rfl (by rw [Mk.at_zero]; rfl) rfl ho
end Go.Proofs.YthicfemhpnnaaaaGreat.X
set_option linter.unusedVariables false
set_option linter.unusedSimpArgs false
set_option maxRecDepth 100000
set_option maxHeartbeats 1000000
namespace Go.Proofs.YthicfemhpnnaaaaGreat.X
open Go Go.Ev Go.RowKit
noncomputable def MVer : Mk Ver := ⟨fun k v => ⟨k, ⟨k + 1, k + 1 + 1⟩, MTag.mkL (k + 1 + 1 + 1) v.past, mText (MTag.nxL (k + 1 + 1 + 1) v.past), (MTag.nxL (k + 1 + 1 + 1) v.past + 1).tmod 3 == 0⟩,
  fun k v => MTag.nxL (k + 1 + 1 + 1) v.past + 1 + 1, fun v => MTag.wtL v.past, fun k v => by have := Mk.nxL_le (M := MTag) v.past (k + 1 + 1 + 1); omega⟩
theorem MVer_small : MVer.Small := fun k v => by
  have := Mk.nxL_small MTag_small v.past (k + 1 + 1 + 1)
  show MTag.nxL (k + 1 + 1 + 1) v.past + 1 + 1 ≤ k + 10 * (1 + (MTag.wtL v.past : Int))
  omega
theorem MVer_mk (k : Int) (v : Ver) : MVer.mk k v = ⟨k, ⟨k + 1, k + 1 + 1⟩, MTag.mkL (k + 1 + 1 + 1) v.past, mText (MTag.nxL (k + 1 + 1 + 1) v.past), (MTag.nxL (k + 1 + 1 + 1) v.past + 1).tmod 3 == 0⟩ := rfl
theorem laws_markVerS_n {a : Option Addr} {c : Nat} {S : Nat → Prop} {xs : List Ver} {k0 : Int} (h0 : 0 ≤ k0) (hk : k0 + 10 * MVer.wtL xs ≤ 100000000000000) :
    ∀ (d j : Nat) (e : Env) (w : World), j + d = xs.length → e 0 = .slice a xs.length c → e 1 = i64 (MVer.at k0 xs j) → e 5 = i64 j → O tVers S w [.slice a xs.length c] (MVer.part k0 xs j) →
    Ret (laws_markVerS_l1 e w) fun r => r.1 = i64 (MVer.nxL k0 xs) ∧ O tVers S r.2 [.slice a xs.length c] (MVer.mkL k0 xs) ∧ Mod S w r.2 := by
  intro d
  induction d with
  | zero =>
    intro j e w hd e0 e1 e5 ho
    rw [laws_markVerS_l1_eq]
    obtain rfl : j = xs.length := by omega
    rw [Mk.part_end (Nat.le_refl _)] at ho
    rw [Mk.at_end (Nat.le_refl _)] at e1
    simp (maxSteps := 1000000) (disch := first | assumption | omega | (simp only [World.size_alloc, size_setRow, dw_size]; done) | (simp only [World.size_alloc, size_setRow, dw_size] <;> omega) | (simp only [List.length_set, Array.length_toList, List.length_cons, List.length_nil, List.length_append, bts_size] <;> omega) | (simp only [List.all_cons, List.all_nil, Value.oneCell', Bool.and_self, Bool.and_true]; done)) [-Option.bind_some, hp_alloc_lt, hp_alloc_eq, hp_set_ne, wrap_small, ups_ap_cons, ups_ap_nil, upd_same, upd_other, env0_ap0, env0_aps, xt_a, xt_b, xt_c, e0, e1, e5, e0, e1, e5]
    exact ⟨ho, Mod.rfl⟩
  | succ d ih =>
    intro j e w hd e0 e1 e5 ho
    rw [laws_markVerS_l1_eq]
    have hlt : j < xs.length := by omega
    obtain ⟨x, hx, _⟩ := drop_at hlt
    have hq := Mk.at_small MVer_small xs k0 j
    have hq1 := Mk.at_small MVer_small xs k0 (j + 1)
    have hr : MVer.at k0 xs j + 10 * (1 + (MTag.wtL x.past : Nat)) ≤ k0 + 10 * MVer.wtL xs := Mk.at_room MVer_small hx k0
    have hs : MVer.at k0 xs (j + 1) = MTag.nxL (MVer.at k0 xs j + 1 + 1 + 1) x.past + 1 + 1 := Mk.at_succ hx
    have hp := Mk.part_set (M := MVer) (k := k0) hx
    have hn := ho.n
    obtain ⟨g, cur, cs, S1, rfl, hSg, hgl, hg, hle, hx1, hS1, put⟩ := ho.row (by decide) (Mk.part_get hx)
    obtain ⟨a2, c2, rfl, hp2, ht⟩ := O.ver.1 hx1
    simp only [LVer_n] at hg hle put
    have hng : ¬ S1 g := fun h => (hS1 g h).2.1 rfl
    generalize MVer.at k0 xs j = q at *
    have hm := Mk.nxL_le (M := MTag) x.past (q + 1 + 1 + 1)
    have hmk := MVer_mk q x
    simp (maxSteps := 1000000) (disch := first | assumption | omega | (simp only [World.size_alloc, size_setRow, dw_size]; done) | (simp only [World.size_alloc, size_setRow, dw_size] <;> omega) | (simp only [List.length_set, Array.length_toList, List.length_cons, List.length_nil, List.length_append, bts_size] <;> omega) | (simp only [List.all_cons, List.all_nil, Value.oneCell', Bool.and_self, Bool.and_true]; done)) [-Option.bind_some, hp_alloc_lt, hp_alloc_eq, hp_set_ne, wrap_small, ups_ap_cons, ups_ap_nil, upd_same, upd_other, env0_ap0, env0_aps, xt_a, xt_b, xt_c, -splice_eq, -stR_cells, stR_box, stR_boxA, stR_row, stR_row0, stR_row1, stR_rowA, stR_rowA0, splice_rowv, splice_rowv0, splice_rowv1, splice_z, splice_n, splice_s, nth_rowv, nth_rowv0, nth_rowv1, rowv_len, e0, e1, e5, hlt, ia_32, hg, e0, e1, e5, hlt, hg]
    refine Ret.bind (laws_markTagS_m (by omega) (by omega) (hp2.keep (by intro b hS hb; (try dsimp only at hS); (try simp only [In, World.size_alloc, size_setRow, dw_size] at hS hb); have := hS1 b hS; first | rfl | (simp (disch := first | assumption | omega | (simp only [World.size_alloc, size_setRow, dw_size]; omega) | (simp only [World.size_alloc, size_setRow, dw_size, In]; omega)) only [hp_alloc_lt, hp_set_ne, hp_dw]; done)))) ?_
    rintro ⟨_, w1⟩ ⟨rfl, o1, M1⟩
    try dsimp only at o1 M1
    have zM1 := M1.size
    try simp only [World.size_alloc, size_setRow, dw_size] at zM1
    generalize MTag.nxL (q + 1 + 1 + 1) x.past = m at *
    simp (maxSteps := 1000000) (disch := first | assumption | omega | (simp only [World.size_alloc, size_setRow, dw_size]; done) | (simp only [World.size_alloc, size_setRow, dw_size] <;> omega) | (simp only [List.length_set, Array.length_toList, List.length_cons, List.length_nil, List.length_append, bts_size] <;> omega) | (simp only [List.all_cons, List.all_nil, Value.oneCell', Bool.and_self, Bool.and_true]; done)) [-Option.bind_some, hp_alloc_lt, hp_alloc_eq, hp_set_ne, wrap_small, ups_ap_cons, ups_ap_nil, upd_same, upd_other, env0_ap0, env0_aps, xt_a, xt_b, xt_c, -splice_eq, -stR_cells, stR_box, stR_boxA, stR_row, stR_row0, stR_row1, stR_rowA, stR_rowA0, splice_rowv, splice_rowv0, splice_rowv1, splice_z, splice_n, splice_s, nth_rowv, nth_rowv0, nth_rowv1, rowv_len, hg, e0, e1, e5, hlt, hg, M1.blk]
    refine Ret.bind ((mText_c (k := m) (by omega) (by omega)).2 _) ?_
    rintro ⟨_, w2⟩ ⟨rfl, E2⟩
    try dsimp only at E2
    have zE2 := E2.size
    try simp only [World.size_alloc, size_setRow, dw_size] at zE2
    have ht2 := (mText_c (k := m) (by omega) (by omega)).1
    simp (maxSteps := 1000000) (disch := first | assumption | omega | (simp only [World.size_alloc, size_setRow, dw_size]; done) | (simp only [World.size_alloc, size_setRow, dw_size] <;> omega) | (simp only [List.length_set, Array.length_toList, List.length_cons, List.length_nil, List.length_append, bts_size] <;> omega) | (simp only [List.all_cons, List.all_nil, Value.oneCell', Bool.and_self, Bool.and_true]; done)) [-Option.bind_some, hp_alloc_lt, hp_alloc_eq, hp_set_ne, wrap_small, ups_ap_cons, ups_ap_nil, upd_same, upd_other, env0_ap0, env0_aps, xt_a, xt_b, xt_c, -splice_eq, -stR_cells, stR_box, stR_boxA, stR_row, stR_row0, stR_row1, stR_rowA, stR_rowA0, splice_rowv, splice_rowv0, splice_rowv1, splice_z, splice_n, splice_s, nth_rowv, nth_rowv0, nth_rowv1, rowv_len, e0, e5, hlt, ia_32, hg, bo_rem, e0, e1, e5, hlt, hg, M1.blk, E2.blk]
    refine Ret.mono (ih (j + 1) _ _ (by omega) (by first | omega | assumption | rfl | exact congrArg i64 (by omega) | (simp; done) | (simp; omega)) (by exact congrArg i64 hs.symm) (by first | omega | assumption | rfl | exact congrArg i64 (by omega) | (simp; done) | (simp; omega)) ?_) ?_
    · rw [← hp]
      refine (put _ _ (MVer.mk q x) S1 (O.ver.2 ⟨a2, c2, rfl, ?_, ?_⟩) (by first | assumption | rfl | (simp (maxSteps := 1000000) (disch := first | assumption | omega | (simp only [World.size_alloc, size_setRow, dw_size]; done) | (simp only [World.size_alloc, size_setRow, dw_size] <;> omega) | (simp only [List.length_set, Array.length_toList, List.length_cons, List.length_nil, List.length_append, bts_size] <;> omega) | (simp only [List.all_cons, List.all_nil, Value.oneCell', Bool.and_self, Bool.and_true]; done)) [-Option.bind_some, hp_alloc_lt, hp_alloc_eq, hp_set_ne, wrap_small, ups_ap_cons, ups_ap_nil, upd_same, upd_other, env0_ap0, env0_aps, xt_a, xt_b, xt_c, -splice_eq, -stR_cells, stR_box, stR_boxA, stR_row, stR_row0, stR_row1, stR_rowA, stR_rowA0, splice_rowv, splice_rowv0, splice_rowv1, splice_z, splice_n, splice_s, nth_rowv, nth_rowv0, nth_rowv1, rowv_len, hg, hmk, Mk.mkL_length, e0, e1, e5, hlt, hg, M1.blk, E2.blk]; done)) (by intro b _ _ _ _; first | rfl | (simp (disch := first | assumption | omega | (simp only [World.size_alloc, size_setRow, dw_size]; omega) | (simp only [World.size_alloc, size_setRow, dw_size, In]; omega)) only [M1.blk, E2.blk, hp_alloc_lt, hp_set_ne, hp_dw]; done)) (fun _ _ h => .inl h)).wide fun b h _ => h.elim id fun h => (hS1 b h).1
      · rw [hmk]
        simp only [Mk.mkL_length]
        exact o1.keep (by intro b hS hb; (try dsimp only at hS); (try simp only [In, World.size_alloc, size_setRow, dw_size] at hS hb); have := hS1 b hS; first | rfl | (simp (disch := first | assumption | omega | (simp only [World.size_alloc, size_setRow, dw_size]; omega) | (simp only [World.size_alloc, size_setRow, dw_size, In]; omega)) only [M1.blk, E2.blk, hp_alloc_lt, hp_set_ne, hp_dw]; done))
      · rw [hmk]
        dsimp only
        omega
    · rintro r ⟨h1, h2, h3⟩
      exact ⟨h1, h2, Mod.tr (Mod.set' (Mod.set' (Mod.ex (Mod.after' (Mod.set' (Mod.set' (Mod.set' Mod.rfl (.inr hSg) _) (.inr hSg) _) (.inr hSg) _) M1 fun x _ hx => (hS1 x hx).1) E2) (.inr hSg) _) (.inr hSg) _) h3⟩
theorem laws_markVerS_m {a : Option Addr} {n c : Nat} {S : Nat → Prop} {xs : List Ver} {k : Int} (h0 : 0 ≤ k) (hk : k + 10 * MVer.wtL xs ≤ 100000000000000) {w : World} (ho : O tVers S w [.slice a n c] xs) :
    Ret (EV P 107 #[.slice a n c, i64 k] w) fun r => r.1 = i64 (MVer.nxL k xs) ∧ O tVers S r.2 [.slice a n c] (MVer.mkL k xs) ∧ Mod S w r.2 := by
  obtain ⟨rfl, _⟩ := ho.n
  refine Ret.enter plain mixed (laws_markVerS_fn _ _ _) (by kernel_rfl) (n := 2) (by kernel_rfl) rfl ?_
  simp (maxSteps := 1000000) (disch := first | assumption | omega | (simp only [World.size_alloc, size_setRow, dw_size]; done) | (simp only [World.size_alloc, size_setRow, dw_size] <;> omega) | (simp only [List.length_set, Array.length_toList, List.length_cons, List.length_nil, List.length_append, bts_size] <;> omega) | (simp only [List.all_cons, List.all_nil, Value.oneCell', Bool.and_self, Bool.and_true]; done)) [-Option.bind_some, hp_alloc_lt, hp_alloc_eq, hp_set_ne, wrap_small, ups_ap_cons, ups_ap_nil, upd_same, upd_other, env0_ap0, env0_aps, xt_a, xt_b, xt_c]
  exact laws_markVerS_n h0 hk xs.length 0 _ w (by omega) rfl (by rw [Mk.at_zero]; rfl) rfl (by rw [Mk.part_zero]; exact ho)
theorem laws_heldVerS_n {a : Option Addr} {c : Nat} {S : Nat → Prop} {xs : List Ver} {k0 : Int} (h0 : 0 ≤ k0) (hk : k0 + 10 * MVer.wtL xs ≤ 100000000000000) :
    ∀ (d j : Nat) (e : Env) (w : World), j + d = xs.length → e 0 = .slice a xs.length c → e 1 = i64 (MVer.at k0 xs j) → e 5 = i64 j → D tVers S w [.slice a xs.length c] (MVer.mkL k0 xs) →
    Ret (laws_heldVerS_l1 e w) fun r => r.1 = i64 (MVer.nxL k0 xs) ∧ Ext w r.2 := by
  intro d
  induction d with
  | zero =>
    intro j e w hd e0 e1 e5 ho
    rw [laws_heldVerS_l1_eq]
    obtain rfl : j = xs.length := by omega
    rw [Mk.at_end (Nat.le_refl _)] at e1
    simp (maxSteps := 1000000) (disch := first | assumption | omega | (simp only [World.size_alloc, size_setRow, dw_size]; done) | (simp only [World.size_alloc, size_setRow, dw_size] <;> omega) | (simp only [List.length_set, Array.length_toList, List.length_cons, List.length_nil, List.length_append, bts_size] <;> omega) | (simp only [List.all_cons, List.all_nil, Value.oneCell', Bool.and_self, Bool.and_true]; done)) [-Option.bind_some, hp_alloc_lt, hp_alloc_eq, hp_set_ne, wrap_small, ups_ap_cons, ups_ap_nil, upd_same, upd_other, env0_ap0, env0_aps, xt_a, xt_b, xt_c, e0, e1, e5, e0, e1, e5]
    (repeat (first | exact Ext.rfl | assumption | (refine Ext.al ?_ _) | (refine Ext.dw ?_) | (refine Ext.set ?_ (by first | omega | (simp only [World.size_alloc, size_setRow, dw_size]; omega)) _) | (refine Ext.tr ?_ (by assumption))))
  | succ d ih =>
    intro j e w hd e0 e1 e5 ho
    rw [laws_heldVerS_l1_eq]
    have hlt : j < xs.length := by omega
    obtain ⟨x, hx, _⟩ := drop_at hlt
    have hq := Mk.at_small MVer_small xs k0 j
    have hq1 := Mk.at_small MVer_small xs k0 (j + 1)
    have hr : MVer.at k0 xs j + 10 * (1 + (MTag.wtL x.past : Nat)) ≤ k0 + 10 * MVer.wtL xs := Mk.at_room MVer_small hx k0
    have hs : MVer.at k0 xs (j + 1) = MTag.nxL (MVer.at k0 xs j + 1 + 1 + 1) x.past + 1 + 1 := Mk.at_succ hx
    have hn := ho.n
    have hx2 := Mk.mkL_get (M := MVer) xs k0 j hx
    generalize MVer.at k0 xs j = q at *
    rw [MVer_mk] at hx2
    obtain ⟨b1, o1, cs1, rfl, A1, D1, _, l1⟩ := ho.at (by decide) hx2
    obtain ⟨a2, c2, rfl, hp2, ht⟩ := D.ver.1 D1
    have p0 := A1 0 _ rfl
    have p1 := A1 1 _ rfl
    have p2 := A1 2 _ rfl
    have p3 := A1 3 _ rfl
    have p4 := A1 4 _ rfl
    have p5 := A1 5 _ rfl
    simp only [LVer_n, Nat.add_zero] at p0 p1 p2 p3 p4 p5
    have hm := Mk.nxL_le (M := MTag) x.past (q + 1 + 1 + 1)
    simp (maxSteps := 1000000) (disch := first | assumption | omega | (simp only [World.size_alloc, size_setRow, dw_size]; done) | (simp only [World.size_alloc, size_setRow, dw_size] <;> omega) | (simp only [List.length_set, Array.length_toList, List.length_cons, List.length_nil, List.length_append, bts_size] <;> omega) | (simp only [List.all_cons, List.all_nil, Value.oneCell', Bool.and_self, Bool.and_true]; done)) [-Option.bind_some, hp_alloc_lt, hp_alloc_eq, hp_set_ne, wrap_small, ups_ap_cons, ups_ap_nil, upd_same, upd_other, env0_ap0, env0_aps, xt_a, xt_b, xt_c, e0, e1, e5, hlt, ia_32, p0, p1, p2, p3, p4, p5, bne_self_eq_false, e0, e1, e5, hlt]
    refine Ret.bind (laws_heldTagS_m (by omega) (by omega) (hp2.ext (by (repeat (first | exact Ext.rfl | assumption | (refine Ext.al ?_ _) | (refine Ext.dw ?_) | (refine Ext.set ?_ (by first | omega | (simp only [World.size_alloc, size_setRow, dw_size]; omega)) _) | (refine Ext.tr ?_ (by assumption))))))) ?_
    rintro ⟨_, w1⟩ ⟨rfl, E1⟩
    try dsimp only at E1
    have zE1 := E1.size
    try simp only [World.size_alloc, size_setRow, dw_size] at zE1
    generalize MTag.nxL (q + 1 + 1 + 1) x.past = m at *
    simp (maxSteps := 1000000) (disch := first | assumption | omega | (simp only [World.size_alloc, size_setRow, dw_size]; done) | (simp only [World.size_alloc, size_setRow, dw_size] <;> omega) | (simp only [List.length_set, Array.length_toList, List.length_cons, List.length_nil, List.length_append, bts_size] <;> omega) | (simp only [List.all_cons, List.all_nil, Value.oneCell', Bool.and_self, Bool.and_true]; done)) [-Option.bind_some, hp_alloc_lt, hp_alloc_eq, hp_set_ne, wrap_small, ups_ap_cons, ups_ap_nil, upd_same, upd_other, env0_ap0, env0_aps, xt_a, xt_b, xt_c, e0, e1, e5, hlt, ia_32, p0, p1, p2, p3, p4, p5, show ¬ m < 0 by omega, e0, e1, e5, hlt, E1.blk]
    refine Ret.bind ((mText_c (k := m) (by omega) (by omega)).2 _) ?_
    rintro ⟨_, w2⟩ ⟨rfl, E2⟩
    try dsimp only at E2
    have zE2 := E2.size
    try simp only [World.size_alloc, size_setRow, dw_size] at zE2
    simp (maxSteps := 1000000) (disch := first | assumption | omega | (simp only [World.size_alloc, size_setRow, dw_size]; done) | (simp only [World.size_alloc, size_setRow, dw_size] <;> omega) | (simp only [List.length_set, Array.length_toList, List.length_cons, List.length_nil, List.length_append, bts_size] <;> omega) | (simp only [List.all_cons, List.all_nil, Value.oneCell', Bool.and_self, Bool.and_true]; done)) [-Option.bind_some, hp_alloc_lt, hp_alloc_eq, hp_set_ne, wrap_small, ups_ap_cons, ups_ap_nil, upd_same, upd_other, env0_ap0, env0_aps, xt_a, xt_b, xt_c, e0, e1, e5, hlt, ia_32, p0, p1, p2, p3, p4, p5, bo_rem, e0, e1, e5, hlt, E1.blk, E2.blk]
    refine Ret.mono (ih (j + 1) _ _ (by omega) (by first | omega | assumption | rfl | exact congrArg i64 (by omega) | (simp; done) | (simp; omega)) (by exact congrArg i64 hs.symm) (by first | omega | assumption | rfl | exact congrArg i64 (by omega) | (simp; done) | (simp; omega)) (ho.ext (by (repeat (first | exact Ext.rfl | assumption | (refine Ext.al ?_ _) | (refine Ext.dw ?_) | (refine Ext.set ?_ (by first | omega | (simp only [World.size_alloc, size_setRow, dw_size]; omega)) _) | (refine Ext.tr ?_ (by assumption))))))) ?_
    rintro r ⟨h1, h2⟩
    exact ⟨h1, Ext.tr (by (repeat (first | exact Ext.rfl | assumption | (refine Ext.al ?_ _) | (refine Ext.dw ?_) | (refine Ext.set ?_ (by first | omega | (simp only [World.size_alloc, size_setRow, dw_size]; omega)) _) | (refine Ext.tr ?_ (by assumption))))) h2⟩
theorem laws_heldVerS_m {a : Option Addr} {n c : Nat} {S : Nat → Prop} {xs : List Ver} {k : Int} (h0 : 0 ≤ k) (hk : k + 10 * MVer.wtL xs ≤ 100000000000000) {w : World} (ho : D tVers S w [.slice a n c] (MVer.mkL k xs)) :
    Ret (EV P 109 #[.slice a n c, i64 k] w) fun r => r.1 = i64 (MVer.nxL k xs) ∧ Ext w r.2 := by
  obtain ⟨rfl, _⟩ := ho.n
  rw [Mk.mkL_length] at *
  refine Ret.enter plain mixed (laws_heldVerS_fn _ _ _) (by kernel_rfl) (n := 2) (by kernel_rfl) rfl ?_
  simp (maxSteps := 1000000) (disch := first | assumption | omega | (simp only [World.size_alloc, size_setRow, dw_size]; done) | (simp only [World.size_alloc, size_setRow, dw_size] <;> omega) | (simp only [List.length_set, Array.length_toList, List.length_cons, List.length_nil, List.length_append, bts_size] <;> omega) | (simp only [List.all_cons, List.all_nil, Value.oneCell', Bool.and_self, Bool.and_true]; done)) [-Option.bind_some, hp_alloc_lt, hp_alloc_eq, hp_set_ne, wrap_small, ups_ap_cons, ups_ap_nil, upd_same, upd_other, env0_ap0, env0_aps, xt_a, xt_b, xt_c]
  exact laws_heldVerS_n h0 hk xs.length 0 _ w (by omega) rfl (by rw [Mk.at_zero]; rfl) rfl ho
end Go.Proofs.YthicfemhpnnaaaaGreat.X
set_option linter.unusedVariables false
set_option linter.unusedSimpArgs false
set_option maxRecDepth 100000
set_option maxHeartbeats 1000000
namespace Go.Proofs.YthicfemhpnnaaaaGreat.X
open Go Go.Ev Go.RowKit
theorem At.new {w : World} {cs : List Value} {E : TypeId} : At (w.alloc (.cells cs.toArray E)) w.heap.size 0 cs := by
  intro j v hv
  rw [hp_alloc_eq rfl, cellO_some, ← nth_eq, Nat.zero_add]
  simpa using hv
theorem impl_Past_copied_n {a : Option Addr} {n c : Nat} {S : Nat → Prop} {xs : List Tag} {w : World} (ha : D tTags S w [.slice a n c] xs) :
    Ret (EV P 92 #[.agg #[.slice a n c]] w) fun r => ∃ a' c', r.1 = .agg #[.slice a' xs.length c'] ∧ O tTags (In w.heap.size r.2.heap.size) r.2 [.slice a' xs.length c'] xs ∧ Ext w r.2 := by
  refine Ret.mono (impl_Past_copied_c ha.rTags) ?_
  rintro ⟨_, w1⟩ ⟨s, rfl, h1, h2⟩
  obtain ⟨a', c', rfl, h3⟩ := tags_os h1
  exact ⟨a', c', rfl, h3, h2⟩
theorem impl_Ver_copied_n {S : Nat → Prop} {cs : List Value} {v : Ver} {w : World} (ha : D tVer S w cs v) :
    Ret (EV P 47 #[.agg cs.toArray] w) fun r => ∃ ds, r.1 = .agg ds.toArray ∧ O tVer (In w.heap.size r.2.heap.size) r.2 ds v ∧ Ext w r.2 := by
  obtain ⟨a, c, rfl, h1, h2⟩ := D.ver.1 ha
  refine Ret.enter plain mixed (impl_Ver_copied_fn _ _) (by kernel_rfl) (n := 1) (by kernel_rfl) rfl ?_
  simp (maxSteps := 1000000) (disch := first | assumption | omega | (simp only [World.size_alloc, size_setRow, dw_size]; done) | (simp only [World.size_alloc, size_setRow, dw_size] <;> omega) | (simp only [List.length_set, Array.length_toList, List.length_cons, List.length_nil, List.length_append, bts_size] <;> omega) | (simp only [List.all_cons, List.all_nil, Value.oneCell', Bool.and_self, Bool.and_true]; done)) [-Option.bind_some, hp_alloc_lt, hp_alloc_eq, hp_set_ne, wrap_small, ups_ap_cons, ups_ap_nil, upd_same, upd_other, env0_ap0, env0_aps, xt_a, xt_b, xt_c]
  refine Ret.bind (impl_Past_copied_n (h1.ext (by (repeat (first | exact Ext.rfl | assumption | (refine Ext.al ?_ _) | (refine Ext.dw ?_) | (refine Ext.set ?_ (by first | omega | (simp only [World.size_alloc, size_setRow, dw_size]; omega)) _) | (refine Ext.tr ?_ (by assumption))))))) ?_
  rintro ⟨_, w1⟩ ⟨a1, c1, rfl, o1, E1⟩
  try dsimp only at a1 c1 o1 E1
  have zE1 := E1.size
  try simp only [World.size_alloc, size_setRow, dw_size] at zE1
  simp (maxSteps := 1000000) (disch := first | assumption | omega | (simp only [World.size_alloc, size_setRow, dw_size]; done) | (simp only [World.size_alloc, size_setRow, dw_size] <;> omega) | (simp only [List.length_set, Array.length_toList, List.length_cons, List.length_nil, List.length_append, bts_size] <;> omega) | (simp only [List.all_cons, List.all_nil, Value.oneCell', Bool.and_self, Bool.and_true]; done)) [-Option.bind_some, hp_alloc_lt, hp_alloc_eq, hp_set_ne, wrap_small, ups_ap_cons, ups_ap_nil, upd_same, upd_other, env0_ap0, env0_aps, xt_a, xt_b, xt_c, E1.blk]
  refine ⟨(O.ver.2 ⟨a1, c1, rfl, o1.keep (by intro b hS hb; (try dsimp only at hS); (try simp only [In, World.size_alloc, size_setRow, dw_size] at hS hb); first | rfl | (simp (disch := first | assumption | omega | (simp only [World.size_alloc, size_setRow, dw_size]; omega) | (simp only [World.size_alloc, size_setRow, dw_size, In]; omega)) only [E1.blk, hp_alloc_lt, hp_set_ne, hp_dw]; done)), h2⟩).wide ?_, by (repeat (first | exact Ext.rfl | assumption | (refine Ext.al ?_ _) | (refine Ext.dw ?_) | (refine Ext.set ?_ (by first | omega | (simp only [World.size_alloc, size_setRow, dw_size]; omega)) _) | (refine Ext.tr ?_ (by assumption))))⟩
  intro b hS hb
  simp only [In, World.size_alloc, size_setRow] at *
  omega
theorem impl_versCopied_n1 {a : Option Addr} {c : Nat} {S : Nat → Prop} {xs : List Ver} {w0 : World} :
    ∀ (d k : Nat) (e : Env) (w : World) (a3 : Option Addr) (c3 : Nat), k + d = xs.length → e 3 = .slice a3 k c3 → e 9 = .slice a xs.length c → e 10 = i64 xs.length → e 11 = i64 k → D tVers S w0 [.slice a xs.length c] xs → Ext w0 w →
    O tVers (In w0.heap.size w.heap.size) w [.slice a3 k c3] (xs.take k) →
    Ret (impl_versCopied_l1 e w) fun r => ∃ a' c', r.1 = .slice a' xs.length c' ∧ O tVers (In w0.heap.size r.2.heap.size) r.2 [.slice a' xs.length c'] xs ∧ Ext w0 r.2 := by
  intro d
  induction d with
  | zero =>
    intro k e w a3 c3 hd e3 e9 e10 e11 ha E0 ho
    have zE0 := E0.size
    try simp only [World.size_alloc, size_setRow, dw_size] at zE0
    rw [impl_versCopied_l1_eq]
    obtain rfl : k = xs.length := by omega
    rw [List.take_length] at ho
    simp (maxSteps := 1000000) (disch := first | assumption | omega | (simp only [World.size_alloc, size_setRow, dw_size]; done) | (simp only [World.size_alloc, size_setRow, dw_size] <;> omega) | (simp only [List.length_set, Array.length_toList, List.length_cons, List.length_nil, List.length_append, bts_size] <;> omega) | (simp only [List.all_cons, List.all_nil, Value.oneCell', Bool.and_self, Bool.and_true]; done)) [-Option.bind_some, hp_alloc_lt, hp_alloc_eq, hp_set_ne, wrap_small, ups_ap_cons, ups_ap_nil, upd_same, upd_other, env0_ap0, env0_aps, xt_a, xt_b, xt_c, e3, e9, e10, e11, E0.blk]
    exact ⟨_, _, ⟨rfl, rfl⟩, ho, E0⟩
  | succ d ih =>
    intro k e w a3 c3 hd e3 e9 e10 e11 ha E0 ho
    have zE0 := E0.size
    try simp only [World.size_alloc, size_setRow, dw_size] at zE0
    rw [impl_versCopied_l1_eq]
    have hlt : k < xs.length := by omega
    obtain ⟨x, hx, _⟩ := drop_at hlt
    have hn := ha.n
    obtain ⟨b1, o1, cs1, rfl, A1, D1, _, l1⟩ := (ha.ext E0).at (by decide) hx
    obtain ⟨a2, c2, rfl, hp2, ht⟩ := D.ver.1 D1
    have p0 := A1 0 _ rfl
    have p1 := A1 1 _ rfl
    have p2 := A1 2 _ rfl
    have p3 := A1 3 _ rfl
    have p4 := A1 4 _ rfl
    have p5 := A1 5 _ rfl
    simp only [LVer_n, LTag_n, LNode_n, Nat.add_zero] at p0 p1 p2 p3 p4 p5
    have htk : (xs.take k).length = k := by rw [List.length_take]; omega
    simp (maxSteps := 1000000) (disch := first | assumption | omega | (simp only [World.size_alloc, size_setRow, dw_size]; done) | (simp only [World.size_alloc, size_setRow, dw_size] <;> omega) | (simp only [List.length_set, Array.length_toList, List.length_cons, List.length_nil, List.length_append, bts_size] <;> omega) | (simp only [List.all_cons, List.all_nil, Value.oneCell', Bool.and_self, Bool.and_true]; done)) [-Option.bind_some, hp_alloc_lt, hp_alloc_eq, hp_set_ne, wrap_small, ups_ap_cons, ups_ap_nil, upd_same, upd_other, env0_ap0, env0_aps, xt_a, xt_b, xt_c, ia_32, e3, e9, e10, e11, E0.blk, hlt, p0, p1, p2, p3, p4, p5]
    refine Ret.bind (impl_Ver_copied_n (D1.ext (by (repeat (first | exact Ext.rfl | assumption | (refine Ext.al ?_ _) | (refine Ext.dw ?_) | (refine Ext.set ?_ (by first | omega | (simp only [World.size_alloc, size_setRow, dw_size]; omega)) _) | (refine Ext.tr ?_ (by assumption))))))) ?_
    rintro ⟨_, w1⟩ ⟨ds, rfl, o2, E1⟩
    try dsimp only at ds o2 E1
    have zE1 := E1.size
    try simp only [World.size_alloc, size_setRow, dw_size] at zE1
    have zds := O.ver.1 o2
    obtain ⟨a4, c4, rfl, _, _⟩ := zds
    simp (maxSteps := 1000000) (disch := first | assumption | omega | (simp only [World.size_alloc, size_setRow, dw_size]; done) | (simp only [World.size_alloc, size_setRow, dw_size] <;> omega) | (simp only [List.length_set, Array.length_toList, List.length_cons, List.length_nil, List.length_append, bts_size] <;> omega) | (simp only [List.all_cons, List.all_nil, Value.oneCell', Bool.and_self, Bool.and_true]; done)) [-Option.bind_some, hp_alloc_lt, hp_alloc_eq, hp_set_ne, wrap_small, ups_ap_cons, ups_ap_nil, upd_same, upd_other, env0_ap0, env0_aps, xt_a, xt_b, xt_c, e3, e9, e10, e11, E0.blk, hlt, p0, p1, p2, p3, p4, p5, E1.blk]
    refine Ret.bind (O.app (mx := 1954687338211) el_32 zz_45 rfl (by decide) (ho.keep (by intro b hS hb; (try dsimp only at hS); (try simp only [In, World.size_alloc, size_setRow, dw_size] at hS hb); first | rfl | (simp (disch := first | assumption | omega | (simp only [World.size_alloc, size_setRow, dw_size]; omega) | (simp only [World.size_alloc, size_setRow, dw_size, In]; omega)) only [E0.blk, E1.blk, hp_alloc_lt, hp_set_ne, hp_dw]; done))) (o2.keep (by intro b hS hb; (try dsimp only at hS); (try simp only [In, World.size_alloc, size_setRow, dw_size] at hS hb); first | rfl | (simp (disch := first | assumption | omega | (simp only [World.size_alloc, size_setRow, dw_size]; omega) | (simp only [World.size_alloc, size_setRow, dw_size, In]; omega)) only [E0.blk, E1.blk, hp_alloc_lt, hp_set_ne, hp_dw]; done))) (by intro b hb h1 h2; simp only [In, World.size_alloc, size_setRow] at *; omega) At.new (by omega) (by decide) (by decide)) ?_
    rintro ⟨_, w2⟩ ⟨a5, c5, rfl, o3, M2⟩
    have zM2 := M2.size
    try simp only [World.size_alloc, size_setRow, dw_size] at zM2
    try dsimp only at o3 M2
    have zM2 := M2.size
    simp only [World.size_alloc, size_setRow] at zM2
    rw [htk, ← take_at hx] at o3
    rw [htk]
    simp (maxSteps := 1000000) (disch := first | assumption | omega | (simp only [World.size_alloc, size_setRow, dw_size]; done) | (simp only [World.size_alloc, size_setRow, dw_size] <;> omega) | (simp only [List.length_set, Array.length_toList, List.length_cons, List.length_nil, List.length_append, bts_size] <;> omega) | (simp only [List.all_cons, List.all_nil, Value.oneCell', Bool.and_self, Bool.and_true]; done)) [-Option.bind_some, hp_alloc_lt, hp_alloc_eq, hp_set_ne, wrap_small, ups_ap_cons, ups_ap_nil, upd_same, upd_other, env0_ap0, env0_aps, xt_a, xt_b, xt_c, e3, e9, e10, e11, E0.blk, hlt, p0, p1, p2, p3, p4, p5, E1.blk, M2.blk]
    refine Ret.mono (ih (k + 1) _ _ a5 c5 (by omega) (by first | omega | assumption | rfl | exact congrArg i64 (by omega) | (simp; done) | (simp; omega)) (by first | omega | assumption | rfl | exact congrArg i64 (by omega) | (simp; done) | (simp; omega)) (by first | omega | assumption | rfl | exact congrArg i64 (by omega) | (simp; done) | (simp; omega)) (by first | omega | assumption | rfl | exact congrArg i64 (by omega) | (simp; done) | (simp; omega)) ha ?_ (o3.wide ?_)) fun _ h => h
    · exact Mod.after (E0.tr (by (repeat (first | exact Ext.rfl | assumption | (refine Ext.al ?_ _) | (refine Ext.dw ?_) | (refine Ext.set ?_ (by first | omega | (simp only [World.size_alloc, size_setRow, dw_size]; omega)) _) | (refine Ext.tr ?_ (by assumption)))))) M2 (by intro x hx h; simp only [In] at h; omega)
    · intro b h1 h2
      simp only [In, World.size_alloc, size_setRow] at *
      omega
theorem impl_versCopied_n {a : Option Addr} {n c : Nat} {S : Nat → Prop} {xs : List Ver} {w : World} (ha : D tVers S w [.slice a n c] xs) :
    Ret (EV P 90 #[.slice a n c] w) fun r => ∃ a' c', r.1 = .slice a' xs.length c' ∧ O tVers (In w.heap.size r.2.heap.size) r.2 [.slice a' xs.length c'] xs ∧ Ext w r.2 := by
  obtain ⟨rfl, hm, _⟩ := ha.n
  refine Ret.enter plain mixed (impl_versCopied_fn _ _) (by kernel_rfl) (n := 1) (by kernel_rfl) rfl ?_
  simp (maxSteps := 1000000) (disch := first | assumption | omega | (simp only [World.size_alloc, size_setRow, dw_size]; done) | (simp only [World.size_alloc, size_setRow, dw_size] <;> omega) | (simp only [List.length_set, Array.length_toList, List.length_cons, List.length_nil, List.length_append, bts_size] <;> omega) | (simp only [List.all_cons, List.all_nil, Value.oneCell', Bool.and_self, Bool.and_true]; done)) [-Option.bind_some, hp_alloc_lt, hp_alloc_eq, hp_set_ne, wrap_small, ups_ap_cons, ups_ap_nil, upd_same, upd_other, env0_ap0, env0_aps, xt_a, xt_b, xt_c]
  refine Ret.bind (O.make0 (L := tVer) (mx := 1954687338211) el_32 zz_45 rfl (by decide) hm (by decide) (by decide)) ?_
  rintro ⟨_, w1⟩ ⟨rfl, o1, z1, E1⟩
  have zE1 := E1.size
  try simp only [World.size_alloc, size_setRow, dw_size] at zE1
  dsimp only at o1 z1 E1
  simp (maxSteps := 1000000) (disch := first | assumption | omega | (simp only [World.size_alloc, size_setRow, dw_size]; done) | (simp only [World.size_alloc, size_setRow, dw_size] <;> omega) | (simp only [List.length_set, Array.length_toList, List.length_cons, List.length_nil, List.length_append, bts_size] <;> omega) | (simp only [List.all_cons, List.all_nil, Value.oneCell', Bool.and_self, Bool.and_true]; done)) [-Option.bind_some, hp_alloc_lt, hp_alloc_eq, hp_set_ne, wrap_small, ups_ap_cons, ups_ap_nil, upd_same, upd_other, env0_ap0, env0_aps, xt_a, xt_b, xt_c, E1.blk]
  exact impl_versCopied_n1 xs.length 0 _ w1 _ _ (by omega) rfl rfl rfl rfl ha E1 (o1.wide (by intro b h1 h2; simp only [In]; omega))
theorem impl_Store_copied_n {a : Option Addr} {n c : Nat} {S : Nat → Prop} {xs : List Ver} {w : World} (ha : D tVers S w [.slice a n c] xs) :
    Ret (EV P 45 #[.agg #[.slice a n c]] w) fun r => ∃ a' c', r.1 = .agg #[.slice a' xs.length c'] ∧ O tVers (In w.heap.size r.2.heap.size) r.2 [.slice a' xs.length c'] xs ∧ Ext w r.2 := by
  obtain ⟨rfl, hm, _⟩ := ha.n
  refine Ret.enter plain mixed (impl_Store_copied_fn _ _) (by kernel_rfl) (n := 1) (by kernel_rfl) rfl ?_
  simp (maxSteps := 1000000) (disch := first | assumption | omega | (simp only [World.size_alloc, size_setRow, dw_size]; done) | (simp only [World.size_alloc, size_setRow, dw_size] <;> omega) | (simp only [List.length_set, Array.length_toList, List.length_cons, List.length_nil, List.length_append, bts_size] <;> omega) | (simp only [List.all_cons, List.all_nil, Value.oneCell', Bool.and_self, Bool.and_true]; done)) [-Option.bind_some, hp_alloc_lt, hp_alloc_eq, hp_set_ne, wrap_small, ups_ap_cons, ups_ap_nil, upd_same, upd_other, env0_ap0, env0_aps, xt_a, xt_b, xt_c]
  refine Ret.bind (impl_versCopied_n (ha.ext (by (repeat (first | exact Ext.rfl | assumption | (refine Ext.al ?_ _) | (refine Ext.dw ?_) | (refine Ext.set ?_ (by first | omega | (simp only [World.size_alloc, size_setRow, dw_size]; omega)) _) | (refine Ext.tr ?_ (by assumption))))))) ?_
  rintro ⟨_, w1⟩ ⟨a1, c1, rfl, o1, E1⟩
  try dsimp only at a1 c1 o1 E1
  have zE1 := E1.size
  try simp only [World.size_alloc, size_setRow, dw_size] at zE1
  simp (maxSteps := 1000000) (disch := first | assumption | omega | (simp only [World.size_alloc, size_setRow, dw_size]; done) | (simp only [World.size_alloc, size_setRow, dw_size] <;> omega) | (simp only [List.length_set, Array.length_toList, List.length_cons, List.length_nil, List.length_append, bts_size] <;> omega) | (simp only [List.all_cons, List.all_nil, Value.oneCell', Bool.and_self, Bool.and_true]; done)) [-Option.bind_some, hp_alloc_lt, hp_alloc_eq, hp_set_ne, wrap_small, ups_ap_cons, ups_ap_nil, upd_same, upd_other, env0_ap0, env0_aps, xt_a, xt_b, xt_c, E1.blk]
  exact ⟨_, _, ⟨rfl, rfl⟩, (o1.keep (by intro b hS hb; (try dsimp only at hS); (try simp only [In, World.size_alloc, size_setRow, dw_size] at hS hb); first | rfl | (simp (disch := first | assumption | omega | (simp only [World.size_alloc, size_setRow, dw_size]; omega) | (simp only [World.size_alloc, size_setRow, dw_size, In]; omega)) only [E1.blk, hp_alloc_lt, hp_set_ne, hp_dw]; done))).wide (by intro b h1 h2; simp only [In, World.size_alloc, size_setRow] at *; omega), by (repeat (first | exact Ext.rfl | assumption | (refine Ext.al ?_ _) | (refine Ext.dw ?_) | (refine Ext.set ?_ (by first | omega | (simp only [World.size_alloc, size_setRow, dw_size]; omega)) _) | (refine Ext.tr ?_ (by assumption))))⟩
end Go.Proofs.YthicfemhpnnaaaaGreat.X
set_option linter.unusedVariables false
set_option linter.unusedSimpArgs false
set_option maxRecDepth 100000
set_option maxHeartbeats 1000000
namespace Go.Proofs.YthicfemhpnnaaaaGreat.X
open Go Go.Ev Go.RowKit
theorem spec_l2Copy_n {S : Nat → Prop} {cs : List Value} {v : Ver} {w : World} (ha : D tVer S w cs v) :
    Ret (EV P 82 #[.agg cs.toArray] w) fun r => ∃ ds, r.1 = .agg ds.toArray ∧ O tVer (In w.heap.size r.2.heap.size) r.2 ds v ∧ Ext w r.2 := by
  obtain ⟨a, c, rfl, h1, h2⟩ := D.ver.1 ha
  have hn := h1.n
  refine Ret.enter plain mixed (spec_l2Copy_fn _ _) (by kernel_rfl) (n := 1) (by kernel_rfl) rfl ?_
  simp (maxSteps := 1000000) (disch := first | assumption | omega | (simp only [World.size_alloc, size_setRow, dw_size]; done) | (simp only [World.size_alloc, size_setRow, dw_size] <;> omega) | (simp only [List.length_set, Array.length_toList, List.length_cons, List.length_nil, List.length_append, bts_size] <;> omega) | (simp only [List.all_cons, List.all_nil, Value.oneCell', Bool.and_self, Bool.and_true]; done)) [-Option.bind_some, hp_alloc_lt, hp_alloc_eq, hp_set_ne, wrap_small, ups_ap_cons, ups_ap_nil, upd_same, upd_other, env0_ap0, env0_aps, xt_a, xt_b, xt_c]
  refine Ret.bind (O.appD (L := LTag) (mx := 8796093021952) flat_tag el_41 zz_40 rfl (by decide) (O.empty (g := w.heap.size + 1 + 1) (by first | assumption | rfl | (simp (maxSteps := 1000000) (disch := first | assumption | omega | (simp only [World.size_alloc, size_setRow, dw_size]; done) | (simp only [World.size_alloc, size_setRow, dw_size] <;> omega) | (simp only [List.length_set, Array.length_toList, List.length_cons, List.length_nil, List.length_append, bts_size] <;> omega) | (simp only [List.all_cons, List.all_nil, Value.oneCell', Bool.and_self, Bool.and_true]; done)) [-Option.bind_some, hp_alloc_lt, hp_alloc_eq, hp_set_ne, wrap_small, ups_ap_cons, ups_ap_nil, upd_same, upd_other, env0_ap0, env0_aps, xt_a, xt_b, xt_c]; done))) (h1.ext (by (repeat (first | exact Ext.rfl | assumption | (refine Ext.al ?_ _) | (refine Ext.dw ?_) | (refine Ext.set ?_ (by first | omega | (simp only [World.size_alloc, size_setRow, dw_size]; omega)) _) | (refine Ext.tr ?_ (by assumption)))))) (by simp; omega) (by decide) (by decide)) ?_
  rintro ⟨_, w1⟩ ⟨a1, c1, rfl, o1, M1⟩
  have zM1 := M1.size
  try simp only [World.size_alloc, size_setRow, dw_size] at zM1
  dsimp only at o1 M1
  have zM1 := M1.size
  simp only [World.size_alloc, List.nil_append, List.length_nil, Nat.zero_add] at o1 zM1
  have X1 := M1.blk w.heap.size (by simp only [World.size_alloc]; omega) (by omega)
  have X2 := M1.blk (w.heap.size + 1) (by simp only [World.size_alloc]; omega) (by omega)
  simp (maxSteps := 1000000) (disch := first | assumption | omega | (simp only [World.size_alloc, size_setRow, dw_size]; done) | (simp only [World.size_alloc, size_setRow, dw_size] <;> omega) | (simp only [List.length_set, Array.length_toList, List.length_cons, List.length_nil, List.length_append, bts_size] <;> omega) | (simp only [List.all_cons, List.all_nil, Value.oneCell', Bool.and_self, Bool.and_true]; done)) [-Option.bind_some, hp_alloc_lt, hp_alloc_eq, hp_set_ne, wrap_small, ups_ap_cons, ups_ap_nil, upd_same, upd_other, env0_ap0, env0_aps, xt_a, xt_b, xt_c, M1.blk, X1, X2]
  refine ⟨(O.ver.2 ⟨a1, c1, rfl, o1.keep (by intro b hS hb; (try dsimp only at hS); (try simp only [In, World.size_alloc, size_setRow, dw_size] at hS hb); first | rfl | (simp (disch := first | assumption | omega | (simp only [World.size_alloc, size_setRow, dw_size]; omega) | (simp only [World.size_alloc, size_setRow, dw_size, In]; omega)) only [M1.blk, hp_alloc_lt, hp_set_ne, hp_dw]; done)), h2⟩).wide (by intro b h1 h2; (try dsimp only at h1); (try simp only [In, World.size_alloc, size_setRow, dw_size] at *); omega), ?_⟩
  exact Ext.set (Ext.set (Mod.after (a := w) (by (repeat (first | exact Ext.rfl | assumption | (refine Ext.al ?_ _) | (refine Ext.dw ?_) | (refine Ext.set ?_ (by first | omega | (simp only [World.size_alloc, size_setRow, dw_size]; omega)) _) | (refine Ext.tr ?_ (by assumption))))) M1 (by intro x hx h; omega)) (by omega) _) (by omega) _
theorem spec_l2CopyStore_n1 {a : Option Addr} {c g1 g2 g3 : Nat} {S : Nat → Prop} {xs : List Ver} {w0 : World} (h12 : g1 < g3) (h32 : g2 < g3) (h03 : w0.heap.size ≤ g1) (h02 : w0.heap.size ≤ g2) (hne : g1 ≠ g2) :
    ∀ (d k : Nat) (e : Env) (w : World) (a3 : Option Addr) (c3 : Nat) (sv : Value), k + d = xs.length → e 1 = pt g1 0 → e 2 = pt g2 0 → e 3 = pt g3 0 → e 4 = i64 k → hp w g1 = some (.cells #[.slice a xs.length c] 34 (0, 0)) → hp w g2 = some (.cells #[sv] 34 (0, 0)) → hp w g3 = some (.cells #[.slice a3 k c3] 34 (0, 0)) →
    D tVers S w0 [.slice a xs.length c] xs → Ext w0 w → O tVers (In (g3 + 1) w.heap.size) w [.slice a3 k c3] (xs.take k) →
    Ret (spec_l2CopyStore_l1 e w) fun r => ∃ a' c', r.1 = .agg #[.slice a' xs.length c'] ∧ O tVers (In (g3 + 1) r.2.heap.size) r.2 [.slice a' xs.length c'] xs ∧ Ext w0 r.2 := by
  intro d
  induction d with
  | zero =>
    intro k e w a3 c3 sv hd e1 e2 e3 e4 X1 X2 X3 ha E0 ho
    have zE0 := E0.size
    try simp only [World.size_alloc, size_setRow, dw_size] at zE0
    rw [spec_l2CopyStore_l1_eq]
    obtain rfl : k = xs.length := by omega
    rw [List.take_length] at ho
    simp (maxSteps := 1000000) (disch := first | assumption | omega | (simp only [World.size_alloc, size_setRow, dw_size]; done) | (simp only [World.size_alloc, size_setRow, dw_size] <;> omega) | (simp only [List.length_set, Array.length_toList, List.length_cons, List.length_nil, List.length_append, bts_size] <;> omega) | (simp only [List.all_cons, List.all_nil, Value.oneCell', Bool.and_self, Bool.and_true]; done)) [-Option.bind_some, hp_alloc_lt, hp_alloc_eq, hp_set_ne, wrap_small, ups_ap_cons, ups_ap_nil, upd_same, upd_other, env0_ap0, env0_aps, xt_a, xt_b, xt_c, e1, e2, e3, e4, X1, X2, X3, E0.blk]
    exact ⟨_, _, ⟨rfl, rfl⟩, ho.keep (by intro b hS hb; (try dsimp only at hS); (try simp only [In, World.size_alloc, size_setRow, dw_size] at hS hb); first | rfl | (simp (disch := first | assumption | omega | (simp only [World.size_alloc, size_setRow, dw_size]; omega) | (simp only [World.size_alloc, size_setRow, dw_size, In]; omega)) only [E0.blk, hp_alloc_lt, hp_set_ne, hp_dw]; done)), by (repeat (first | exact Ext.rfl | assumption | (refine Ext.al ?_ _) | (refine Ext.dw ?_) | (refine Ext.set ?_ (by first | omega | (simp only [World.size_alloc, size_setRow, dw_size]; omega)) _) | (refine Ext.tr ?_ (by assumption))))⟩
  | succ d ih =>
    intro k e w a3 c3 sv hd e1 e2 e3 e4 X1 X2 X3 ha E0 ho
    have zE0 := E0.size
    try simp only [World.size_alloc, size_setRow, dw_size] at zE0
    rw [spec_l2CopyStore_l1_eq]
    have hlt : k < xs.length := by omega
    obtain ⟨x, hx, _⟩ := drop_at hlt
    have hn := ha.n
    obtain ⟨b1, o1, cs1, rfl, A1, D1, _, l1⟩ := (ha.ext E0).at (by decide) hx
    obtain ⟨a2, c2, rfl, hp2, ht⟩ := D.ver.1 D1
    have p0 := A1 0 _ rfl
    have p1 := A1 1 _ rfl
    have p2 := A1 2 _ rfl
    have p3 := A1 3 _ rfl
    have p4 := A1 4 _ rfl
    have p5 := A1 5 _ rfl
    simp only [LVer_n, LTag_n, LNode_n, Nat.add_zero] at p0 p1 p2 p3 p4 p5
    have htk : (xs.take k).length = k := by rw [List.length_take]; omega
    have y1 := hp_lt X1
    have y2 := hp_lt X2
    have y3 := hp_lt X3
    simp (maxSteps := 1000000) (disch := first | assumption | omega | (simp only [World.size_alloc, size_setRow, dw_size]; done) | (simp only [World.size_alloc, size_setRow, dw_size] <;> omega) | (simp only [List.length_set, Array.length_toList, List.length_cons, List.length_nil, List.length_append, bts_size] <;> omega) | (simp only [List.all_cons, List.all_nil, Value.oneCell', Bool.and_self, Bool.and_true]; done)) [-Option.bind_some, hp_alloc_lt, hp_alloc_eq, hp_set_ne, wrap_small, ups_ap_cons, ups_ap_nil, upd_same, upd_other, env0_ap0, env0_aps, xt_a, xt_b, xt_c, ia_32, e1, e2, e3, e4, X1, X2, X3, E0.blk, hlt, p0, p1, p2, p3, p4, p5]
    refine Ret.bind (spec_l2Copy_n (D1.ext (by (repeat (first | exact Ext.rfl | assumption | (refine Ext.al ?_ _) | (refine Ext.dw ?_) | (refine Ext.set ?_ (by first | omega | (simp only [World.size_alloc, size_setRow, dw_size]; omega)) _) | (refine Ext.tr ?_ (by assumption))))))) ?_
    rintro ⟨_, w1⟩ ⟨ds, rfl, o2, E1⟩
    try dsimp only at ds o2 E1
    have zE1 := E1.size
    try simp only [World.size_alloc, size_setRow, dw_size] at zE1
    have zds := O.ver.1 o2
    obtain ⟨a4, c4, rfl, _, _⟩ := zds
    simp (maxSteps := 1000000) (disch := first | assumption | omega | (simp only [World.size_alloc, size_setRow, dw_size]; done) | (simp only [World.size_alloc, size_setRow, dw_size] <;> omega) | (simp only [List.length_set, Array.length_toList, List.length_cons, List.length_nil, List.length_append, bts_size] <;> omega) | (simp only [List.all_cons, List.all_nil, Value.oneCell', Bool.and_self, Bool.and_true]; done)) [-Option.bind_some, hp_alloc_lt, hp_alloc_eq, hp_set_ne, wrap_small, ups_ap_cons, ups_ap_nil, upd_same, upd_other, env0_ap0, env0_aps, xt_a, xt_b, xt_c, e1, e2, e3, e4, X1, X2, X3, E0.blk, hlt, p0, p1, p2, p3, p4, p5, E1.blk]
    refine Ret.bind (O.app (L := tVer) (mx := 1954687338211) el_32 zz_45 rfl (by decide) (ho.keep (by intro b hS hb; (try dsimp only at hS); (try simp only [In, World.size_alloc, size_setRow, dw_size] at hS hb); first | rfl | (simp (disch := first | assumption | omega | (simp only [World.size_alloc, size_setRow, dw_size]; omega) | (simp only [World.size_alloc, size_setRow, dw_size, In]; omega)) only [E0.blk, E1.blk, hp_alloc_lt, hp_set_ne, hp_dw]; done))) (o2.keep (by intro b hS hb; (try dsimp only at hS); (try simp only [In, World.size_alloc, size_setRow, dw_size] at hS hb); first | rfl | (simp (disch := first | assumption | omega | (simp only [World.size_alloc, size_setRow, dw_size]; omega) | (simp only [World.size_alloc, size_setRow, dw_size, In]; omega)) only [E0.blk, E1.blk, hp_alloc_lt, hp_set_ne, hp_dw]; done))) (by intro b hb h1 h2; simp only [In, World.size_alloc, size_setRow, dw_size] at *; omega) At.new (by omega) (by decide) (by decide)) ?_
    rintro ⟨_, w2⟩ ⟨a5, c5, rfl, o3, M2⟩
    have zM2 := M2.size
    try simp only [World.size_alloc, size_setRow, dw_size] at zM2
    try dsimp only at o3 M2
    have zM2 := M2.size
    simp only [World.size_alloc, size_setRow] at zM2
    rw [htk, ← take_at hx] at o3
    rw [htk]
    have Y1 : hp w2 g1 = hp w g1 := (M2.blk g1 (by simp only [World.size_alloc]; omega) (by simp only [In]; omega)).trans (by first | assumption | rfl | (simp (maxSteps := 1000000) (disch := first | assumption | omega | (simp only [World.size_alloc, size_setRow, dw_size]; done) | (simp only [World.size_alloc, size_setRow, dw_size] <;> omega) | (simp only [List.length_set, Array.length_toList, List.length_cons, List.length_nil, List.length_append, bts_size] <;> omega) | (simp only [List.all_cons, List.all_nil, Value.oneCell', Bool.and_self, Bool.and_true]; done)) [-Option.bind_some, hp_alloc_lt, hp_alloc_eq, hp_set_ne, wrap_small, ups_ap_cons, ups_ap_nil, upd_same, upd_other, env0_ap0, env0_aps, xt_a, xt_b, xt_c, e1, e2, e3, e4, X1, X2, X3, E0.blk, hlt, p0, p1, p2, p3, p4, p5, E1.blk, M2.blk]; done))
    have Y2 : hp w2 g2 = hp w g2 := (M2.blk g2 (by simp only [World.size_alloc]; omega) (by simp only [In]; omega)).trans (by first | assumption | rfl | (simp (maxSteps := 1000000) (disch := first | assumption | omega | (simp only [World.size_alloc, size_setRow, dw_size]; done) | (simp only [World.size_alloc, size_setRow, dw_size] <;> omega) | (simp only [List.length_set, Array.length_toList, List.length_cons, List.length_nil, List.length_append, bts_size] <;> omega) | (simp only [List.all_cons, List.all_nil, Value.oneCell', Bool.and_self, Bool.and_true]; done)) [-Option.bind_some, hp_alloc_lt, hp_alloc_eq, hp_set_ne, wrap_small, ups_ap_cons, ups_ap_nil, upd_same, upd_other, env0_ap0, env0_aps, xt_a, xt_b, xt_c, e1, e2, e3, e4, X1, X2, X3, E0.blk, hlt, p0, p1, p2, p3, p4, p5, E1.blk, M2.blk]; done))
    have Y3 : hp w2 g3 = hp w g3 := (M2.blk g3 (by simp only [World.size_alloc]; omega) (by simp only [In]; omega)).trans (by first | assumption | rfl | (simp (maxSteps := 1000000) (disch := first | assumption | omega | (simp only [World.size_alloc, size_setRow, dw_size]; done) | (simp only [World.size_alloc, size_setRow, dw_size] <;> omega) | (simp only [List.length_set, Array.length_toList, List.length_cons, List.length_nil, List.length_append, bts_size] <;> omega) | (simp only [List.all_cons, List.all_nil, Value.oneCell', Bool.and_self, Bool.and_true]; done)) [-Option.bind_some, hp_alloc_lt, hp_alloc_eq, hp_set_ne, wrap_small, ups_ap_cons, ups_ap_nil, upd_same, upd_other, env0_ap0, env0_aps, xt_a, xt_b, xt_c, e1, e2, e3, e4, X1, X2, X3, E0.blk, hlt, p0, p1, p2, p3, p4, p5, E1.blk, M2.blk]; done))
    simp (maxSteps := 1000000) (disch := first | assumption | omega | (simp only [World.size_alloc, size_setRow, dw_size]; done) | (simp only [World.size_alloc, size_setRow, dw_size] <;> omega) | (simp only [List.length_set, Array.length_toList, List.length_cons, List.length_nil, List.length_append, bts_size] <;> omega) | (simp only [List.all_cons, List.all_nil, Value.oneCell', Bool.and_self, Bool.and_true]; done)) [-Option.bind_some, hp_alloc_lt, hp_alloc_eq, hp_set_ne, wrap_small, ups_ap_cons, ups_ap_nil, upd_same, upd_other, env0_ap0, env0_aps, xt_a, xt_b, xt_c, Y3, e1, e2, e3, e4, X1, X2, X3, E0.blk, hlt, p0, p1, p2, p3, p4, p5, E1.blk, M2.blk]
    have E3 : Ext w0 w2 := Mod.after (E0.tr (by (repeat (first | exact Ext.rfl | assumption | (refine Ext.al ?_ _) | (refine Ext.dw ?_) | (refine Ext.set ?_ (by first | omega | (simp only [World.size_alloc, size_setRow, dw_size]; omega)) _) | (refine Ext.tr ?_ (by assumption)))))) M2 (by intro x hx h; simp only [In] at h; omega)
    have zE3 := E3.size
    try simp only [World.size_alloc, size_setRow, dw_size] at zE3
    refine Ret.mono (ih (k + 1) _ _ a5 c5 sv (by omega) (by first | omega | assumption | rfl | exact congrArg i64 (by omega) | (simp; done) | (simp; omega)) (by first | omega | assumption | rfl | exact congrArg i64 (by omega) | (simp; done) | (simp; omega)) (by first | omega | assumption | rfl | exact congrArg i64 (by omega) | (simp; done) | (simp; omega)) (by first | omega | assumption | rfl | exact congrArg i64 (by omega) | (simp; done) | (simp; omega)) (by first | assumption | rfl | (simp (maxSteps := 1000000) (disch := first | assumption | omega | (simp only [World.size_alloc, size_setRow, dw_size]; done) | (simp only [World.size_alloc, size_setRow, dw_size] <;> omega) | (simp only [List.length_set, Array.length_toList, List.length_cons, List.length_nil, List.length_append, bts_size] <;> omega) | (simp only [List.all_cons, List.all_nil, Value.oneCell', Bool.and_self, Bool.and_true]; done)) [-Option.bind_some, hp_alloc_lt, hp_alloc_eq, hp_set_ne, wrap_small, ups_ap_cons, ups_ap_nil, upd_same, upd_other, env0_ap0, env0_aps, xt_a, xt_b, xt_c, Y1, e1, e2, e3, e4, X1, X2, X3, E0.blk, hlt, p0, p1, p2, p3, p4, p5, E1.blk, M2.blk, E3.blk]; done)) (by first | assumption | rfl | (simp (maxSteps := 1000000) (disch := first | assumption | omega | (simp only [World.size_alloc, size_setRow, dw_size]; done) | (simp only [World.size_alloc, size_setRow, dw_size] <;> omega) | (simp only [List.length_set, Array.length_toList, List.length_cons, List.length_nil, List.length_append, bts_size] <;> omega) | (simp only [List.all_cons, List.all_nil, Value.oneCell', Bool.and_self, Bool.and_true]; done)) [-Option.bind_some, hp_alloc_lt, hp_alloc_eq, hp_set_ne, wrap_small, ups_ap_cons, ups_ap_nil, upd_same, upd_other, env0_ap0, env0_aps, xt_a, xt_b, xt_c, Y2, e1, e2, e3, e4, X1, X2, X3, E0.blk, hlt, p0, p1, p2, p3, p4, p5, E1.blk, M2.blk, E3.blk]; done)) (by first | assumption | rfl | (simp (maxSteps := 1000000) (disch := first | assumption | omega | (simp only [World.size_alloc, size_setRow, dw_size]; done) | (simp only [World.size_alloc, size_setRow, dw_size] <;> omega) | (simp only [List.length_set, Array.length_toList, List.length_cons, List.length_nil, List.length_append, bts_size] <;> omega) | (simp only [List.all_cons, List.all_nil, Value.oneCell', Bool.and_self, Bool.and_true]; done)) [-Option.bind_some, hp_alloc_lt, hp_alloc_eq, hp_set_ne, wrap_small, ups_ap_cons, ups_ap_nil, upd_same, upd_other, env0_ap0, env0_aps, xt_a, xt_b, xt_c, Y3, e1, e2, e3, e4, X1, X2, X3, E0.blk, hlt, p0, p1, p2, p3, p4, p5, E1.blk, M2.blk, E3.blk]; done)) ha (by (repeat (first | exact Ext.rfl | assumption | (refine Ext.al ?_ _) | (refine Ext.dw ?_) | (refine Ext.set ?_ (by first | omega | (simp only [World.size_alloc, size_setRow, dw_size]; omega)) _) | (refine Ext.tr ?_ (by assumption))))) (((o3.wide ?_).keep (S := In (g3 + 1) w2.heap.size) (by intro b hS hb; (try dsimp only at hS); (try simp only [In, World.size_alloc, size_setRow, dw_size] at hS hb); first | rfl | (simp (disch := first | assumption | omega | (simp only [World.size_alloc, size_setRow, dw_size]; omega) | (simp only [World.size_alloc, size_setRow, dw_size, In]; omega)) only [E0.blk, E1.blk, M2.blk, E3.blk, hp_alloc_lt, hp_set_ne, hp_dw]; done))).wide ?_)) fun _ h => h
    · intro b h1 h2
      simp only [In, World.size_alloc, dw_size] at *
      omega
    · intro b h1 h2
      simp only [In, size_setRow] at *
      omega
theorem spec_l2CopyStore_n {a : Option Addr} {n c : Nat} {S : Nat → Prop} {xs : List Ver} {w : World} (ha : D tVers S w [.slice a n c] xs) :
    Ret (EV P 81 #[.agg #[.slice a n c]] w) fun r => ∃ a' c', r.1 = .agg #[.slice a' xs.length c'] ∧ O tVers (In w.heap.size r.2.heap.size) r.2 [.slice a' xs.length c'] xs ∧ Ext w r.2 := by
  obtain ⟨rfl, hm, _⟩ := ha.n
  refine Ret.enter plain mixed (spec_l2CopyStore_fn _ _) (by kernel_rfl) (n := 1) (by kernel_rfl) rfl ?_
  simp (maxSteps := 1000000) (disch := first | assumption | omega | (simp only [World.size_alloc, size_setRow, dw_size]; done) | (simp only [World.size_alloc, size_setRow, dw_size] <;> omega) | (simp only [List.length_set, Array.length_toList, List.length_cons, List.length_nil, List.length_append, bts_size] <;> omega) | (simp only [List.all_cons, List.all_nil, Value.oneCell', Bool.and_self, Bool.and_true]; done)) [-Option.bind_some, hp_alloc_lt, hp_alloc_eq, hp_set_ne, wrap_small, ups_ap_cons, ups_ap_nil, upd_same, upd_other, env0_ap0, env0_aps, xt_a, xt_b, xt_c]
  refine Ret.mono (spec_l2CopyStore_n1 (g1 := w.heap.size) (g2 := w.heap.size + 1) (g3 := w.heap.size + 2) (w0 := w) (by omega) (by omega) (by omega) (by omega) (by omega) xs.length 0 _ _ _ _ (.slice none 0 0) (by omega) rfl rfl rfl rfl (by first | assumption | rfl | (simp (maxSteps := 1000000) (disch := first | assumption | omega | (simp only [World.size_alloc, size_setRow, dw_size]; done) | (simp only [World.size_alloc, size_setRow, dw_size] <;> omega) | (simp only [List.length_set, Array.length_toList, List.length_cons, List.length_nil, List.length_append, bts_size] <;> omega) | (simp only [List.all_cons, List.all_nil, Value.oneCell', Bool.and_self, Bool.and_true]; done)) [-Option.bind_some, hp_alloc_lt, hp_alloc_eq, hp_set_ne, wrap_small, ups_ap_cons, ups_ap_nil, upd_same, upd_other, env0_ap0, env0_aps, xt_a, xt_b, xt_c]; done)) (by first | assumption | rfl | (simp (maxSteps := 1000000) (disch := first | assumption | omega | (simp only [World.size_alloc, size_setRow, dw_size]; done) | (simp only [World.size_alloc, size_setRow, dw_size] <;> omega) | (simp only [List.length_set, Array.length_toList, List.length_cons, List.length_nil, List.length_append, bts_size] <;> omega) | (simp only [List.all_cons, List.all_nil, Value.oneCell', Bool.and_self, Bool.and_true]; done)) [-Option.bind_some, hp_alloc_lt, hp_alloc_eq, hp_set_ne, wrap_small, ups_ap_cons, ups_ap_nil, upd_same, upd_other, env0_ap0, env0_aps, xt_a, xt_b, xt_c]; done)) (by first | assumption | rfl | (simp (maxSteps := 1000000) (disch := first | assumption | omega | (simp only [World.size_alloc, size_setRow, dw_size]; done) | (simp only [World.size_alloc, size_setRow, dw_size] <;> omega) | (simp only [List.length_set, Array.length_toList, List.length_cons, List.length_nil, List.length_append, bts_size] <;> omega) | (simp only [List.all_cons, List.all_nil, Value.oneCell', Bool.and_self, Bool.and_true]; done)) [-Option.bind_some, hp_alloc_lt, hp_alloc_eq, hp_set_ne, wrap_small, ups_ap_cons, ups_ap_nil, upd_same, upd_other, env0_ap0, env0_aps, xt_a, xt_b, xt_c]; done)) ha (by (repeat (first | exact Ext.rfl | assumption | (refine Ext.al ?_ _) | (refine Ext.dw ?_) | (refine Ext.set ?_ (by first | omega | (simp only [World.size_alloc, size_setRow, dw_size]; omega)) _) | (refine Ext.tr ?_ (by assumption))))) O.nil) ?_
  rintro ⟨_, w1⟩ ⟨a1, c1, rfl, o1, E1⟩
  have zE1 := E1.size
  try simp only [World.size_alloc, size_setRow, dw_size] at zE1
  exact ⟨a1, c1, rfl, o1.wide (by intro b h1 h2; (try dsimp only at h1); (try simp only [In, World.size_alloc, size_setRow, dw_size] at *); omega), E1⟩
end Go.Proofs.YthicfemhpnnaaaaGreat.X
set_option linter.unusedVariables false
set_option linter.unusedSimpArgs false
set_option maxRecDepth 100000
set_option maxHeartbeats 1000000
namespace Go.Proofs.YthicfemhpnnaaaaGreat.X
open Go Go.Ev Go.RowKit
theorem spec_l2Add_n {a : Option Addr} {n c : Nat} {S S1 : Nat → Prop} {xs : List Ver} {cs : List Value} {v : Ver} {w : World} (ho : O tVers S w [.slice a n c] xs) (hv : D tVer S1 w cs v) (h0 : 0 ≤ v.key) (h1 : v.key.toNat < xs.length) :
    Ret (EV P 102 #[.agg #[.slice a n c], .agg cs.toArray] w) fun r => r.1 = .agg #[.slice a xs.length c] ∧ O tVers (fun b => S b ∨ In w.heap.size r.2.heap.size b) r.2 [.slice a xs.length c] (storeAdd xs v) ∧ Mod S w r.2 := by
  obtain ⟨rfl, hm, _⟩ := ho.n
  obtain ⟨av, cv, rfl, hv1, hv2⟩ := D.ver.1 hv
  obtain ⟨u, hu, _⟩ := drop_at h1
  obtain ⟨g, cur, ds, S2, rfl, hSg, hgl, hg, hle, hx1, hS2, put⟩ := ho.row (by decide) hu
  obtain ⟨au, cu, rfl, hu1, hu2⟩ := O.ver.1 hx1
  simp only [LVer_n] at hg hle put
  have hk : v.key < xs.length := by omega
  refine Ret.enter plain mixed (spec_l2Add_fn _ _ _) (by kernel_rfl) (n := 2) (by kernel_rfl) rfl ?_
  simp (maxSteps := 1000000) (disch := first | assumption | omega | (simp only [World.size_alloc, size_setRow, dw_size]; done) | (simp only [World.size_alloc, size_setRow, dw_size] <;> omega) | (simp only [List.length_set, Array.length_toList, List.length_cons, List.length_nil, List.length_append, bts_size] <;> omega) | (simp only [List.all_cons, List.all_nil, Value.oneCell', Bool.and_self, Bool.and_true]; done)) [-Option.bind_some, hp_alloc_lt, hp_alloc_eq, hp_set_ne, wrap_small, ups_ap_cons, ups_ap_nil, upd_same, upd_other, env0_ap0, env0_aps, xt_a, xt_b, xt_c, -splice_eq, -stR_cells, stR_box, stR_boxA, stR_row, stR_row0, stR_row1, stR_rowA, stR_rowA0, splice_rowv, splice_rowv0, splice_rowv1, splice_z, splice_n, splice_s, nth_rowv, nth_rowv0, nth_rowv1, rowv_len, ia_32, hg]
  refine Ret.bind (spec_l1Less_c u.tag v.tag _) ?_
  rintro ⟨_, w1⟩ ⟨rfl, E1⟩
  try dsimp only at E1
  have zE1 := E1.size
  try simp only [World.size_alloc, size_setRow, dw_size] at zE1
  cases hl : tagLess u.tag v.tag
  · rw [storeAdd_f hu hl]
    simp (maxSteps := 1000000) (disch := first | assumption | omega | (simp only [World.size_alloc, size_setRow, dw_size]; done) | (simp only [World.size_alloc, size_setRow, dw_size] <;> omega) | (simp only [List.length_set, Array.length_toList, List.length_cons, List.length_nil, List.length_append, bts_size] <;> omega) | (simp only [List.all_cons, List.all_nil, Value.oneCell', Bool.and_self, Bool.and_true]; done)) [-Option.bind_some, hp_alloc_lt, hp_alloc_eq, hp_set_ne, wrap_small, ups_ap_cons, ups_ap_nil, upd_same, upd_other, env0_ap0, env0_aps, xt_a, xt_b, xt_c, -splice_eq, -stR_cells, stR_box, stR_boxA, stR_row, stR_row0, stR_row1, stR_rowA, stR_rowA0, splice_rowv, splice_rowv0, splice_rowv1, splice_z, splice_n, splice_s, nth_rowv, nth_rowv0, nth_rowv1, rowv_len, spec_l2Add_j1_eq, hg, E1.blk]
    exact ⟨(ho.keep (by intro b hS hb; (try dsimp only at hS); (try simp only [In, World.size_alloc, size_setRow, dw_size] at hS hb); first | rfl | (simp (disch := first | assumption | omega | (simp only [World.size_alloc, size_setRow, dw_size]; omega) | (simp only [World.size_alloc, size_setRow, dw_size, In]; omega)) only [E1.blk, hp_alloc_lt, hp_set_ne, hp_dw]; done))).wide (fun b h _ => .inl h), by (repeat (first | exact Mod.rfl | assumption | (refine Mod.al ?_ _) | (refine Mod.dw' ?_) | (refine Mod.set' ?_ (by first | (left; omega) | (left; simp only [World.size_alloc, size_setRow, dw_size]; omega) | (right; assumption) | (right; simp; done)) _) | (refine Mod.ex ?_ (by assumption))))⟩
  · rw [storeAdd_t hu hl]
    simp (maxSteps := 1000000) (disch := first | assumption | omega | (simp only [World.size_alloc, size_setRow, dw_size]; done) | (simp only [World.size_alloc, size_setRow, dw_size] <;> omega) | (simp only [List.length_set, Array.length_toList, List.length_cons, List.length_nil, List.length_append, bts_size] <;> omega) | (simp only [List.all_cons, List.all_nil, Value.oneCell', Bool.and_self, Bool.and_true]; done)) [-Option.bind_some, hp_alloc_lt, hp_alloc_eq, hp_set_ne, wrap_small, ups_ap_cons, ups_ap_nil, upd_same, upd_other, env0_ap0, env0_aps, xt_a, xt_b, xt_c, -splice_eq, -stR_cells, stR_box, stR_boxA, stR_row, stR_row0, stR_row1, stR_rowA, stR_rowA0, splice_rowv, splice_rowv0, splice_rowv1, splice_z, splice_n, splice_s, nth_rowv, nth_rowv0, nth_rowv1, rowv_len, ia_32, hg, E1.blk]
    refine Ret.bind (spec_l2Copy_n (hv.ext (by (repeat (first | exact Ext.rfl | assumption | (refine Ext.al ?_ _) | (refine Ext.dw ?_) | (refine Ext.set ?_ (by first | omega | (simp only [World.size_alloc, size_setRow, dw_size]; omega)) _) | (refine Ext.tr ?_ (by assumption))))))) ?_
    rintro ⟨_, w2⟩ ⟨es, rfl, o2, E2⟩
    try dsimp only at es o2 E2
    have zE2 := E2.size
    try simp only [World.size_alloc, size_setRow, dw_size] at zE2
    have zds := O.ver.1 o2
    obtain ⟨ae, ce, rfl, _, _⟩ := zds
    simp (maxSteps := 1000000) (disch := first | assumption | omega | (simp only [World.size_alloc, size_setRow, dw_size]; done) | (simp only [World.size_alloc, size_setRow, dw_size] <;> omega) | (simp only [List.length_set, Array.length_toList, List.length_cons, List.length_nil, List.length_append, bts_size] <;> omega) | (simp only [List.all_cons, List.all_nil, Value.oneCell', Bool.and_self, Bool.and_true]; done)) [-Option.bind_some, hp_alloc_lt, hp_alloc_eq, hp_set_ne, wrap_small, ups_ap_cons, ups_ap_nil, upd_same, upd_other, env0_ap0, env0_aps, xt_a, xt_b, xt_c, -splice_eq, -stR_cells, stR_box, stR_boxA, stR_row, stR_row0, stR_row1, stR_rowA, stR_rowA0, splice_rowv, splice_rowv0, splice_rowv1, splice_z, splice_n, splice_s, nth_rowv, nth_rowv0, nth_rowv1, rowv_len, ia_32, spec_l2Add_j1_eq, hg, E1.blk, E2.blk]
    refine ⟨(put _ _ v _ (o2.keep (by intro b hS hb; (try dsimp only at hS); (try simp only [In, World.size_alloc, size_setRow, dw_size] at hS hb); first | rfl | (simp (disch := first | assumption | omega | (simp only [World.size_alloc, size_setRow, dw_size]; omega) | (simp only [World.size_alloc, size_setRow, dw_size, In]; omega)) only [E1.blk, E2.blk, hp_alloc_lt, hp_set_ne, hp_dw]; done))) (by first | assumption | rfl | (simp (maxSteps := 1000000) (disch := first | assumption | omega | (simp only [World.size_alloc, size_setRow, dw_size]; done) | (simp only [World.size_alloc, size_setRow, dw_size] <;> omega) | (simp only [List.length_set, Array.length_toList, List.length_cons, List.length_nil, List.length_append, bts_size] <;> omega) | (simp only [List.all_cons, List.all_nil, Value.oneCell', Bool.and_self, Bool.and_true]; done)) [-Option.bind_some, hp_alloc_lt, hp_alloc_eq, hp_set_ne, wrap_small, ups_ap_cons, ups_ap_nil, upd_same, upd_other, env0_ap0, env0_aps, xt_a, xt_b, xt_c, -splice_eq, -stR_cells, stR_box, stR_boxA, stR_row, stR_row0, stR_row1, stR_rowA, stR_rowA0, splice_rowv, splice_rowv0, splice_rowv1, splice_z, splice_n, splice_s, nth_rowv, nth_rowv0, nth_rowv1, rowv_len, hg, E1.blk, E2.blk]; done)) (by intro b _ _ _ _; first | rfl | (simp (disch := first | assumption | omega | (simp only [World.size_alloc, size_setRow, dw_size]; omega) | (simp only [World.size_alloc, size_setRow, dw_size, In]; omega)) only [E1.blk, E2.blk, hp_alloc_lt, hp_set_ne, hp_dw]; done)) ?_).wide ?_, by (repeat (first | exact Mod.rfl | assumption | (refine Mod.al ?_ _) | (refine Mod.dw' ?_) | (refine Mod.set' ?_ (by first | (left; omega) | (left; simp only [World.size_alloc, size_setRow, dw_size]; omega) | (right; assumption) | (right; simp; done)) _) | (refine Mod.ex ?_ (by assumption))))⟩
    · intro b h1 h2
      simp only [In, World.size_alloc, size_setRow, dw_size] at *
      right
      omega
    · intro b h1 h2
      simp only [In, World.size_alloc, size_setRow, dw_size] at *
      exact h1.imp id (by omega)
end Go.Proofs.YthicfemhpnnaaaaGreat.X
set_option linter.unusedVariables false
set_option linter.unusedSimpArgs false
set_option maxRecDepth 100000
set_option maxHeartbeats 1000000
namespace Go.Proofs.YthicfemhpnnaaaaGreat.X
open Go Go.Ev Go.RowKit
theorem impl_Store_later_n {a : Option Addr} {n c : Nat} {S S1 : Nat → Prop} {xs : List Ver} {cs : List Value} {v u : Ver} {w : World} (ho : D tVers S w [.slice a n c] xs) (hv : D tVer S1 w cs v) (h0 : 0 ≤ v.key) (hu : xs[v.key.toNat]? = some u) :
    Ret (EV P 46 #[.agg #[.slice a n c], .agg cs.toArray] w) fun r => r.1 = .bool (tagLess u.tag v.tag) ∧ Ext w r.2 := by
  obtain ⟨rfl, hm, _⟩ := ho.n
  obtain ⟨av, cv, rfl, hv1, hv2⟩ := D.ver.1 hv
  have h1 : v.key.toNat < xs.length := (List.getElem?_eq_some_iff.1 hu).1
  obtain ⟨b1, o1, cs1, rfl, A1, D1, _, l1⟩ := ho.at (by decide) hu
  obtain ⟨a2, c2, rfl, hp2, ht⟩ := D.ver.1 D1
  have p0 := A1 0 _ rfl
  have p1 := A1 1 _ rfl
  have p2 := A1 2 _ rfl
  have p3 := A1 3 _ rfl
  have p4 := A1 4 _ rfl
  have p5 := A1 5 _ rfl
  simp only [LVer_n, LTag_n, LNode_n, Nat.add_zero] at p0 p1 p2 p3 p4 p5
  have hk : v.key < xs.length := by omega
  refine Ret.enter plain mixed (impl_Store_later_fn _ _ _) (by kernel_rfl) (n := 2) (by kernel_rfl) rfl ?_
  simp (maxSteps := 1000000) (disch := first | assumption | omega | (simp only [World.size_alloc, size_setRow, dw_size]; done) | (simp only [World.size_alloc, size_setRow, dw_size] <;> omega) | (simp only [List.length_set, Array.length_toList, List.length_cons, List.length_nil, List.length_append, bts_size] <;> omega) | (simp only [List.all_cons, List.all_nil, Value.oneCell', Bool.and_self, Bool.and_true]; done)) [-Option.bind_some, hp_alloc_lt, hp_alloc_eq, hp_set_ne, wrap_small, ups_ap_cons, ups_ap_nil, upd_same, upd_other, env0_ap0, env0_aps, xt_a, xt_b, xt_c, ia_32, p0, p1, p2, p3, p4, p5]
  refine Ret.bind (impl_TagLess_c u.tag v.tag _) ?_
  rintro ⟨_, w1⟩ ⟨rfl, E1⟩
  try dsimp only at E1
  have zE1 := E1.size
  try simp only [World.size_alloc, size_setRow, dw_size] at zE1
  simp (maxSteps := 1000000) (disch := first | assumption | omega | (simp only [World.size_alloc, size_setRow, dw_size]; done) | (simp only [World.size_alloc, size_setRow, dw_size] <;> omega) | (simp only [List.length_set, Array.length_toList, List.length_cons, List.length_nil, List.length_append, bts_size] <;> omega) | (simp only [List.all_cons, List.all_nil, Value.oneCell', Bool.and_self, Bool.and_true]; done)) [-Option.bind_some, hp_alloc_lt, hp_alloc_eq, hp_set_ne, wrap_small, ups_ap_cons, ups_ap_nil, upd_same, upd_other, env0_ap0, env0_aps, xt_a, xt_b, xt_c, p0, p1, p2, p3, p4, p5, E1.blk]
  (repeat (first | exact Ext.rfl | assumption | (refine Ext.al ?_ _) | (refine Ext.dw ?_) | (refine Ext.set ?_ (by first | omega | (simp only [World.size_alloc, size_setRow, dw_size]; omega)) _) | (refine Ext.tr ?_ (by assumption))))
theorem verOk_key {v : Ver} (h : verOk v = true) : 0 ≤ v.key ∧ v.key ≤ 3 := by
  simp only [verOk, verWr, keyOk, Bool.and_eq_true, decide_eq_true_eq] at h
  omega
end Go.Proofs.YthicfemhpnnaaaaGreat.X
set_option linter.unusedVariables false
set_option linter.unusedSimpArgs false
set_option maxRecDepth 100000
set_option maxHeartbeats 1000000
namespace Go.Proofs.YthicfemhpnnaaaaGreat.X
open Go Go.Ev Go.RowKit
theorem storeOk_slot {xs : List Ver} (h : storeOk xs = true) {k : Nat} {x : Ver} (hx : xs[k]? = some x) : (x.tag = Tag.zero) ∨ (verOk x = true ∧ x.key = k ∧ 0 < x.tag.t) := by
  simp only [storeOk, Bool.and_eq_true] at h
  have := slots_get xs 0 k x h.1 hx
  simp only [slotOk, Bool.or_eq_true, Bool.and_eq_true, beq_iff_eq, Nat.zero_add] at this
  rcases this with h | ⟨h1, h2⟩
  · left
    simp only [verNone, Bool.and_eq_true, beq_iff_eq] at h
    exact h.2.1
  · exact .inr ⟨h1, h2, verOk_pos h1⟩
end Go.Proofs.YthicfemhpnnaaaaGreat.X
set_option linter.unusedVariables false
set_option linter.unusedSimpArgs false
set_option maxRecDepth 100000
set_option maxHeartbeats 1000000
namespace Go.Proofs.YthicfemhpnnaaaaGreat.X
open Go Go.Ev Go.RowKit
theorem wtTag (l : List Tag) : MTag.wtL l = l.length := by
  induction l with
  | nil => rfl
  | cons a l ih => simp only [Mk.wtL, List.length_cons, ih]; show 1 + 0 + l.length = l.length + 1; omega
theorem wtVer (l : List Ver) : MVer.wtL l = l.length + pastSum l := by
  induction l with
  | nil => rfl
  | cons a l ih => simp only [Mk.wtL, List.length_cons, pastSum, ih]; show 1 + MTag.wtL a.past + (l.length + pastSum l) = _; rw [wtTag]; omega
noncomputable def MStore : Mk (List Ver) := MVer.list
theorem laws_szVerS_m {n : Int} (h0 : -1 ≤ n) (h1 : n ≤ 1048576) {S : Nat → Prop} {a : Option Addr} {k c : Nat} {x : List Ver} {w : World} (ha : D tVers S w [.slice a k c] x) :
    Ret (EV P 128 #[.slice a k c, i64 n] w) fun r => ∃ m, r.1 = i64 m ∧ -1 ≤ m ∧ m ≤ 1048576 ∧ (0 ≤ m → m + MStore.wt x ≤ n) ∧ Ext w r.2 := by
  refine Ret.mono (laws_szVerS_c n h0 h1 ha.rVers) ?_
  rintro r ⟨m, h2, h3, h4, h5, h6⟩
  exact ⟨m, h2, h3, h4, fun h => by have := h5 h; show m + (MVer.wtL x : Nat) ≤ n; rw [wtVer]; exact this, h6⟩
theorem laws_szStore_m {n : Int} (h0 : -1 ≤ n) (h1 : n ≤ 1048576) {S : Nat → Prop} {cs : List Value} {x : List Ver} {w : World} (ha : D tVers S w cs x) :
    Ret (EV P 127 #[.agg cs.toArray, i64 n] w) fun r => ∃ m, r.1 = i64 m ∧ -1 ≤ m ∧ m ≤ 1048576 ∧ (0 ≤ m → m + MStore.wt x ≤ n) ∧ Ext w r.2 := by
  obtain ⟨a, c, rfl, ha⟩ := ha.sl'
  refine Ret.mono (laws_szStore_c n h0 h1 ha.rVers) ?_
  rintro r ⟨m, h2, h3, h4, h5, h6⟩
  exact ⟨m, h2, h3, h4, fun h => by have := h5 h; show m + (MVer.wtL x : Nat) ≤ n; rw [wtVer]; exact this, h6⟩
theorem laws_toVerS_m {S : Nat → Prop} {a : Option Addr} {n c : Nat} {x : List Ver} {w : World} (ha : D tVers S w [.slice a n c] x) :
    Ret (EV P 130 #[.slice a n c] w) fun r => ∃ a' c', r.1 = .slice a' x.length c' ∧ O tVers (In w.heap.size r.2.heap.size) r.2 [.slice a' x.length c'] x ∧ Ext w r.2 := by
  refine Ret.mono (laws_toVerS_c ha.rVers) ?_
  rintro ⟨_, w1⟩ ⟨h1, h2⟩
  obtain ⟨a', c', e, h3⟩ := vers_os h1
  exact ⟨a', c', e, h3, h2⟩
theorem laws_toStore_m {S : Nat → Prop} {cs : List Value} {x : List Ver} {w : World} (ha : D tVers S w cs x) :
    Ret (EV P 129 #[.agg cs.toArray] w) fun r => ∃ ds, r.1 = .agg ds.toArray ∧ O tVers (In w.heap.size r.2.heap.size) r.2 ds x ∧ Ext w r.2 := by
  obtain ⟨a, c, rfl, ha⟩ := ha.sl'
  refine Ret.mono (laws_toStore_c ha.rVers) ?_
  rintro ⟨_, w1⟩ ⟨s, rfl, h1, h2⟩
  exact ⟨[s], rfl, vers_o h1, h2⟩
theorem laws_eqVerS_m {S S' : Nat → Prop} {a b : Option Addr} {n m c d : Nat} {x : List Ver} {w : World} (ha : D tVers S w [.slice a n c] x) (hb : D tVers S' w [.slice b m d] x) : Ret (EV P 132 #[.slice a n c, .slice b m d] w) fun r => r.1 = .bool true ∧ Ext w r.2 :=
  laws_eqVerS_c ha.rVers hb.rVers
theorem laws_eqStore_m {S S' : Nat → Prop} {cs ds : List Value} {x : List Ver} {w : World} (ha : D tVers S w cs x) (hb : D tVers S' w ds x) : Ret (EV P 131 #[.agg cs.toArray, .agg ds.toArray] w) fun r => r.1 = .bool true ∧ Ext w r.2 := by
  obtain ⟨a, c, rfl, ha⟩ := ha.sl'
  obtain ⟨b, d, rfl, hb⟩ := hb.sl'
  exact laws_eqStore_c ha.rVers hb.rVers
end Go.Proofs.YthicfemhpnnaaaaGreat.X
set_option linter.unusedVariables false
set_option linter.unusedSimpArgs false
set_option maxRecDepth 100000
set_option maxHeartbeats 1000000
namespace Go.Proofs.YthicfemhpnnaaaaGreat.X
open Go Go.Ev Go.RowKit
theorem MStore_le (k : Int) (x : List Ver) : k ≤ MStore.nx k x ∧ MStore.nx k x ≤ k + 10 * MStore.wt x := ⟨Mk.nxL_le _ _, Mk.nxL_small MVer_small _ _⟩
end Go.Proofs.YthicfemhpnnaaaaGreat.X
