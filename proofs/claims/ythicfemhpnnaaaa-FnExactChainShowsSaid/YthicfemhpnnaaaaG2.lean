/- A part of the proof: an evaluator of the model, its laws, and contracts of functions; no condition. -/
import Derived.Test.YthicfemhpnnaaaaG1
set_option linter.unusedVariables false
set_option linter.unusedSimpArgs false
set_option maxRecDepth 100000
set_option maxHeartbeats 1000000
namespace Go.Proofs.Ythicfemhpnnaaaa.X
open Go Go.Ev Go.RowKit
noncomputable def MVer : Mk Ver := ⟨fun k v => ⟨k, ⟨k + 1, k + 1 + 1⟩, MTag.mkL (k + 1 + 1 + 1) v.past, mText (MTag.nxL (k + 1 + 1 + 1) v.past), (MTag.nxL (k + 1 + 1 + 1) v.past + 1).tmod 3 == 0⟩,
  fun k v => MTag.nxL (k + 1 + 1 + 1) v.past + 1 + 1, fun v => MTag.wtL v.past, fun k v => by have := Mk.nxL_le (M := MTag) v.past (k + 1 + 1 + 1); omega⟩
theorem MVer_small : MVer.Small := fun k v => by
  have := Mk.nxL_small MTag_small v.past (k + 1 + 1 + 1)
  show MTag.nxL (k + 1 + 1 + 1) v.past + 1 + 1 ≤ k + 10 * (1 + (MTag.wtL v.past : Int))
  omega
theorem MVer_mk (k : Int) (v : Ver) : MVer.mk k v = ⟨k, ⟨k + 1, k + 1 + 1⟩, MTag.mkL (k + 1 + 1 + 1) v.past, mText (MTag.nxL (k + 1 + 1 + 1) v.past), (MTag.nxL (k + 1 + 1 + 1) v.past + 1).tmod 3 == 0⟩ := rfl
theorem laws_markVerS_n {a : Option Addr} {c : Nat} {S : Nat → Prop} {xs : List Ver} {k0 : Int} (h0 : 0 ≤ k0) (hk : k0 + 10 * MVer.wtL xs ≤ 100000000000000) :
    ∀ (d j : Nat) (e : Env) (w : World), j + d = xs.length → e 0 = .slice a xs.length c → e 1 = i64 (MVer.at k0 xs j) → e 5 = i64 j → O tVers S w [.slice a xs.length c] (MVer.part k0 xs j) →
    Ret (laws_markVerS_l1 e w) fun r => r.1 = i64 (MVer.nxL k0 xs) ∧ O tVers S r.2 [.slice a xs.length c] (MVer.mkL k0 xs) ∧ Mod S w r.2 := by
  intro d
  induction d with
  | zero =>
    intro j e w hd e0 e1 e5 ho
    rw [laws_markVerS_l1_eq]
    obtain rfl : j = xs.length := by omega
    rw [Mk.part_end (Nat.le_refl _)] at ho
    rw [Mk.at_end (Nat.le_refl _)] at e1
    simp (disch := first | assumption | omega | (simp only [World.size_alloc, size_setRow, dw_size]; done) | (simp only [World.size_alloc, size_setRow, dw_size] <;> omega) | (simp only [List.length_set, Array.length_toList, List.length_cons, List.length_nil, List.length_append, bts_size] <;> omega) | (simp only [List.all_cons, List.all_nil, Value.oneCell', Bool.and_self, Bool.and_true]; done)) [-Option.bind_some, hp_alloc_lt, hp_alloc_eq, hp_set_ne, wrap_small, ups_ap_cons, ups_ap_nil, upd_same, upd_other, env0_ap0, env0_aps, xt_a, xt_b, xt_c, e0, e1, e5, e0, e1, e5]
    exact ⟨ho, Mod.rfl⟩
  | succ d ih =>
    intro j e w hd e0 e1 e5 ho
    rw [laws_markVerS_l1_eq]
    have hlt : j < xs.length := by omega
    obtain ⟨x, hx, _⟩ := drop_at hlt
    have hq := Mk.at_small MVer_small xs k0 j
    have hq1 := Mk.at_small MVer_small xs k0 (j + 1)
    have hr : MVer.at k0 xs j + 10 * (1 + (MTag.wtL x.past : Nat)) ≤ k0 + 10 * MVer.wtL xs := Mk.at_room MVer_small hx k0
    have hs : MVer.at k0 xs (j + 1) = MTag.nxL (MVer.at k0 xs j + 1 + 1 + 1) x.past + 1 + 1 := Mk.at_succ hx
    have hp := Mk.part_set (M := MVer) (k := k0) hx
    have hn := ho.n
    obtain ⟨g, cur, cs, S1, rfl, hSg, hgl, hg, hle, hx1, hS1, put⟩ := ho.row (by decide) (Mk.part_get hx)
    obtain ⟨a2, c2, rfl, hp2, ht⟩ := O.ver.1 hx1
    simp only [LVer_n] at hg hle put
    have hng : ¬ S1 g := fun h => (hS1 g h).2.1 rfl
    generalize MVer.at k0 xs j = q at *
    have hm := Mk.nxL_le (M := MTag) x.past (q + 1 + 1 + 1)
    have hmk := MVer_mk q x
    simp (disch := first | assumption | omega | (simp only [World.size_alloc, size_setRow, dw_size]; done) | (simp only [World.size_alloc, size_setRow, dw_size] <;> omega) | (simp only [List.length_set, Array.length_toList, List.length_cons, List.length_nil, List.length_append, bts_size] <;> omega) | (simp only [List.all_cons, List.all_nil, Value.oneCell', Bool.and_self, Bool.and_true]; done)) [-Option.bind_some, hp_alloc_lt, hp_alloc_eq, hp_set_ne, wrap_small, ups_ap_cons, ups_ap_nil, upd_same, upd_other, env0_ap0, env0_aps, xt_a, xt_b, xt_c, -splice_eq, -stR_cells, stR_box, stR_boxA, stR_row, stR_row0, stR_row1, stR_rowA, stR_rowA0, splice_rowv, splice_rowv0, splice_rowv1, splice_z, splice_n, splice_s, nth_rowv, nth_rowv0, nth_rowv1, rowv_len, e0, e1, e5, hlt, ia_55, hg, e0, e1, e5, hlt, hg]
    refine Ret.bind (laws_markTagS_m (by omega) (by omega) (hp2.keep (by intro b hS hb; (try dsimp only at hS); (try simp only [In, World.size_alloc, size_setRow, dw_size] at hS hb); have := hS1 b hS; first | rfl | (simp (disch := first | assumption | omega | (simp only [World.size_alloc, size_setRow, dw_size]; omega) | (simp only [World.size_alloc, size_setRow, dw_size, In]; omega)) only [hp_alloc_lt, hp_set_ne, hp_dw]; done)))) ?_
    rintro ⟨_, w1⟩ ⟨rfl, o1, M1⟩
    try dsimp only at o1 M1
    have zM1 := M1.size
    try simp only [World.size_alloc, size_setRow, dw_size] at zM1
    generalize MTag.nxL (q + 1 + 1 + 1) x.past = m at *
    simp (disch := first | assumption | omega | (simp only [World.size_alloc, size_setRow, dw_size]; done) | (simp only [World.size_alloc, size_setRow, dw_size] <;> omega) | (simp only [List.length_set, Array.length_toList, List.length_cons, List.length_nil, List.length_append, bts_size] <;> omega) | (simp only [List.all_cons, List.all_nil, Value.oneCell', Bool.and_self, Bool.and_true]; done)) [-Option.bind_some, hp_alloc_lt, hp_alloc_eq, hp_set_ne, wrap_small, ups_ap_cons, ups_ap_nil, upd_same, upd_other, env0_ap0, env0_aps, xt_a, xt_b, xt_c, -splice_eq, -stR_cells, stR_box, stR_boxA, stR_row, stR_row0, stR_row1, stR_rowA, stR_rowA0, splice_rowv, splice_rowv0, splice_rowv1, splice_z, splice_n, splice_s, nth_rowv, nth_rowv0, nth_rowv1, rowv_len, hg, e0, e1, e5, hlt, hg, M1.blk]
    refine Ret.bind ((mText_c (k := m) (by omega) (by omega)).2 _) ?_
    rintro ⟨_, w2⟩ ⟨rfl, E2⟩
    try dsimp only at E2
    have zE2 := E2.size
    try simp only [World.size_alloc, size_setRow, dw_size] at zE2
    have ht2 := (mText_c (k := m) (by omega) (by omega)).1
    simp (disch := first | assumption | omega | (simp only [World.size_alloc, size_setRow, dw_size]; done) | (simp only [World.size_alloc, size_setRow, dw_size] <;> omega) | (simp only [List.length_set, Array.length_toList, List.length_cons, List.length_nil, List.length_append, bts_size] <;> omega) | (simp only [List.all_cons, List.all_nil, Value.oneCell', Bool.and_self, Bool.and_true]; done)) [-Option.bind_some, hp_alloc_lt, hp_alloc_eq, hp_set_ne, wrap_small, ups_ap_cons, ups_ap_nil, upd_same, upd_other, env0_ap0, env0_aps, xt_a, xt_b, xt_c, -splice_eq, -stR_cells, stR_box, stR_boxA, stR_row, stR_row0, stR_row1, stR_rowA, stR_rowA0, splice_rowv, splice_rowv0, splice_rowv1, splice_z, splice_n, splice_s, nth_rowv, nth_rowv0, nth_rowv1, rowv_len, e0, e5, hlt, ia_55, hg, bo_rem, e0, e1, e5, hlt, hg, M1.blk, E2.blk]
    refine Ret.mono (ih (j + 1) _ _ (by omega) (by first | omega | assumption | rfl | exact congrArg i64 (by omega) | (simp; done) | (simp; omega)) (by exact congrArg i64 hs.symm) (by first | omega | assumption | rfl | exact congrArg i64 (by omega) | (simp; done) | (simp; omega)) ?_) ?_
    · rw [← hp]
      refine (put _ _ (MVer.mk q x) S1 (O.ver.2 ⟨a2, c2, rfl, ?_, ?_⟩) (by first | assumption | rfl | (simp (disch := first | assumption | omega | (simp only [World.size_alloc, size_setRow, dw_size]; done) | (simp only [World.size_alloc, size_setRow, dw_size] <;> omega) | (simp only [List.length_set, Array.length_toList, List.length_cons, List.length_nil, List.length_append, bts_size] <;> omega) | (simp only [List.all_cons, List.all_nil, Value.oneCell', Bool.and_self, Bool.and_true]; done)) [-Option.bind_some, hp_alloc_lt, hp_alloc_eq, hp_set_ne, wrap_small, ups_ap_cons, ups_ap_nil, upd_same, upd_other, env0_ap0, env0_aps, xt_a, xt_b, xt_c, -splice_eq, -stR_cells, stR_box, stR_boxA, stR_row, stR_row0, stR_row1, stR_rowA, stR_rowA0, splice_rowv, splice_rowv0, splice_rowv1, splice_z, splice_n, splice_s, nth_rowv, nth_rowv0, nth_rowv1, rowv_len, hg, hmk, Mk.mkL_length, e0, e1, e5, hlt, hg, M1.blk, E2.blk]; done)) (by intro b _ _ _ _; first | rfl | (simp (disch := first | assumption | omega | (simp only [World.size_alloc, size_setRow, dw_size]; omega) | (simp only [World.size_alloc, size_setRow, dw_size, In]; omega)) only [M1.blk, E2.blk, hp_alloc_lt, hp_set_ne, hp_dw]; done)) (fun _ _ h => .inl h)).wide fun b h _ => h.elim id fun h => (hS1 b h).1
      · rw [hmk]
        simp only [Mk.mkL_length]
        exact o1.keep (by intro b hS hb; (try dsimp only at hS); (try simp only [In, World.size_alloc, size_setRow, dw_size] at hS hb); have := hS1 b hS; first | rfl | (simp (disch := first | assumption | omega | (simp only [World.size_alloc, size_setRow, dw_size]; omega) | (simp only [World.size_alloc, size_setRow, dw_size, In]; omega)) only [M1.blk, E2.blk, hp_alloc_lt, hp_set_ne, hp_dw]; done))
      · rw [hmk]
        dsimp only
        omega
    · rintro r ⟨h1, h2, h3⟩
      exact ⟨h1, h2, Mod.tr (Mod.set' (Mod.set' (Mod.ex (Mod.after' (Mod.set' (Mod.set' (Mod.set' Mod.rfl (.inr hSg) _) (.inr hSg) _) (.inr hSg) _) M1 fun x _ hx => (hS1 x hx).1) E2) (.inr hSg) _) (.inr hSg) _) h3⟩
theorem laws_markVerS_m {a : Option Addr} {n c : Nat} {S : Nat → Prop} {xs : List Ver} {k : Int} (h0 : 0 ≤ k) (hk : k + 10 * MVer.wtL xs ≤ 100000000000000) {w : World} (ho : O tVers S w [.slice a n c] xs) :
    Ret (EV P 96 #[.slice a n c, i64 k] w) fun r => r.1 = i64 (MVer.nxL k xs) ∧ O tVers S r.2 [.slice a n c] (MVer.mkL k xs) ∧ Mod S w r.2 := by
  obtain ⟨rfl, _⟩ := ho.n
  refine Ret.enter plain mixed (laws_markVerS_fn _ _ _) (by kernel_rfl) (n := 2) (by kernel_rfl) rfl ?_
  simp (disch := first | assumption | omega | (simp only [World.size_alloc, size_setRow, dw_size]; done) | (simp only [World.size_alloc, size_setRow, dw_size] <;> omega) | (simp only [List.length_set, Array.length_toList, List.length_cons, List.length_nil, List.length_append, bts_size] <;> omega) | (simp only [List.all_cons, List.all_nil, Value.oneCell', Bool.and_self, Bool.and_true]; done)) [-Option.bind_some, hp_alloc_lt, hp_alloc_eq, hp_set_ne, wrap_small, ups_ap_cons, ups_ap_nil, upd_same, upd_other, env0_ap0, env0_aps, xt_a, xt_b, xt_c]
  exact laws_markVerS_n h0 hk xs.length 0 _ w (by omega) rfl (by rw [Mk.at_zero]; rfl) rfl (by rw [Mk.part_zero]; exact ho)
end Go.Proofs.Ythicfemhpnnaaaa.X
