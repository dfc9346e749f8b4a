/- A part of the proof: an evaluator of the model, its laws, and contracts of functions; no condition. -/
import Derived.Test.YtligcpabhddggaaEvJ
import Derived.Test.YtligcpabhddggaaC13
set_option linter.unusedVariables false
set_option linter.unusedSimpArgs false
set_option maxRecDepth 100000
set_option maxHeartbeats 1000000
namespace Go.Proofs.Ytligcpabhddggaa.X
open Go Go.Ev Go.RowKit
abbrev tTags : Lay (List Tag) := LTags 54
abbrev tVer : Lay Ver := LVer 54
abbrev tVers : Lay (List Ver) := LVers 54 62
def MTag : Mk Tag := ⟨fun k _ => ⟨k, k + 1⟩, fun k _ => k + 1 + 1, fun _ => 0, fun k _ => by omega⟩
theorem MTag_mk (k : Int) (v : Tag) : MTag.mk k v = ⟨k, k + 1⟩ := rfl
theorem MTag_small : MTag.Small := fun k a => by show k + 1 + 1 ≤ _; omega
theorem laws_markTagS_n {a : Option Addr} {c : Nat} {S : Nat → Prop} {xs : List Tag} {k0 : Int} (h0 : 0 ≤ k0) (hk : k0 + 10 * MTag.wtL xs ≤ 100000000000000) :
    ∀ (d j : Nat) (e : Env) (w : World), j + d = xs.length → e 0 = .slice a xs.length c → e 1 = i64 (MTag.at k0 xs j) → e 5 = i64 j → O tTags S w [.slice a xs.length c] (MTag.part k0 xs j) →
    Ret (laws_markTagS_l1 e w) fun r => r.1 = i64 (MTag.nxL k0 xs) ∧ O tTags S r.2 [.slice a xs.length c] (MTag.mkL k0 xs) ∧ Mod S w r.2 := by
  intro d
  induction d with
  | zero =>
    intro j e w hd e0 e1 e5 ho
    rw [laws_markTagS_l1_eq]
    obtain rfl : j = xs.length := by omega
    rw [Mk.part_end (Nat.le_refl _)] at ho
    rw [Mk.at_end (Nat.le_refl _)] at e1
    simp (maxSteps := 1000000) (disch := first | assumption | ((try simp only [qz]) <;> omega) | fail) [-Option.bind_some, qs, e0, e1, e5, e0, e1, e5]
    exact ⟨ho, Mod.rfl⟩
  | succ d ih =>
    intro j e w hd e0 e1 e5 ho
    rw [laws_markTagS_l1_eq]
    have hlt : j < xs.length := by omega
    obtain ⟨x, hx, _⟩ := drop_at hlt
    have hq := Mk.at_small MTag_small xs k0 j
    have hs : MTag.at k0 xs (j + 1) = MTag.at k0 xs j + 1 + 1 := Mk.at_succ hx
    have hp := Mk.part_set (M := MTag) (k := k0) hx
    have hn := ho.n
    obtain ⟨g, cur, cs, S1, rfl, hSg, hgl, hg, hle, hx1, hS1, put⟩ := ho.row (by decide) (Mk.part_get hx)
    obtain rfl := O.tag.1 hx1
    simp only [LTag_n] at hg hle put
    generalize MTag.at k0 xs j = q at *
    simp (maxSteps := 1000000) (disch := first | assumption | ((try simp only [qz]) <;> omega) | fail) [-Option.bind_some, qs, -splice_eq, -stR_cells, qm, e0, e1, e5, hlt, ia_49, hg, e0, e1, e5, hlt, hg]
    refine Ret.mono (ih (j + 1) _ _ (by omega) (by first | omega | assumption | rfl | exact congrArg i64 (by omega) | (simp; done) | (simp; omega)) (by exact congrArg i64 hs.symm) (by first | omega | assumption | rfl | exact congrArg i64 (by omega) | (simp; done) | (simp; omega)) ?_) ?_
    · rw [← hp]
      exact (put _ _ ⟨q, q + 1⟩ (fun _ => False) (O.tag.2 rfl) (by first | assumption | rfl | (simp (maxSteps := 1000000) (disch := first | assumption | ((try simp only [qz]) <;> omega) | fail) [-Option.bind_some, qs, -splice_eq, -stR_cells, qm, hg, e0, e1, e5, hlt, hg]; done)) (by intro b _ _ _ _; first | rfl | (simp (disch := first | assumption | ((try simp only [qz, In]) <;> omega) | fail) only [qk]; done)) (fun _ _ h => h.elim)).wide fun b h _ => h.elim id fun h => h.elim
    · rintro r ⟨h1, h2, h3⟩
      exact ⟨h1, h2, Mod.tr (Mod.set' (Mod.set' Mod.rfl (.inr hSg) _) (.inr hSg) _) h3⟩
theorem laws_markTagS_m {a : Option Addr} {n c : Nat} {S : Nat → Prop} {xs : List Tag} {k : Int} (h0 : 0 ≤ k) (hk : k + 10 * MTag.wtL xs ≤ 100000000000000) {w : World} (ho : O tTags S w [.slice a n c] xs) :
    Ret (EV P 38 #[.slice a n c, i64 k] w) fun r => r.1 = i64 (MTag.nxL k xs) ∧ O tTags S r.2 [.slice a n c] (MTag.mkL k xs) ∧ Mod S w r.2 := by
  obtain ⟨rfl, _⟩ := ho.n
  refine Ret.enter plain mixed (laws_markTagS_fn _ _ _) (by kernel_rfl) (n := 2) (by kernel_rfl) rfl ?_
  simp (maxSteps := 1000000) (disch := first | assumption | ((try simp only [qz]) <;> omega) | fail) [-Option.bind_some, qs]
  exact laws_markTagS_n h0 hk xs.length 0 _ w (by omega) rfl (by rw [Mk.at_zero]; rfl) rfl (by rw [Mk.part_zero]; exact ho)
theorem laws_heldTagS_n {a : Option Addr} {c : Nat} {S : Nat → Prop} {xs : List Tag} {k0 : Int} (h0 : 0 ≤ k0) (hk : k0 + 10 * MTag.wtL xs ≤ 100000000000000) :
    ∀ (d j : Nat) (e : Env) (w : World), j + d = xs.length → e 0 = .slice a xs.length c → e 1 = i64 (MTag.at k0 xs j) → e 5 = i64 j → D tTags S w [.slice a xs.length c] (MTag.mkL k0 xs) →
    Ret (laws_heldTagS_l1 e w) fun r => r.1 = i64 (MTag.nxL k0 xs) ∧ Ext w r.2 := by
  intro d
  induction d with
  | zero =>
    intro j e w hd e0 e1 e5 ho
    rw [laws_heldTagS_l1_eq]
    obtain rfl : j = xs.length := by omega
    rw [Mk.at_end (Nat.le_refl _)] at e1
    simp (maxSteps := 1000000) (disch := first | assumption | ((try simp only [qz]) <;> omega) | fail) [-Option.bind_some, qs, e0, e1, e5, e0, e1, e5]
    (repeat (first | exact Ext.rfl | assumption | (refine Ext.al ?_ _) | (refine Ext.dw ?_) | (refine Ext.set ?_ (by (try simp only [qz]); omega) _) | (refine Ext.tr ?_ (by assumption))))
  | succ d ih =>
    intro j e w hd e0 e1 e5 ho
    rw [laws_heldTagS_l1_eq]
    have hlt : j < xs.length := by omega
    obtain ⟨x, hx, _⟩ := drop_at hlt
    have hq := Mk.at_small MTag_small xs k0 j
    have hs : MTag.at k0 xs (j + 1) = MTag.at k0 xs j + 1 + 1 := Mk.at_succ hx
    have hn := ho.n
    have hx2 := Mk.mkL_get (M := MTag) xs k0 j hx
    generalize MTag.at k0 xs j = q at *
    rw [MTag_mk] at hx2
    obtain ⟨b1, o1, cs1, rfl, A1, D1, _, l1⟩ := ho.at (by decide) hx2
    obtain rfl := D.tag.1 D1
    have p0 := A1 0 _ rfl
    have p1 := A1 1 _ rfl
    simp only [LTag_n, Nat.add_zero] at p0 p1
    simp (maxSteps := 1000000) (disch := first | assumption | ((try simp only [qz]) <;> omega) | fail) [-Option.bind_some, qs, e0, e1, e5, hlt, ia_49, p0, p1, bne_self_eq_false, e0, e1, e5, hlt]
    refine Ret.mono (ih (j + 1) _ _ (by omega) (by first | omega | assumption | rfl | exact congrArg i64 (by omega) | (simp; done) | (simp; omega)) (by exact congrArg i64 hs.symm) (by first | omega | assumption | rfl | exact congrArg i64 (by omega) | (simp; done) | (simp; omega)) (ho.ext (by (repeat (first | exact Ext.rfl | assumption | (refine Ext.al ?_ _) | (refine Ext.dw ?_) | (refine Ext.set ?_ (by (try simp only [qz]); omega) _) | (refine Ext.tr ?_ (by assumption))))))) ?_
    rintro r ⟨h1, h2⟩
    exact ⟨h1, Ext.tr (by (repeat (first | exact Ext.rfl | assumption | (refine Ext.al ?_ _) | (refine Ext.dw ?_) | (refine Ext.set ?_ (by (try simp only [qz]); omega) _) | (refine Ext.tr ?_ (by assumption))))) h2⟩
theorem laws_heldTagS_m {a : Option Addr} {n c : Nat} {S : Nat → Prop} {xs : List Tag} {k : Int} (h0 : 0 ≤ k) (hk : k + 10 * MTag.wtL xs ≤ 100000000000000) {w : World} (ho : D tTags S w [.slice a n c] (MTag.mkL k xs)) :
    Ret (EV P 43 #[.slice a n c, i64 k] w) fun r => r.1 = i64 (MTag.nxL k xs) ∧ Ext w r.2 := by
  obtain ⟨rfl, _⟩ := ho.n
  rw [Mk.mkL_length] at *
  refine Ret.enter plain mixed (laws_heldTagS_fn _ _ _) (by kernel_rfl) (n := 2) (by kernel_rfl) rfl ?_
  simp (maxSteps := 1000000) (disch := first | assumption | ((try simp only [qz]) <;> omega) | fail) [-Option.bind_some, qs]
  exact laws_heldTagS_n h0 hk xs.length 0 _ w (by omega) rfl (by rw [Mk.at_zero]; rfl) rfl ho
end Go.Proofs.Ytligcpabhddggaa.X
set_option linter.unusedVariables false
set_option linter.unusedSimpArgs false
set_option maxRecDepth 100000
set_option maxHeartbeats 1000000
namespace Go.Proofs.Ytligcpabhddggaa.X
open Go Go.Ev Go.RowKit
noncomputable def MVer : Mk Ver := ⟨fun k v => ⟨k, ⟨k + 1, k + 1 + 1⟩, MTag.mkL (k + 1 + 1 + 1) v.past, mText (MTag.nxL (k + 1 + 1 + 1) v.past), (MTag.nxL (k + 1 + 1 + 1) v.past + 1).tmod 3 == 0⟩,
  fun k v => MTag.nxL (k + 1 + 1 + 1) v.past + 1 + 1, fun v => MTag.wtL v.past, fun k v => by have := Mk.nxL_le (M := MTag) v.past (k + 1 + 1 + 1); omega⟩
theorem MVer_small : MVer.Small := fun k v => by
  have := Mk.nxL_small MTag_small v.past (k + 1 + 1 + 1)
  show MTag.nxL (k + 1 + 1 + 1) v.past + 1 + 1 ≤ k + 10 * (1 + (MTag.wtL v.past : Int))
  omega
theorem MVer_mk (k : Int) (v : Ver) : MVer.mk k v = ⟨k, ⟨k + 1, k + 1 + 1⟩, MTag.mkL (k + 1 + 1 + 1) v.past, mText (MTag.nxL (k + 1 + 1 + 1) v.past), (MTag.nxL (k + 1 + 1 + 1) v.past + 1).tmod 3 == 0⟩ := rfl
theorem laws_markVerS_n {a : Option Addr} {c : Nat} {S : Nat → Prop} {xs : List Ver} {k0 : Int} (h0 : 0 ≤ k0) (hk : k0 + 10 * MVer.wtL xs ≤ 100000000000000) :
    ∀ (d j : Nat) (e : Env) (w : World), j + d = xs.length → e 0 = .slice a xs.length c → e 1 = i64 (MVer.at k0 xs j) → e 5 = i64 j → O tVers S w [.slice a xs.length c] (MVer.part k0 xs j) →
    Ret (laws_markVerS_l1 e w) fun r => r.1 = i64 (MVer.nxL k0 xs) ∧ O tVers S r.2 [.slice a xs.length c] (MVer.mkL k0 xs) ∧ Mod S w r.2 := by
  intro d
  induction d with
  | zero =>
    intro j e w hd e0 e1 e5 ho
    rw [laws_markVerS_l1_eq]
    obtain rfl : j = xs.length := by omega
    rw [Mk.part_end (Nat.le_refl _)] at ho
    rw [Mk.at_end (Nat.le_refl _)] at e1
    simp (maxSteps := 1000000) (disch := first | assumption | ((try simp only [qz]) <;> omega) | fail) [-Option.bind_some, qs, e0, e1, e5, e0, e1, e5]
    exact ⟨ho, Mod.rfl⟩
  | succ d ih =>
    intro j e w hd e0 e1 e5 ho
    rw [laws_markVerS_l1_eq]
    have hlt : j < xs.length := by omega
    obtain ⟨x, hx, _⟩ := drop_at hlt
    have hq := Mk.at_small MVer_small xs k0 j
    have hq1 := Mk.at_small MVer_small xs k0 (j + 1)
    have hr : MVer.at k0 xs j + 10 * (1 + (MTag.wtL x.past : Nat)) ≤ k0 + 10 * MVer.wtL xs := Mk.at_room MVer_small hx k0
    have hs : MVer.at k0 xs (j + 1) = MTag.nxL (MVer.at k0 xs j + 1 + 1 + 1) x.past + 1 + 1 := Mk.at_succ hx
    have hp := Mk.part_set (M := MVer) (k := k0) hx
    have hn := ho.n
    obtain ⟨g, cur, cs, S1, rfl, hSg, hgl, hg, hle, hx1, hS1, put⟩ := ho.row (by decide) (Mk.part_get hx)
    obtain ⟨a2, c2, rfl, hp2, ht⟩ := O.ver.1 hx1
    simp only [LVer_n] at hg hle put
    have hng : ¬ S1 g := fun h => (hS1 g h).2.1 rfl
    generalize MVer.at k0 xs j = q at *
    have hm := Mk.nxL_le (M := MTag) x.past (q + 1 + 1 + 1)
    have hmk := MVer_mk q x
    simp (maxSteps := 1000000) (disch := first | assumption | ((try simp only [qz]) <;> omega) | fail) [-Option.bind_some, qs, -splice_eq, -stR_cells, qm, e0, e1, e5, hlt, ia_44, hg, e0, e1, e5, hlt, hg]
    refine Ret.bind (laws_markTagS_m (by omega) (by omega) (hp2.keep (by intro b hS hb; (try dsimp only at hS); (try simp only [In, qz] at hS hb); have := hS1 b hS; first | rfl | (simp (disch := first | assumption | ((try simp only [qz, In]) <;> omega) | fail) only [qk]; done)))) ?_
    rintro ⟨_, w1⟩ ⟨rfl, o1, M1⟩
    try dsimp only at o1 M1
    have zM1 := M1.size
    try simp only [qz] at zM1
    generalize MTag.nxL (q + 1 + 1 + 1) x.past = m at *
    simp (maxSteps := 1000000) (disch := first | assumption | ((try simp only [qz]) <;> omega) | fail) [-Option.bind_some, qs, -splice_eq, -stR_cells, qm, hg, e0, e1, e5, hlt, hg, M1.blk]
    refine Ret.bind ((mText_c (k := m) (by omega) (by omega)).2 _) ?_
    rintro ⟨_, w2⟩ ⟨rfl, E2⟩
    try dsimp only at E2
    have zE2 := E2.size
    try simp only [qz] at zE2
    have ht2 := (mText_c (k := m) (by omega) (by omega)).1
    simp (maxSteps := 1000000) (disch := first | assumption | ((try simp only [qz]) <;> omega) | fail) [-Option.bind_some, qs, -splice_eq, -stR_cells, qm, e0, e5, hlt, ia_44, hg, bo_rem, e0, e1, e5, hlt, hg, M1.blk, E2.blk]
    refine Ret.mono (ih (j + 1) _ _ (by omega) (by first | omega | assumption | rfl | exact congrArg i64 (by omega) | (simp; done) | (simp; omega)) (by exact congrArg i64 hs.symm) (by first | omega | assumption | rfl | exact congrArg i64 (by omega) | (simp; done) | (simp; omega)) ?_) ?_
    · rw [← hp]
      refine (put _ _ (MVer.mk q x) S1 (O.ver.2 ⟨a2, c2, rfl, ?_, ?_⟩) (by first | assumption | rfl | (simp (maxSteps := 1000000) (disch := first | assumption | ((try simp only [qz]) <;> omega) | fail) [-Option.bind_some, qs, -splice_eq, -stR_cells, qm, hg, hmk, Mk.mkL_length, e0, e1, e5, hlt, hg, M1.blk, E2.blk]; done)) (by intro b _ _ _ _; first | rfl | (simp (disch := first | assumption | ((try simp only [qz, In]) <;> omega) | fail) only [M1.blk, E2.blk, qk]; done)) (fun _ _ h => .inl h)).wide fun b h _ => h.elim id fun h => (hS1 b h).1
      · rw [hmk]
        simp only [Mk.mkL_length]
        exact o1.keep (by intro b hS hb; (try dsimp only at hS); (try simp only [In, qz] at hS hb); have := hS1 b hS; first | rfl | (simp (disch := first | assumption | ((try simp only [qz, In]) <;> omega) | fail) only [M1.blk, E2.blk, qk]; done))
      · rw [hmk]
        dsimp only
        omega
    · rintro r ⟨h1, h2, h3⟩
      exact ⟨h1, h2, Mod.tr (Mod.set' (Mod.set' (Mod.ex (Mod.after' (Mod.set' (Mod.set' (Mod.set' Mod.rfl (.inr hSg) _) (.inr hSg) _) (.inr hSg) _) M1 fun x _ hx => (hS1 x hx).1) E2) (.inr hSg) _) (.inr hSg) _) h3⟩
theorem laws_markVerS_m {a : Option Addr} {n c : Nat} {S : Nat → Prop} {xs : List Ver} {k : Int} (h0 : 0 ≤ k) (hk : k + 10 * MVer.wtL xs ≤ 100000000000000) {w : World} (ho : O tVers S w [.slice a n c] xs) :
    Ret (EV P 36 #[.slice a n c, i64 k] w) fun r => r.1 = i64 (MVer.nxL k xs) ∧ O tVers S r.2 [.slice a n c] (MVer.mkL k xs) ∧ Mod S w r.2 := by
  obtain ⟨rfl, _⟩ := ho.n
  refine Ret.enter plain mixed (laws_markVerS_fn _ _ _) (by kernel_rfl) (n := 2) (by kernel_rfl) rfl ?_
  simp (maxSteps := 1000000) (disch := first | assumption | ((try simp only [qz]) <;> omega) | fail) [-Option.bind_some, qs]
  exact laws_markVerS_n h0 hk xs.length 0 _ w (by omega) rfl (by rw [Mk.at_zero]; rfl) rfl (by rw [Mk.part_zero]; exact ho)
theorem laws_heldVerS_n {a : Option Addr} {c : Nat} {S : Nat → Prop} {xs : List Ver} {k0 : Int} (h0 : 0 ≤ k0) (hk : k0 + 10 * MVer.wtL xs ≤ 100000000000000) :
    ∀ (d j : Nat) (e : Env) (w : World), j + d = xs.length → e 0 = .slice a xs.length c → e 1 = i64 (MVer.at k0 xs j) → e 5 = i64 j → D tVers S w [.slice a xs.length c] (MVer.mkL k0 xs) →
    Ret (laws_heldVerS_l1 e w) fun r => r.1 = i64 (MVer.nxL k0 xs) ∧ Ext w r.2 := by
  intro d
  induction d with
  | zero =>
    intro j e w hd e0 e1 e5 ho
    rw [laws_heldVerS_l1_eq]
    obtain rfl : j = xs.length := by omega
    rw [Mk.at_end (Nat.le_refl _)] at e1
    simp (maxSteps := 1000000) (disch := first | assumption | ((try simp only [qz]) <;> omega) | fail) [-Option.bind_some, qs, e0, e1, e5, e0, e1, e5]
    (repeat (first | exact Ext.rfl | assumption | (refine Ext.al ?_ _) | (refine Ext.dw ?_) | (refine Ext.set ?_ (by (try simp only [qz]); omega) _) | (refine Ext.tr ?_ (by assumption))))
  | succ d ih =>
    intro j e w hd e0 e1 e5 ho
    rw [laws_heldVerS_l1_eq]
    have hlt : j < xs.length := by omega
    obtain ⟨x, hx, _⟩ := drop_at hlt
    have hq := Mk.at_small MVer_small xs k0 j
    have hq1 := Mk.at_small MVer_small xs k0 (j + 1)
    have hr : MVer.at k0 xs j + 10 * (1 + (MTag.wtL x.past : Nat)) ≤ k0 + 10 * MVer.wtL xs := Mk.at_room MVer_small hx k0
    have hs : MVer.at k0 xs (j + 1) = MTag.nxL (MVer.at k0 xs j + 1 + 1 + 1) x.past + 1 + 1 := Mk.at_succ hx
    have hn := ho.n
    have hx2 := Mk.mkL_get (M := MVer) xs k0 j hx
    generalize MVer.at k0 xs j = q at *
    rw [MVer_mk] at hx2
    obtain ⟨b1, o1, cs1, rfl, A1, D1, _, l1⟩ := ho.at (by decide) hx2
    obtain ⟨a2, c2, rfl, hp2, ht⟩ := D.ver.1 D1
    have p0 := A1 0 _ rfl
    have p1 := A1 1 _ rfl
    have p2 := A1 2 _ rfl
    have p3 := A1 3 _ rfl
    have p4 := A1 4 _ rfl
    have p5 := A1 5 _ rfl
    simp only [LVer_n, Nat.add_zero] at p0 p1 p2 p3 p4 p5
    have hm := Mk.nxL_le (M := MTag) x.past (q + 1 + 1 + 1)
    simp (maxSteps := 1000000) (disch := first | assumption | ((try simp only [qz]) <;> omega) | fail) [-Option.bind_some, qs, e0, e1, e5, hlt, ia_44, p0, p1, p2, p3, p4, p5, bne_self_eq_false, e0, e1, e5, hlt]
    refine Ret.bind (laws_heldTagS_m (by omega) (by omega) (hp2.ext (by (repeat (first | exact Ext.rfl | assumption | (refine Ext.al ?_ _) | (refine Ext.dw ?_) | (refine Ext.set ?_ (by (try simp only [qz]); omega) _) | (refine Ext.tr ?_ (by assumption))))))) ?_
    rintro ⟨_, w1⟩ ⟨rfl, E1⟩
    try dsimp only at E1
    have zE1 := E1.size
    try simp only [qz] at zE1
    generalize MTag.nxL (q + 1 + 1 + 1) x.past = m at *
    simp (maxSteps := 1000000) (disch := first | assumption | ((try simp only [qz]) <;> omega) | fail) [-Option.bind_some, qs, e0, e1, e5, hlt, ia_44, p0, p1, p2, p3, p4, p5, show ¬ m < 0 by omega, e0, e1, e5, hlt, E1.blk]
    refine Ret.bind ((mText_c (k := m) (by omega) (by omega)).2 _) ?_
    rintro ⟨_, w2⟩ ⟨rfl, E2⟩
    try dsimp only at E2
    have zE2 := E2.size
    try simp only [qz] at zE2
    simp (maxSteps := 1000000) (disch := first | assumption | ((try simp only [qz]) <;> omega) | fail) [-Option.bind_some, qs, e0, e1, e5, hlt, ia_44, p0, p1, p2, p3, p4, p5, bo_rem, e0, e1, e5, hlt, E1.blk, E2.blk]
    refine Ret.mono (ih (j + 1) _ _ (by omega) (by first | omega | assumption | rfl | exact congrArg i64 (by omega) | (simp; done) | (simp; omega)) (by exact congrArg i64 hs.symm) (by first | omega | assumption | rfl | exact congrArg i64 (by omega) | (simp; done) | (simp; omega)) (ho.ext (by (repeat (first | exact Ext.rfl | assumption | (refine Ext.al ?_ _) | (refine Ext.dw ?_) | (refine Ext.set ?_ (by (try simp only [qz]); omega) _) | (refine Ext.tr ?_ (by assumption))))))) ?_
    rintro r ⟨h1, h2⟩
    exact ⟨h1, Ext.tr (by (repeat (first | exact Ext.rfl | assumption | (refine Ext.al ?_ _) | (refine Ext.dw ?_) | (refine Ext.set ?_ (by (try simp only [qz]); omega) _) | (refine Ext.tr ?_ (by assumption))))) h2⟩
theorem laws_heldVerS_m {a : Option Addr} {n c : Nat} {S : Nat → Prop} {xs : List Ver} {k : Int} (h0 : 0 ≤ k) (hk : k + 10 * MVer.wtL xs ≤ 100000000000000) {w : World} (ho : D tVers S w [.slice a n c] (MVer.mkL k xs)) :
    Ret (EV P 41 #[.slice a n c, i64 k] w) fun r => r.1 = i64 (MVer.nxL k xs) ∧ Ext w r.2 := by
  obtain ⟨rfl, _⟩ := ho.n
  rw [Mk.mkL_length] at *
  refine Ret.enter plain mixed (laws_heldVerS_fn _ _ _) (by kernel_rfl) (n := 2) (by kernel_rfl) rfl ?_
  simp (maxSteps := 1000000) (disch := first | assumption | ((try simp only [qz]) <;> omega) | fail) [-Option.bind_some, qs]
  exact laws_heldVerS_n h0 hk xs.length 0 _ w (by omega) rfl (by rw [Mk.at_zero]; rfl) rfl ho
end Go.Proofs.Ytligcpabhddggaa.X
set_option linter.unusedVariables false
set_option linter.unusedSimpArgs false
set_option maxRecDepth 100000
set_option maxHeartbeats 1000000
namespace Go.Proofs.Ytligcpabhddggaa.X
open Go Go.Ev Go.RowKit
theorem At.new {w : World} {cs : List Value} {E : TypeId} : At (w.alloc (.cells cs.toArray E)) w.heap.size 0 cs := by
  intro j v hv
  rw [hp_alloc_eq rfl, cellO_some, ← nth_eq, Nat.zero_add]
  simpa using hv
end Go.Proofs.Ytligcpabhddggaa.X
set_option linter.unusedVariables false
set_option linter.unusedSimpArgs false
set_option maxRecDepth 100000
set_option maxHeartbeats 1000000
namespace Go.Proofs.Ytligcpabhddggaa.X
open Go Go.Ev Go.RowKit
noncomputable def MStore : Mk (List Ver) := MVer.list
theorem laws_eqPast_m {S S' : Nat → Prop} {cs ds : List Value} {x : List Tag} {w : World} (ha : D tTags S w cs x) (hb : D tTags S' w ds x) : Ret (EV P 50 #[.agg cs.toArray, .agg ds.toArray] w) fun r => r.1 = .bool true ∧ Ext w r.2 := by
  obtain ⟨a, c, rfl, ha⟩ := ha.sl'
  obtain ⟨b, d, rfl, hb⟩ := hb.sl'
  exact laws_eqPast_c ha.rTags hb.rTags
theorem laws_eqVerS_m {S S' : Nat → Prop} {a b : Option Addr} {n m c d : Nat} {x : List Ver} {w : World} (ha : D tVers S w [.slice a n c] x) (hb : D tVers S' w [.slice b m d] x) : Ret (EV P 48 #[.slice a n c, .slice b m d] w) fun r => r.1 = .bool true ∧ Ext w r.2 :=
  laws_eqVerS_c ha.rVers hb.rVers
theorem laws_eqStore_m {S S' : Nat → Prop} {cs ds : List Value} {x : List Ver} {w : World} (ha : D tVers S w cs x) (hb : D tVers S' w ds x) : Ret (EV P 58 #[.agg cs.toArray, .agg ds.toArray] w) fun r => r.1 = .bool true ∧ Ext w r.2 := by
  obtain ⟨a, c, rfl, ha⟩ := ha.sl'
  obtain ⟨b, d, rfl, hb⟩ := hb.sl'
  exact laws_eqStore_c ha.rVers hb.rVers
end Go.Proofs.Ytligcpabhddggaa.X
set_option linter.unusedVariables false
set_option linter.unusedSimpArgs false
set_option maxRecDepth 100000
set_option maxHeartbeats 1000000
namespace Go.Proofs.Ytligcpabhddggaa.X
open Go Go.Ev Go.RowKit
theorem MStore_le (k : Int) (x : List Ver) : k ≤ MStore.nx k x ∧ MStore.nx k x ≤ k + 10 * MStore.wt x := ⟨Mk.nxL_le _ _, Mk.nxL_small MVer_small _ _⟩
end Go.Proofs.Ytligcpabhddggaa.X
set_option linter.unusedVariables false
set_option linter.unusedSimpArgs false
set_option maxRecDepth 100000
set_option maxHeartbeats 1000000
namespace Go.Proofs.Ytligcpabhddggaa.X
open Go Go.Ev Go.RowKit
abbrev tNode : Lay CNode := LNode 54 62
abbrev tNodes : Lay (List CNode) := LNodes 54 62 83
noncomputable def MNode : Mk CNode := ⟨fun k n => ⟨MVer.mkL k n.store, MVer.mkL (MVer.nxL k n.store) n.wait⟩, fun k n => MVer.nxL (MVer.nxL k n.store) n.wait, fun n => MVer.wtL n.store + MVer.wtL n.wait,
  fun k n => Int.le_trans (Mk.nxL_le n.store k) (Mk.nxL_le n.wait _)⟩
theorem MNode_small : MNode.Small := fun k n => by
  have h1 := Mk.nxL_small MVer_small n.store k
  have h2 := Mk.nxL_small MVer_small n.wait (MVer.nxL k n.store)
  show MVer.nxL (MVer.nxL k n.store) n.wait ≤ k + 10 * (1 + ((MVer.wtL n.store + MVer.wtL n.wait : Nat) : Int))
  omega
theorem MNode_mk (k : Int) (n : CNode) : MNode.mk k n = ⟨MVer.mkL k n.store, MVer.mkL (MVer.nxL k n.store) n.wait⟩ := rfl
noncomputable def MChain : Mk (List CNode) := MNode.list
theorem MChain_le (k : Int) (x : List CNode) : k ≤ MChain.nx k x ∧ MChain.nx k x ≤ k + 10 * MChain.wt x := ⟨Mk.nxL_le _ _, Mk.nxL_small MNode_small _ _⟩
theorem laws_eqNode_m {S S' : Nat → Prop} {cs ds : List Value} {x : CNode} {w : World} (ha : D tNode S w cs x) (hb : D tNode S' w ds x) : Ret (EV P 57 #[.agg cs.toArray, .agg ds.toArray] w) fun r => r.1 = .bool true ∧ Ext w r.2 := by
  obtain ⟨a, c, a', c', rfl, h2, h3⟩ := D.node.1 ha
  obtain ⟨b, d, b', d', rfl, h4, h5⟩ := D.node.1 hb
  refine Ret.post fun Q hQ => ?_
  refine Ret.enter plain mixed (laws_eqNode_fn _ _ _) (by kernel_rfl) (n := 2) (by kernel_rfl) rfl ?_
  simp (maxSteps := 1000000) (disch := first | assumption | ((try simp only [qz]) <;> omega) | fail) [-Option.bind_some, qs]
  refine Ret.bind (laws_eqStore_m (h2.ext (by (repeat (first | exact Ext.rfl | assumption | (refine Ext.al ?_ _) | (refine Ext.dw ?_) | (refine Ext.set ?_ (by (try simp only [qz]); omega) _) | (refine Ext.tr ?_ (by assumption)))))) (h4.ext (by (repeat (first | exact Ext.rfl | assumption | (refine Ext.al ?_ _) | (refine Ext.dw ?_) | (refine Ext.set ?_ (by (try simp only [qz]); omega) _) | (refine Ext.tr ?_ (by assumption))))))) ?_
  rintro ⟨_, w1⟩ ⟨rfl, E1⟩
  try dsimp only at E1
  have zE1 := E1.size
  try simp only [qz] at zE1
  simp (maxSteps := 1000000) (disch := first | assumption | ((try simp only [qz]) <;> omega) | fail) [-Option.bind_some, qs, E1.blk]
  refine Ret.bind (laws_eqVerS_m (h3.ext (by (repeat (first | exact Ext.rfl | assumption | (refine Ext.al ?_ _) | (refine Ext.dw ?_) | (refine Ext.set ?_ (by (try simp only [qz]); omega) _) | (refine Ext.tr ?_ (by assumption)))))) (h5.ext (by (repeat (first | exact Ext.rfl | assumption | (refine Ext.al ?_ _) | (refine Ext.dw ?_) | (refine Ext.set ?_ (by (try simp only [qz]); omega) _) | (refine Ext.tr ?_ (by assumption))))))) ?_
  rintro ⟨_, w2⟩ ⟨rfl, E2⟩
  try dsimp only at E2
  have zE2 := E2.size
  try simp only [qz] at zE2
  simp (maxSteps := 1000000) (disch := first | assumption | ((try simp only [qz]) <;> omega) | fail) [-Option.bind_some, qs, E1.blk, E2.blk]
  exact hQ _ ⟨rfl, by (repeat (first | exact Ext.rfl | assumption | (refine Ext.al ?_ _) | (refine Ext.dw ?_) | (refine Ext.set ?_ (by (try simp only [qz]); omega) _) | (refine Ext.tr ?_ (by assumption))))⟩
theorem laws_markNodeS_n {a : Option Addr} {c : Nat} {S : Nat → Prop} {xs : List CNode} {k0 : Int} (h0 : 0 ≤ k0) (hk : k0 + 10 * MNode.wtL xs ≤ 100000000000000) :
    ∀ (d j : Nat) (e : Env) (w : World), j + d = xs.length → e 0 = .slice a xs.length c → e 1 = i64 (MNode.at k0 xs j) → e 5 = i64 j → O tNodes S w [.slice a xs.length c] (MNode.part k0 xs j) →
    Ret (laws_markNodeS_l1 e w) fun r => r.1 = i64 (MNode.nxL k0 xs) ∧ O tNodes S r.2 [.slice a xs.length c] (MNode.mkL k0 xs) ∧ Mod S w r.2 := by
  intro d
  induction d with
  | zero =>
    intro j e w hd e0 e1 e5 ho
    rw [laws_markNodeS_l1_eq]
    obtain rfl : j = xs.length := by omega
    rw [Mk.part_end (Nat.le_refl _)] at ho
    rw [Mk.at_end (Nat.le_refl _)] at e1
    simp (maxSteps := 1000000) (disch := first | assumption | ((try simp only [qz]) <;> omega) | fail) [-Option.bind_some, qs, e0, e1, e5, e0, e1, e5]
    exact ⟨ho, Mod.rfl⟩
  | succ d ih =>
    intro j e w hd e0 e1 e5 ho
    rw [laws_markNodeS_l1_eq]
    have hlt : j < xs.length := by omega
    obtain ⟨x, hx, _⟩ := drop_at hlt
    have hq := Mk.at_small MNode_small xs k0 j
    have hq1 := Mk.at_small MNode_small xs k0 (j + 1)
    have hr : MNode.at k0 xs j + 10 * (1 + ((MVer.wtL x.store + MVer.wtL x.wait : Nat) : Int)) ≤ k0 + 10 * MNode.wtL xs := Mk.at_room MNode_small hx k0
    have hs : MNode.at k0 xs (j + 1) = MVer.nxL (MVer.nxL (MNode.at k0 xs j) x.store) x.wait := Mk.at_succ hx
    have hp := Mk.part_set (M := MNode) (k := k0) hx
    have hn := ho.n
    obtain ⟨g, cur, cs, S1, rfl, hSg, hgl, hg, hle, hx1, hS1, put⟩ := ho.row (by decide) (Mk.part_get hx)
    obtain ⟨a2, c2, a3, c3, S2, S3, rfl, hp2, hp3, hS2, hS3⟩ := O.node_un hx1
    simp only [LNode_n] at hg hle put
    have hng2 : ¬ S2 g := fun h => (hS1 g (hS2 g h).1).2.1 rfl
    have hng3 : ¬ S3 g := fun h => (hS1 g (hS3 g h).1).2.1 rfl
    generalize MNode.at k0 xs j = q at *
    have hm := MStore_le q x.store
    have hm2 := MStore_le (MVer.nxL q x.store) x.wait
    have ew1 : MStore.wt x.store = MVer.wtL x.store := rfl
    have ew2 : MStore.wt x.wait = MVer.wtL x.wait := rfl
    have en1 : MStore.nx q x.store = MVer.nxL q x.store := rfl
    have en2 : MStore.nx (MVer.nxL q x.store) x.wait = MVer.nxL (MVer.nxL q x.store) x.wait := rfl
    have hmk := MNode_mk q x
    simp (maxSteps := 1000000) (disch := first | assumption | ((try simp only [qz]) <;> omega) | fail) [-Option.bind_some, qs, -splice_eq, -stR_cells, qm, e0, e1, e5, hlt, ia_41, hg, e0, e1, e5, hlt, hg]
    refine Ret.bind (laws_markVerS_m (by omega) (by omega) hp2) ?_
    rintro ⟨_, w1⟩ ⟨rfl, o1, M1⟩
    try dsimp only at o1 M1
    have zM1 := M1.size
    try simp only [qz] at zM1
    simp (maxSteps := 1000000) (disch := first | assumption | ((try simp only [qz]) <;> omega) | fail) [-Option.bind_some, qs, -splice_eq, -stR_cells, qm, e0, e1, e5, hlt, ia_41, hg, e0, e1, e5, hlt, hg, M1.blk]
    have h23 : O tVers S3 w1 [.slice a3 x.wait.length c3] x.wait := hp3.mod M1 fun b _ h h' => (hS3 b h).2.1 h'
    refine Ret.bind (laws_markVerS_m (by omega) (by omega) h23) ?_
    rintro ⟨_, w2⟩ ⟨rfl, o2, M2⟩
    try dsimp only at o2 M2
    have zM2 := M2.size
    try simp only [qz] at zM2
    simp (maxSteps := 1000000) (disch := first | assumption | ((try simp only [qz]) <;> omega) | fail) [-Option.bind_some, qs, -splice_eq, -stR_cells, qm, e0, e1, e5, hlt, ia_41, hg, e0, e1, e5, hlt, hg, M1.blk, M2.blk]
    have o1' : O tVers S2 w2 [.slice a2 x.store.length c2] (MVer.mkL q x.store) := o1.mod M2 fun b _ h h' => (hS2 b h).2.1 h'
    refine Ret.mono (ih (j + 1) _ _ (by omega) (by first | omega | assumption | rfl | exact congrArg i64 (by omega) | (simp; done) | (simp; omega)) (by exact congrArg i64 hs.symm) (by first | omega | assumption | rfl | exact congrArg i64 (by omega) | (simp; done) | (simp; omega)) ?_) ?_
    · rw [← hp]
      have e1 : (MVer.mkL q x.store).length = x.store.length := Mk.mkL_length _ _
      have e2 : (MVer.mkL (MVer.nxL q x.store) x.wait).length = x.wait.length := Mk.mkL_length _ _
      refine (put w2 _ (MNode.mk q x) _ (O.node_mk (v := MNode.mk q x) o1' o2 ?_) ?_ ?_ ?_).wide ?_
      · exact fun b _ h h' => (hS2 b h).2.1 h'
      · rw [M2.blk g (by have := M1.size; omega) hng3, M1.blk g hgl hng2, hg]
      · intro b h1 h2 h3 h4
        by_cases k2 : S2 b
        · exact absurd (hS2 b k2).1 h4
        by_cases k3 : S3 b
        · exact absurd (hS3 b k3).1 h4
        rw [M2.blk b (by have := M1.size; omega) k3, M1.blk b h1 k2]
      · rintro b _ (h | h)
        · exact .inl (hS2 b h).1
        · exact .inl (hS3 b h).1
      · rintro b (h | h | h) _
        · exact h
        · exact (hS1 b (hS2 b h).1).1
        · exact (hS1 b (hS3 b h).1).1
    · rintro r ⟨h1, h2, h3⟩
      exact ⟨h1, h2, Mod.tr (Mod.after' (Mod.weak M1 fun b _ h => (hS1 b (hS2 b h).1).1) M2 fun b _ h => (hS1 b (hS3 b h).1).1) h3⟩
theorem laws_markNodeS_m {a : Option Addr} {n c : Nat} {S : Nat → Prop} {xs : List CNode} {k : Int} (h0 : 0 ≤ k) (hk : k + 10 * MNode.wtL xs ≤ 100000000000000) {w : World} (ho : O tNodes S w [.slice a n c] xs) :
    Ret (EV P 35 #[.slice a n c, i64 k] w) fun r => r.1 = i64 (MNode.nxL k xs) ∧ O tNodes S r.2 [.slice a n c] (MNode.mkL k xs) ∧ Mod S w r.2 := by
  obtain ⟨rfl, _⟩ := ho.n
  refine Ret.enter plain mixed (laws_markNodeS_fn _ _ _) (by kernel_rfl) (n := 2) (by kernel_rfl) rfl ?_
  simp (maxSteps := 1000000) (disch := first | assumption | ((try simp only [qz]) <;> omega) | fail) [-Option.bind_some, qs]
  exact laws_markNodeS_n h0 hk xs.length 0 _ w (by omega) rfl (by rw [Mk.at_zero]; rfl) rfl (by rw [Mk.part_zero]; exact ho)
theorem laws_heldNodeS_n {a : Option Addr} {c : Nat} {S : Nat → Prop} {xs : List CNode} {k0 : Int} (h0 : 0 ≤ k0) (hk : k0 + 10 * MNode.wtL xs ≤ 100000000000000) :
    ∀ (d j : Nat) (e : Env) (w : World), j + d = xs.length → e 0 = .slice a xs.length c → e 1 = i64 (MNode.at k0 xs j) → e 5 = i64 j → D tNodes S w [.slice a xs.length c] (MNode.mkL k0 xs) →
    Ret (laws_heldNodeS_l1 e w) fun r => r.1 = i64 (MNode.nxL k0 xs) ∧ Ext w r.2 := by
  intro d
  induction d with
  | zero =>
    intro j e w hd e0 e1 e5 ho
    rw [laws_heldNodeS_l1_eq]
    obtain rfl : j = xs.length := by omega
    rw [Mk.at_end (Nat.le_refl _)] at e1
    simp (maxSteps := 1000000) (disch := first | assumption | ((try simp only [qz]) <;> omega) | fail) [-Option.bind_some, qs, e0, e1, e5, e0, e1, e5]
    (repeat (first | exact Ext.rfl | assumption | (refine Ext.al ?_ _) | (refine Ext.dw ?_) | (refine Ext.set ?_ (by (try simp only [qz]); omega) _) | (refine Ext.tr ?_ (by assumption))))
  | succ d ih =>
    intro j e w hd e0 e1 e5 ho
    rw [laws_heldNodeS_l1_eq]
    have hlt : j < xs.length := by omega
    obtain ⟨x, hx, _⟩ := drop_at hlt
    have hq := Mk.at_small MNode_small xs k0 j
    have hq1 := Mk.at_small MNode_small xs k0 (j + 1)
    have hr : MNode.at k0 xs j + 10 * (1 + ((MVer.wtL x.store + MVer.wtL x.wait : Nat) : Int)) ≤ k0 + 10 * MNode.wtL xs := Mk.at_room MNode_small hx k0
    have hs : MNode.at k0 xs (j + 1) = MVer.nxL (MVer.nxL (MNode.at k0 xs j) x.store) x.wait := Mk.at_succ hx
    have hn := ho.n
    have hx2 := Mk.mkL_get (M := MNode) xs k0 j hx
    generalize MNode.at k0 xs j = q at *
    have hm := MStore_le q x.store
    have hm2 := MStore_le (MVer.nxL q x.store) x.wait
    have ew1 : MStore.wt x.store = MVer.wtL x.store := rfl
    have ew2 : MStore.wt x.wait = MVer.wtL x.wait := rfl
    have en1 : MStore.nx q x.store = MVer.nxL q x.store := rfl
    have en2 : MStore.nx (MVer.nxL q x.store) x.wait = MVer.nxL (MVer.nxL q x.store) x.wait := rfl
    rw [MNode_mk] at hx2
    obtain ⟨b1, o1, cs1, rfl, A1, D1, _, l1⟩ := ho.at (by decide) hx2
    obtain ⟨a2, c2, a3, c3, rfl, hp2, hp3⟩ := D.node.1 D1
    have p0 := A1 0 _ rfl
    have p1 := A1 1 _ rfl
    simp only [LVer_n, LTag_n, LNode_n, Nat.add_zero] at p0 p1
    simp (maxSteps := 1000000) (disch := first | assumption | ((try simp only [qz]) <;> omega) | fail) [-Option.bind_some, qs, e0, e1, e5, hlt, ia_41, e0, e1, e5, hlt, p0, p1]
    refine Ret.bind (laws_heldVerS_m (by omega) (by omega) hp2) ?_
    rintro ⟨_, w1⟩ ⟨rfl, E1⟩
    try dsimp only at E1
    have zE1 := E1.size
    try simp only [qz] at zE1
    simp (maxSteps := 1000000) (disch := first | assumption | ((try simp only [qz]) <;> omega) | fail) [-Option.bind_some, qs, e0, e1, e5, hlt, ia_41, show ¬ MVer.nxL q x.store < 0 by omega, e0, e1, e5, hlt, p0, p1, E1.blk]
    refine Ret.bind (laws_heldVerS_m (by omega) (by omega) (hp3.ext (by (repeat (first | exact Ext.rfl | assumption | (refine Ext.al ?_ _) | (refine Ext.dw ?_) | (refine Ext.set ?_ (by (try simp only [qz]); omega) _) | (refine Ext.tr ?_ (by assumption))))))) ?_
    rintro ⟨_, w2⟩ ⟨rfl, E2⟩
    try dsimp only at E2
    have zE2 := E2.size
    try simp only [qz] at zE2
    simp (maxSteps := 1000000) (disch := first | assumption | ((try simp only [qz]) <;> omega) | fail) [-Option.bind_some, qs, e0, e1, e5, hlt, ia_41, show ¬ MVer.nxL (MVer.nxL q x.store) x.wait < 0 by omega, e0, e1, e5, hlt, p0, p1, E1.blk, E2.blk]
    refine Ret.mono (ih (j + 1) _ _ (by omega) (by first | omega | assumption | rfl | exact congrArg i64 (by omega) | (simp; done) | (simp; omega)) (by exact congrArg i64 hs.symm) (by first | omega | assumption | rfl | exact congrArg i64 (by omega) | (simp; done) | (simp; omega)) (ho.ext (by (repeat (first | exact Ext.rfl | assumption | (refine Ext.al ?_ _) | (refine Ext.dw ?_) | (refine Ext.set ?_ (by (try simp only [qz]); omega) _) | (refine Ext.tr ?_ (by assumption))))))) ?_
    rintro r ⟨h1, h2⟩
    exact ⟨h1, Ext.tr (by (repeat (first | exact Ext.rfl | assumption | (refine Ext.al ?_ _) | (refine Ext.dw ?_) | (refine Ext.set ?_ (by (try simp only [qz]); omega) _) | (refine Ext.tr ?_ (by assumption))))) h2⟩
theorem laws_heldNodeS_m {a : Option Addr} {n c : Nat} {S : Nat → Prop} {xs : List CNode} {k : Int} (h0 : 0 ≤ k) (hk : k + 10 * MNode.wtL xs ≤ 100000000000000) {w : World} (ho : D tNodes S w [.slice a n c] (MNode.mkL k xs)) :
    Ret (EV P 40 #[.slice a n c, i64 k] w) fun r => r.1 = i64 (MNode.nxL k xs) ∧ Ext w r.2 := by
  obtain ⟨rfl, _⟩ := ho.n
  rw [Mk.mkL_length] at *
  refine Ret.enter plain mixed (laws_heldNodeS_fn _ _ _) (by kernel_rfl) (n := 2) (by kernel_rfl) rfl ?_
  simp (maxSteps := 1000000) (disch := first | assumption | ((try simp only [qz]) <;> omega) | fail) [-Option.bind_some, qs]
  exact laws_heldNodeS_n h0 hk xs.length 0 _ w (by omega) rfl (by rw [Mk.at_zero]; rfl) rfl ho
end Go.Proofs.Ytligcpabhddggaa.X
set_option linter.unusedVariables false
set_option linter.unusedSimpArgs false
set_option maxRecDepth 100000
set_option maxHeartbeats 1000000
namespace Go.Proofs.Ytligcpabhddggaa.X
open Go Go.Ev Go.RowKit
theorem laws_eqNodeS_n {a b : Option Addr} {c d' : Nat} {S S' : Nat → Prop} {xs : List CNode} {w0 : World} : ∀ (d k : Nat) (e : Env) (w : World), k + d = xs.length → e 0 = .slice a xs.length c → e 1 = .slice b xs.length d' → e 5 = i64 k → D tNodes S w0 [.slice a xs.length c] xs → D tNodes S' w0 [.slice b xs.length d'] xs → Ext w0 w →
    Ret (laws_eqNodeS_l1 e w) fun r => r.1 = .bool true ∧ Ext w0 r.2 := by
  intro d
  induction d with
  | zero =>
    intro k e w hd e0 e1 e5 ha hb E0
    have zE0 := E0.size
    try simp only [qz] at zE0
    rw [laws_eqNodeS_l1_eq]
    obtain rfl : k = xs.length := by omega
    refine Ret.post fun Q hQ => ?_
    simp (maxSteps := 1000000) (disch := first | assumption | ((try simp only [qz]) <;> omega) | fail) [-Option.bind_some, qs, e0, e1, e5, e0, e1, e5, E0.blk]
    exact hQ _ ⟨rfl, E0⟩
  | succ d ih =>
    intro k e w hd e0 e1 e5 ha hb E0
    have zE0 := E0.size
    try simp only [qz] at zE0
    rw [laws_eqNodeS_l1_eq]
    have hlt : k < xs.length := by omega
    obtain ⟨x, hx, _⟩ := drop_at hlt
    have hn := ha.n
    obtain ⟨b1, o1, cs1, rfl, A1, D1, _, l1⟩ := (ha.ext E0).at (by decide) hx
    obtain ⟨v0, v1, rfl⟩ := len2 D1.len
    have p0 := A1 0 _ rfl
    have p1 := A1 1 _ rfl
    simp only [LVer_n, LTag_n, LNode_n, Nat.add_zero] at p0 p1
    obtain ⟨b2, o2, cs2, rfl, A2, D2, _, l2⟩ := (hb.ext E0).at (by decide) hx
    obtain ⟨u0, u1, rfl⟩ := len2 D2.len
    have q0 := A2 0 _ rfl
    have q1 := A2 1 _ rfl
    simp only [LVer_n, LTag_n, LNode_n, Nat.add_zero] at q0 q1
    refine Ret.post fun Q hQ => ?_
    simp (maxSteps := 1000000) (disch := first | assumption | ((try simp only [qz]) <;> omega) | fail) [-Option.bind_some, qs, e0, e1, e5, hlt, ia_41, e0, e1, e5, E0.blk, hlt, p0, p1, q0, q1]
    refine Ret.bind (laws_eqNode_m (D1.ext (by (repeat (first | exact Ext.rfl | assumption | (refine Ext.al ?_ _) | (refine Ext.dw ?_) | (refine Ext.set ?_ (by (try simp only [qz]); omega) _) | (refine Ext.tr ?_ (by assumption)))))) (D2.ext (by (repeat (first | exact Ext.rfl | assumption | (refine Ext.al ?_ _) | (refine Ext.dw ?_) | (refine Ext.set ?_ (by (try simp only [qz]); omega) _) | (refine Ext.tr ?_ (by assumption))))))) ?_
    rintro ⟨_, w1⟩ ⟨rfl, E1⟩
    try dsimp only at E1
    have zE1 := E1.size
    try simp only [qz] at zE1
    simp (maxSteps := 1000000) (disch := first | assumption | ((try simp only [qz]) <;> omega) | fail) [-Option.bind_some, qs, e0, e1, e5, hlt, e0, e1, e5, E0.blk, hlt, p0, p1, q0, q1, E1.blk]
    exact Ret.mono (ih (k + 1) _ _ (by omega) (by first | omega | assumption | rfl | exact congrArg i64 (by omega) | (simp; done) | (simp; omega)) (by first | omega | assumption | rfl | exact congrArg i64 (by omega) | (simp; done) | (simp; omega)) (by first | omega | assumption | rfl | exact congrArg i64 (by omega) | (simp; done) | (simp; omega)) ha hb (by (repeat (first | exact Ext.rfl | assumption | (refine Ext.al ?_ _) | (refine Ext.dw ?_) | (refine Ext.set ?_ (by (try simp only [qz]); omega) _) | (refine Ext.tr ?_ (by assumption)))))) hQ
theorem laws_eqNodeS_m {S S' : Nat → Prop} {a b : Option Addr} {n m c d : Nat} {xs : List CNode} {w : World} (ha : D tNodes S w [.slice a n c] xs) (hb : D tNodes S' w [.slice b m d] xs) : Ret (EV P 55 #[.slice a n c, .slice b m d] w) fun r => r.1 = .bool true ∧ Ext w r.2 := by
  obtain ⟨rfl, hm, _⟩ := ha.n
  obtain ⟨rfl, hm, _⟩ := hb.n
  refine Ret.post fun Q hQ => ?_
  refine Ret.enter plain mixed (laws_eqNodeS_fn _ _ _) (by kernel_rfl) (n := 2) (by kernel_rfl) rfl ?_
  simp (maxSteps := 1000000) (disch := first | assumption | ((try simp only [qz]) <;> omega) | fail) [-Option.bind_some, qs, bne_self_eq_false]
  exact Ret.mono (laws_eqNodeS_n xs.length 0 _ w (by omega) rfl rfl rfl ha hb Ext.rfl) hQ
theorem laws_eqChain_m {S S' : Nat → Prop} {cs ds : List Value} {x : List CNode} {w : World} (ha : D tNodes S w cs x) (hb : D tNodes S' w ds x) : Ret (EV P 47 #[.agg cs.toArray, .agg ds.toArray] w) fun r => r.1 = .bool true ∧ Ext w r.2 := by
  obtain ⟨a, c, rfl, ha⟩ := ha.sl'
  obtain ⟨b, d, rfl, hb⟩ := hb.sl'
  refine Ret.post fun Q hQ => ?_
  refine Ret.enter plain mixed (laws_eqChain_fn _ _ _) (by kernel_rfl) (n := 2) (by kernel_rfl) rfl ?_
  simp (maxSteps := 1000000) (disch := first | assumption | ((try simp only [qz]) <;> omega) | fail) [-Option.bind_some, qs]
  refine Ret.bind (laws_eqNodeS_m (ha.ext (by (repeat (first | exact Ext.rfl | assumption | (refine Ext.al ?_ _) | (refine Ext.dw ?_) | (refine Ext.set ?_ (by (try simp only [qz]); omega) _) | (refine Ext.tr ?_ (by assumption)))))) (hb.ext (by (repeat (first | exact Ext.rfl | assumption | (refine Ext.al ?_ _) | (refine Ext.dw ?_) | (refine Ext.set ?_ (by (try simp only [qz]); omega) _) | (refine Ext.tr ?_ (by assumption))))))) ?_
  rintro ⟨_, w1⟩ ⟨rfl, E1⟩
  try dsimp only at E1
  have zE1 := E1.size
  try simp only [qz] at zE1
  simp (maxSteps := 1000000) (disch := first | assumption | ((try simp only [qz]) <;> omega) | fail) [-Option.bind_some, qs, E1.blk]
  exact hQ _ ⟨rfl, by (repeat (first | exact Ext.rfl | assumption | (refine Ext.al ?_ _) | (refine Ext.dw ?_) | (refine Ext.set ?_ (by (try simp only [qz]); omega) _) | (refine Ext.tr ?_ (by assumption))))⟩
end Go.Proofs.Ytligcpabhddggaa.X
set_option linter.unusedVariables false
set_option linter.unusedSimpArgs false
set_option maxRecDepth 100000
set_option maxHeartbeats 1000000
namespace Go.Proofs.Ytligcpabhddggaa.X
open Go Go.Ev Go.RowKit
def verZ : Ver := ⟨0, ⟨0, 0⟩, [], ⟨#[]⟩, false⟩
def nodeZ : CNode := ⟨List.replicate 4 verZ, []⟩
theorem zero_Ver (w : World) : O tVer (fun _ => False) w [i64 0, i64 0, i64 0, .slice none 0 0, .string ⟨#[]⟩, .bool false] verZ :=
  O.ver.2 ⟨none, 0, rfl, O.nil, by decide⟩
theorem impl_StoreNew_n (w : World) : Ret (EV P 54 #[] w) fun r => ∃ a c, r.1 = .agg #[.slice a 4 c] ∧ O tVers (In w.heap.size r.2.heap.size) r.2 [.slice a 4 c] (List.replicate 4 verZ) ∧ Ext w r.2 := by
  refine Ret.post fun Q hQ => ?_
  refine Ret.enter plain mixed (impl_StoreNew_fn _) (by kernel_rfl) (n := 0) (by kernel_rfl) rfl ?_
  simp (maxSteps := 1000000) (disch := first | assumption | ((try simp only [qz]) <;> omega) | fail) [-Option.bind_some, qs]
  refine Ret.bind (O.make (L := tVer) (mx := 1954687338211) (n := 4) el_44 zz_62 rfl (by decide) zero_Ver (by decide) (by decide) (by decide)) ?_
  rintro ⟨_, w1⟩ ⟨rfl, o1, z1, E1⟩
  have zE1 := E1.size
  try simp only [qz] at zE1
  try dsimp only at o1 z1 E1
  have X1 := E1.blk (b := w.heap.size) (by simp)
  simp only [World.size_alloc] at z1 o1
  simp (maxSteps := 1000000) (disch := first | assumption | ((try simp only [qz]) <;> omega) | fail) [-Option.bind_some, qs, -splice_eq, -stR_cells, qm, E1.blk, X1]
  exact hQ _ ⟨_, _, rfl, (o1.keep (by intro b hS hb; (try dsimp only at hS); (try simp only [In, qz] at hS hb); first | rfl | (simp (disch := first | assumption | ((try simp only [qz, In]) <;> omega) | fail) only [E1.blk, qk]; done))).wide (by intro b h1 h2; (try dsimp only at h1); (try simp only [In, qz] at *); omega), by (repeat (first | exact Ext.rfl | assumption | (refine Ext.al ?_ _) | (refine Ext.dw ?_) | (refine Ext.set ?_ (by (try simp only [qz]); omega) _) | (refine Ext.tr ?_ (by assumption))))⟩
theorem spec_l2New_n (w : World) : Ret (EV P 53 #[] w) fun r => ∃ a c, r.1 = .agg #[.slice a 4 c] ∧ O tVers (In w.heap.size r.2.heap.size) r.2 [.slice a 4 c] (List.replicate 4 verZ) ∧ Ext w r.2 := by
  refine Ret.post fun Q hQ => ?_
  refine Ret.enter plain mixed (spec_l2New_fn _) (by kernel_rfl) (n := 0) (by kernel_rfl) rfl ?_
  simp (maxSteps := 1000000) (disch := first | assumption | ((try simp only [qz]) <;> omega) | fail) [-Option.bind_some, qs]
  refine Ret.bind (O.make (L := tVer) (mx := 1954687338211) (n := 4) el_44 zz_62 rfl (by decide) zero_Ver (by decide) (by decide) (by decide)) ?_
  rintro ⟨_, w1⟩ ⟨rfl, o1, z1, E1⟩
  have zE1 := E1.size
  try simp only [qz] at zE1
  try dsimp only at o1 z1 E1
  have X1 := E1.blk (b := w.heap.size) (by simp)
  simp only [World.size_alloc] at z1 o1
  simp (maxSteps := 1000000) (disch := first | assumption | ((try simp only [qz]) <;> omega) | fail) [-Option.bind_some, qs, -splice_eq, -stR_cells, qm, E1.blk, X1]
  exact hQ _ ⟨_, _, rfl, (o1.keep (by intro b hS hb; (try dsimp only at hS); (try simp only [In, qz] at hS hb); first | rfl | (simp (disch := first | assumption | ((try simp only [qz, In]) <;> omega) | fail) only [E1.blk, qk]; done))).wide (by intro b h1 h2; (try dsimp only at h1); (try simp only [In, qz] at *); omega), by (repeat (first | exact Ext.rfl | assumption | (refine Ext.al ?_ _) | (refine Ext.dw ?_) | (refine Ext.set ?_ (by (try simp only [qz]); omega) _) | (refine Ext.tr ?_ (by assumption))))⟩
theorem impl_nodesOk_c (n : Int) (w : World) : Ret (EV P 27 #[i64 n] w) fun r => r = (.bool (decide (1 ≤ n) && decide (n ≤ 4)), w) := by
  refine Ret.post fun Q hQ => ?_
  refine Ret.enter plain mixed (impl_nodesOk_fn _ _) (by kernel_rfl) (n := 1) (by kernel_rfl) rfl ?_
  simp (maxSteps := 1000000) (disch := first | assumption | ((try simp only [qz]) <;> omega) | fail) [-Option.bind_some, qs]
  refine Ret.bind (impl_within_c _ _ _ _) ?_
  rintro _ rfl
  simp (maxSteps := 1000000) (disch := first | assumption | ((try simp only [qz]) <;> omega) | fail) [-Option.bind_some, qs]
  exact hQ _ rfl
def chainNewP (n : Int) : List CNode := if (decide (1 ≤ n) && decide (n ≤ 4)) then List.replicate n.toNat nodeZ else []
theorem rep_app {α : Type} (k : Nat) (x : α) : List.replicate k x ++ [x] = List.replicate (k + 1) x := by rw [List.replicate_succ']
theorem impl_ChainNew_n1 {g2 g3 B n : Nat} {w0 : World} (h2 : g2 < B) (h02 : w0.heap.size ≤ g2) (h3 : w0.heap.size ≤ g3) (h23 : g2 ≠ g3) (hn4 : n ≤ 4) :
    ∀ (d k : Nat) (e : Env) (w : World) (a3 : Option Addr) (c3 : Nat) (sv : Value), k + d = n → e 11 = i64 n → e 2 = pt g2 0 → e 3 = pt g3 0 → e 12 = i64 k → hp w g2 = some (.cells #[sv] 43 (0, 0)) → hp w g3 = some (.cells #[.slice a3 k c3] 43 (0, 0)) → Ext w0 w → B ≤ w.heap.size →
    O tNodes (fun b => In B w.heap.size b ∧ b ≠ g3) w [.slice a3 k c3] (List.replicate k nodeZ) →
    Ret (impl_ChainNew_l1 e w) fun r => ∃ a' c', r.1 = .agg #[.slice a' n c'] ∧ O tNodes (In B r.2.heap.size) r.2 [.slice a' n c'] (List.replicate n nodeZ) ∧ Ext w0 r.2 := by
  intro d
  induction d with
  | zero =>
    intro k e w a3 c3 sv hd e0 e2 e3 ei X2 X3 E0 hB ho
    have zE0 := E0.size
    try simp only [qz] at zE0
    rw [impl_ChainNew_l1_eq]
    obtain rfl : k = n := by omega
    refine Ret.post fun Q hQ => ?_
    simp (maxSteps := 1000000) (disch := first | assumption | ((try simp only [qz]) <;> omega) | fail) [-Option.bind_some, qs, -splice_eq, -stR_cells, qm, e0, e2, e3, ei, X2, X3, e0, e2, e3, X2, X3, E0.blk]
    exact hQ _ ⟨_, _, rfl, (ho.keep (by intro b hS hb; (try dsimp only at hS); (try simp only [In, qz] at hS hb); first | rfl | (simp (disch := first | assumption | ((try simp only [qz, In]) <;> omega) | fail) only [E0.blk, qk]; done))).wide (by intro b h1 h2; (try dsimp only at h1); (try simp only [In, qz] at *); omega), by (repeat (first | exact Ext.rfl | assumption | (refine Ext.al ?_ _) | (refine Ext.dw ?_) | (refine Ext.set ?_ (by (try simp only [qz]); omega) _) | (refine Ext.tr ?_ (by assumption))))⟩
  | succ d ih =>
    intro k e w a3 c3 sv hd e0 e2 e3 ei X2 X3 E0 hB ho
    have zE0 := E0.size
    try simp only [qz] at zE0
    rw [impl_ChainNew_l1_eq]
    have hlt : k < n := by omega
    have y2 := hp_lt X2
    have y3 := hp_lt X3
    refine Ret.post fun Q hQ => ?_
    simp (maxSteps := 1000000) (disch := first | assumption | ((try simp only [qz]) <;> omega) | fail) [-Option.bind_some, qs, -splice_eq, -stR_cells, qm, e0, e2, e3, ei, X2, X3, hlt, e0, e2, e3, X2, X3, E0.blk, hlt]
    refine Ret.bind (impl_StoreNew_n _) ?_
    rintro ⟨_, w1⟩ ⟨a1, c1, rfl, o1, E1⟩
    try dsimp only at a1 c1 o1 E1
    have zE1 := E1.size
    try simp only [qz] at zE1
    simp (maxSteps := 1000000) (disch := first | assumption | ((try simp only [qz]) <;> omega) | fail) [-Option.bind_some, qs, -splice_eq, -stR_cells, qm, e0, e2, e3, ei, X2, X3, hlt, e0, e2, e3, X2, X3, E0.blk, hlt, E1.blk]
    refine Ret.bind (O.app (L := tNode) (x := nodeZ) (mx := 2932031007317) (S1 := In (dw w).heap.size w1.heap.size) el_41 zz_83 rfl (by decide) (ho.keep (by intro b hS hb; (try dsimp only at hS); (try simp only [In, qz] at hS hb); first | rfl | (simp (disch := first | assumption | ((try simp only [qz, In]) <;> omega) | fail) only [E0.blk, E1.blk, qk]; done))) ((O.node_mk (v := nodeZ) (S2 := fun _ => False) (o1.keep (by intro b hS hb; (try dsimp only at hS); (try simp only [In, qz] at hS hb); first | rfl | (simp (disch := first | assumption | ((try simp only [qz, In]) <;> omega) | fail) only [E0.blk, E1.blk, qk]; done))) O.nil (fun _ _ _ h => h)).wide (by intro b h _; exact h.elim id fun h => h.elim)) (by intro b hb h1 h2; simp only [In, World.size_alloc, size_setRow, dw_size] at *; omega) At.new (by rw [List.length_replicate]; omega) (by decide) (by decide)) ?_
    rintro ⟨_, w2⟩ ⟨a5, c5, rfl, o3, M2⟩
    have zM2 := M2.size
    try simp only [qz] at zM2
    try dsimp only at o3 M2
    have zM2 := M2.size
    simp only [World.size_alloc, size_setRow] at zM2
    rw [rep_app, List.length_replicate] at o3
    rw [List.length_replicate]
    have Y2 : hp w2 g2 = hp w g2 := (M2.blk g2 (by (try simp only [In, qz] at *); omega) (by (try simp only [In, qz] at *); omega)).trans (by first | assumption | rfl | (simp (maxSteps := 1000000) (disch := first | assumption | ((try simp only [qz]) <;> omega) | fail) [-Option.bind_some, qs, e0, e2, e3, X2, X3, E0.blk, hlt, E1.blk, M2.blk]; done))
    have Y3 : hp w2 g3 = hp w g3 := (M2.blk g3 (by (try simp only [In, qz] at *); omega) (by (try simp only [In, qz] at *); omega)).trans (by first | assumption | rfl | (simp (maxSteps := 1000000) (disch := first | assumption | ((try simp only [qz]) <;> omega) | fail) [-Option.bind_some, qs, e0, e2, e3, X2, X3, E0.blk, hlt, E1.blk, M2.blk]; done))
    simp (maxSteps := 1000000) (disch := first | assumption | ((try simp only [qz]) <;> omega) | fail) [-Option.bind_some, qs, -splice_eq, -stR_cells, qm, e0, e2, e3, ei, X2, X3, hlt, Y2, Y3, e0, e2, e3, X2, X3, E0.blk, hlt, E1.blk, M2.blk]
    have E3 : Ext w0 w2 := Mod.after (E0.tr (by (repeat (first | exact Ext.rfl | assumption | (refine Ext.al ?_ _) | (refine Ext.dw ?_) | (refine Ext.set ?_ (by (try simp only [qz]); omega) _) | (refine Ext.tr ?_ (by assumption)))))) M2 (by intro x hx h; (try dsimp only at h); (try simp only [In, qz] at *); omega)
    have zE3 := E3.size
    try simp only [qz] at zE3
    refine Ret.mono (ih (k + 1) _ _ a5 c5 sv (by omega) (by first | omega | assumption | rfl | exact congrArg i64 (by omega) | (simp; done) | (simp; omega)) (by first | omega | assumption | rfl | exact congrArg i64 (by omega) | (simp; done) | (simp; omega)) (by first | omega | assumption | rfl | exact congrArg i64 (by omega) | (simp; done) | (simp; omega)) (by first | omega | assumption | rfl | exact congrArg i64 (by omega) | (simp; done) | (simp; omega)) (by first | assumption | rfl | (simp (maxSteps := 1000000) (disch := first | assumption | ((try simp only [qz]) <;> omega) | fail) [-Option.bind_some, qs, -splice_eq, -stR_cells, qm, Y2, X2, e0, e2, e3, X2, X3, E0.blk, hlt, E1.blk, M2.blk, E3.blk]; done)) (by first | assumption | rfl | (simp (maxSteps := 1000000) (disch := first | assumption | ((try simp only [qz]) <;> omega) | fail) [-Option.bind_some, qs, -splice_eq, -stR_cells, qm, Y3, X3, e0, e2, e3, X2, X3, E0.blk, hlt, E1.blk, M2.blk, E3.blk]; done)) (by (repeat (first | exact Ext.rfl | assumption | (refine Ext.al ?_ _) | (refine Ext.dw ?_) | (refine Ext.set ?_ (by (try simp only [qz]); omega) _) | (refine Ext.tr ?_ (by assumption))))) (by (try simp only [In, qz] at *); omega) (((o3.wide (S' := fun b => In B w2.heap.size b ∧ b ≠ g3) ?_).keep (by intro b hS hb; (try dsimp only at hS); (try simp only [In, qz] at hS hb); first | rfl | (simp (disch := first | assumption | ((try simp only [qz, In]) <;> omega) | fail) only [E0.blk, E1.blk, M2.blk, E3.blk, qk]; done))).wide ?_)) hQ
    · intro b h1 h2
      simp only [In, World.size_alloc, size_setRow, dw_size] at *
      omega
    · intro b h1 h2
      simp only [In, World.size_alloc, size_setRow, dw_size] at *
      omega
theorem spec_ChainNew_n1 {g2 g3 B n : Nat} {w0 : World} (h2 : g2 < B) (h02 : w0.heap.size ≤ g2) (h3 : w0.heap.size ≤ g3) (h23 : g2 ≠ g3) (hn4 : n ≤ 4) :
    ∀ (d k : Nat) (e : Env) (w : World) (a3 : Option Addr) (c3 : Nat) (sv : Value), k + d = n → e 0 = i64 n → e 2 = pt g2 0 → e 3 = pt g3 0 → e 4 = i64 k → hp w g2 = some (.cells #[sv] 43 (0, 0)) → hp w g3 = some (.cells #[.slice a3 k c3] 43 (0, 0)) → Ext w0 w → B ≤ w.heap.size →
    O tNodes (fun b => In B w.heap.size b ∧ b ≠ g3) w [.slice a3 k c3] (List.replicate k nodeZ) →
    Ret (spec_ChainNew_l1 e w) fun r => ∃ a' c', r.1 = .agg #[.slice a' n c'] ∧ O tNodes (In B r.2.heap.size) r.2 [.slice a' n c'] (List.replicate n nodeZ) ∧ Ext w0 r.2 := by
  intro d
  induction d with
  | zero =>
    intro k e w a3 c3 sv hd e0 e2 e3 ei X2 X3 E0 hB ho
    have zE0 := E0.size
    try simp only [qz] at zE0
    rw [spec_ChainNew_l1_eq]
    obtain rfl : k = n := by omega
    refine Ret.post fun Q hQ => ?_
    simp (maxSteps := 1000000) (disch := first | assumption | ((try simp only [qz]) <;> omega) | fail) [-Option.bind_some, qs, -splice_eq, -stR_cells, qm, e0, e2, e3, ei, X2, X3, e0, e2, e3, X2, X3, E0.blk]
    exact hQ _ ⟨_, _, rfl, (ho.keep (by intro b hS hb; (try dsimp only at hS); (try simp only [In, qz] at hS hb); first | rfl | (simp (disch := first | assumption | ((try simp only [qz, In]) <;> omega) | fail) only [E0.blk, qk]; done))).wide (by intro b h1 h2; (try dsimp only at h1); (try simp only [In, qz] at *); omega), by (repeat (first | exact Ext.rfl | assumption | (refine Ext.al ?_ _) | (refine Ext.dw ?_) | (refine Ext.set ?_ (by (try simp only [qz]); omega) _) | (refine Ext.tr ?_ (by assumption))))⟩
  | succ d ih =>
    intro k e w a3 c3 sv hd e0 e2 e3 ei X2 X3 E0 hB ho
    have zE0 := E0.size
    try simp only [qz] at zE0
    rw [spec_ChainNew_l1_eq]
    have hlt : k < n := by omega
    have y2 := hp_lt X2
    have y3 := hp_lt X3
    refine Ret.post fun Q hQ => ?_
    simp (maxSteps := 1000000) (disch := first | assumption | ((try simp only [qz]) <;> omega) | fail) [-Option.bind_some, qs, -splice_eq, -stR_cells, qm, e0, e2, e3, ei, X2, X3, hlt, e0, e2, e3, X2, X3, E0.blk, hlt]
    refine Ret.bind (spec_l2New_n _) ?_
    rintro ⟨_, w1⟩ ⟨a1, c1, rfl, o1, E1⟩
    try dsimp only at a1 c1 o1 E1
    have zE1 := E1.size
    try simp only [qz] at zE1
    simp (maxSteps := 1000000) (disch := first | assumption | ((try simp only [qz]) <;> omega) | fail) [-Option.bind_some, qs, -splice_eq, -stR_cells, qm, e0, e2, e3, ei, X2, X3, hlt, e0, e2, e3, X2, X3, E0.blk, hlt, E1.blk]
    refine Ret.bind (O.app (L := tNode) (x := nodeZ) (mx := 2932031007317) (S1 := In (dw w).heap.size w1.heap.size) el_41 zz_83 rfl (by decide) (ho.keep (by intro b hS hb; (try dsimp only at hS); (try simp only [In, qz] at hS hb); first | rfl | (simp (disch := first | assumption | ((try simp only [qz, In]) <;> omega) | fail) only [E0.blk, E1.blk, qk]; done))) ((O.node_mk (v := nodeZ) (S2 := fun _ => False) (o1.keep (by intro b hS hb; (try dsimp only at hS); (try simp only [In, qz] at hS hb); first | rfl | (simp (disch := first | assumption | ((try simp only [qz, In]) <;> omega) | fail) only [E0.blk, E1.blk, qk]; done))) O.nil (fun _ _ _ h => h)).wide (by intro b h _; exact h.elim id fun h => h.elim)) (by intro b hb h1 h2; simp only [In, World.size_alloc, size_setRow, dw_size] at *; omega) At.new (by rw [List.length_replicate]; omega) (by decide) (by decide)) ?_
    rintro ⟨_, w2⟩ ⟨a5, c5, rfl, o3, M2⟩
    have zM2 := M2.size
    try simp only [qz] at zM2
    try dsimp only at o3 M2
    have zM2 := M2.size
    simp only [World.size_alloc, size_setRow] at zM2
    rw [rep_app, List.length_replicate] at o3
    rw [List.length_replicate]
    have Y2 : hp w2 g2 = hp w g2 := (M2.blk g2 (by (try simp only [In, qz] at *); omega) (by (try simp only [In, qz] at *); omega)).trans (by first | assumption | rfl | (simp (maxSteps := 1000000) (disch := first | assumption | ((try simp only [qz]) <;> omega) | fail) [-Option.bind_some, qs, e0, e2, e3, X2, X3, E0.blk, hlt, E1.blk, M2.blk]; done))
    have Y3 : hp w2 g3 = hp w g3 := (M2.blk g3 (by (try simp only [In, qz] at *); omega) (by (try simp only [In, qz] at *); omega)).trans (by first | assumption | rfl | (simp (maxSteps := 1000000) (disch := first | assumption | ((try simp only [qz]) <;> omega) | fail) [-Option.bind_some, qs, e0, e2, e3, X2, X3, E0.blk, hlt, E1.blk, M2.blk]; done))
    simp (maxSteps := 1000000) (disch := first | assumption | ((try simp only [qz]) <;> omega) | fail) [-Option.bind_some, qs, -splice_eq, -stR_cells, qm, e0, e2, e3, ei, X2, X3, hlt, Y2, Y3, e0, e2, e3, X2, X3, E0.blk, hlt, E1.blk, M2.blk]
    have E3 : Ext w0 w2 := Mod.after (E0.tr (by (repeat (first | exact Ext.rfl | assumption | (refine Ext.al ?_ _) | (refine Ext.dw ?_) | (refine Ext.set ?_ (by (try simp only [qz]); omega) _) | (refine Ext.tr ?_ (by assumption)))))) M2 (by intro x hx h; (try dsimp only at h); (try simp only [In, qz] at *); omega)
    have zE3 := E3.size
    try simp only [qz] at zE3
    refine Ret.mono (ih (k + 1) _ _ a5 c5 sv (by omega) (by first | omega | assumption | rfl | exact congrArg i64 (by omega) | (simp; done) | (simp; omega)) (by first | omega | assumption | rfl | exact congrArg i64 (by omega) | (simp; done) | (simp; omega)) (by first | omega | assumption | rfl | exact congrArg i64 (by omega) | (simp; done) | (simp; omega)) (by first | omega | assumption | rfl | exact congrArg i64 (by omega) | (simp; done) | (simp; omega)) (by first | assumption | rfl | (simp (maxSteps := 1000000) (disch := first | assumption | ((try simp only [qz]) <;> omega) | fail) [-Option.bind_some, qs, -splice_eq, -stR_cells, qm, Y2, X2, e0, e2, e3, X2, X3, E0.blk, hlt, E1.blk, M2.blk, E3.blk]; done)) (by first | assumption | rfl | (simp (maxSteps := 1000000) (disch := first | assumption | ((try simp only [qz]) <;> omega) | fail) [-Option.bind_some, qs, -splice_eq, -stR_cells, qm, Y3, X3, e0, e2, e3, X2, X3, E0.blk, hlt, E1.blk, M2.blk, E3.blk]; done)) (by (repeat (first | exact Ext.rfl | assumption | (refine Ext.al ?_ _) | (refine Ext.dw ?_) | (refine Ext.set ?_ (by (try simp only [qz]); omega) _) | (refine Ext.tr ?_ (by assumption))))) (by (try simp only [In, qz] at *); omega) (((o3.wide (S' := fun b => In B w2.heap.size b ∧ b ≠ g3) ?_).keep (by intro b hS hb; (try dsimp only at hS); (try simp only [In, qz] at hS hb); first | rfl | (simp (disch := first | assumption | ((try simp only [qz, In]) <;> omega) | fail) only [E0.blk, E1.blk, M2.blk, E3.blk, qk]; done))).wide ?_)) hQ
    · intro b h1 h2
      simp only [In, World.size_alloc, size_setRow, dw_size] at *
      omega
    · intro b h1 h2
      simp only [In, World.size_alloc, size_setRow, dw_size] at *
      omega
theorem impl_ChainNew_n (n : Int) {w : World} : Ret (EV P 46 #[i64 n] w) fun r => ∃ a c, r.1 = .agg #[.slice a (chainNewP n).length c] ∧ O tNodes (In w.heap.size r.2.heap.size) r.2 [.slice a (chainNewP n).length c] (chainNewP n) ∧ Ext w r.2 := by
  refine Ret.post fun Q hQ => ?_
  refine Ret.enter plain mixed (impl_ChainNew_fn _ _) (by kernel_rfl) (n := 1) (by kernel_rfl) rfl ?_
  simp (maxSteps := 1000000) (disch := first | assumption | ((try simp only [qz]) <;> omega) | fail) [-Option.bind_some, qs, -splice_eq, -stR_cells, qm]
  refine Ret.bind (impl_nodesOk_c _ _) ?_
  rintro _ rfl
  cases h : (decide (1 ≤ n) && decide (n ≤ 4))
  · have e : chainNewP n = [] := by simp [chainNewP, h]
    rw [e] at hQ
    simp (maxSteps := 1000000) (disch := first | assumption | ((try simp only [qz]) <;> omega) | fail) [-Option.bind_some, qs, -splice_eq, -stR_cells, qm, h]
    exact hQ _ ⟨_, _, rfl, O.nil, by (repeat (first | exact Ext.rfl | assumption | (refine Ext.al ?_ _) | (refine Ext.dw ?_) | (refine Ext.set ?_ (by (try simp only [qz]); omega) _) | (refine Ext.tr ?_ (by assumption))))⟩
  have e : chainNewP n = List.replicate n.toNat nodeZ := by simp [chainNewP, h]
  simp only [Bool.and_eq_true, decide_eq_true_eq] at h
  obtain ⟨m, rfl⟩ : ∃ m : Nat, n = m := ⟨n.toNat, by omega⟩
  rw [e, List.length_replicate, Int.toNat_natCast] at hQ
  simp (maxSteps := 1000000) (disch := first | assumption | ((try simp only [qz]) <;> omega) | fail) [-Option.bind_some, qs, -splice_eq, -stR_cells, qm, show (1 : Int) ≤ m by omega, show (m : Int) ≤ 4 by omega]
  refine Ret.bind (O.make0 (L := tNode) (mx := 2932031007317) el_41 zz_83 rfl (by decide) (by omega) (by decide) (by decide)) ?_
  rintro ⟨_, w1⟩ ⟨rfl, o1, z1, E1⟩
  have zE1 := E1.size
  try simp only [qz] at zE1
  try dsimp only at o1 z1 E1
  simp only [World.size_alloc] at z1 o1
  have X1 := E1.blk (b := w.heap.size) (by simp)
  simp (maxSteps := 1000000) (disch := first | assumption | ((try simp only [qz]) <;> omega) | fail) [-Option.bind_some, qs, -splice_eq, -stR_cells, qm, E1.blk, X1]
  refine Ret.mono (impl_ChainNew_n1 (g2 := w.heap.size) (g3 := w1.heap.size) (B := w.heap.size + 1) (n := m) (w0 := w) (by omega) (by omega) (by omega) (by omega) (by omega) m 0 _ _ _ _ (.slice none 0 0) (by omega) rfl rfl rfl rfl (by first | assumption | rfl | (simp (maxSteps := 1000000) (disch := first | assumption | ((try simp only [qz]) <;> omega) | fail) [-Option.bind_some, qs, -splice_eq, -stR_cells, qm, E1.blk, X1]; done)) (by first | assumption | rfl | (simp (maxSteps := 1000000) (disch := first | assumption | ((try simp only [qz]) <;> omega) | fail) [-Option.bind_some, qs, -splice_eq, -stR_cells, qm, E1.blk, X1]; done)) (by (repeat (first | exact Ext.rfl | assumption | (refine Ext.al ?_ _) | (refine Ext.dw ?_) | (refine Ext.set ?_ (by (try simp only [qz]); omega) _) | (refine Ext.tr ?_ (by assumption))))) (by (try simp only [In, qz] at *); omega) ((o1.keep (by intro b hS hb; (try dsimp only at hS); (try simp only [In, qz] at hS hb); first | rfl | (simp (disch := first | assumption | ((try simp only [qz, In]) <;> omega) | fail) only [E1.blk, qk]; done))).wide ?_)) ?_
  · intro b h1 h2
    simp only [In, World.size_alloc, size_setRow, dw_size] at *
    omega
  · rintro ⟨_, w4⟩ ⟨a4, c4, rfl, o4, E4⟩
    have zE4 := E4.size
    try simp only [qz] at zE4
    exact hQ _ ⟨_, _, rfl, o4.wide (by intro b h1 h2; (try dsimp only at h1); (try simp only [In, qz] at *); omega), E4⟩
theorem spec_ChainNew_n (n : Int) {w : World} : Ret (EV P 44 #[i64 n] w) fun r => ∃ a c, r.1 = .agg #[.slice a (chainNewP n).length c] ∧ O tNodes (In w.heap.size r.2.heap.size) r.2 [.slice a (chainNewP n).length c] (chainNewP n) ∧ Ext w r.2 := by
  refine Ret.post fun Q hQ => ?_
  refine Ret.enter plain mixed (spec_ChainNew_fn _ _) (by kernel_rfl) (n := 1) (by kernel_rfl) rfl ?_
  simp (maxSteps := 1000000) (disch := first | assumption | ((try simp only [qz]) <;> omega) | fail) [-Option.bind_some, qs, -splice_eq, -stR_cells, qm]
  refine Ret.bind (spec_l1In_c _ _ _ _) ?_
  rintro _ rfl
  cases h : (decide (1 ≤ n) && decide (n ≤ 4))
  · have e : chainNewP n = [] := by simp [chainNewP, h]
    rw [e] at hQ
    simp (maxSteps := 1000000) (disch := first | assumption | ((try simp only [qz]) <;> omega) | fail) [-Option.bind_some, qs, -splice_eq, -stR_cells, qm, h]
    exact hQ _ ⟨_, _, rfl, O.nil, by (repeat (first | exact Ext.rfl | assumption | (refine Ext.al ?_ _) | (refine Ext.dw ?_) | (refine Ext.set ?_ (by (try simp only [qz]); omega) _) | (refine Ext.tr ?_ (by assumption))))⟩
  have e : chainNewP n = List.replicate n.toNat nodeZ := by simp [chainNewP, h]
  simp only [Bool.and_eq_true, decide_eq_true_eq] at h
  obtain ⟨m, rfl⟩ : ∃ m : Nat, n = m := ⟨n.toNat, by omega⟩
  rw [e, List.length_replicate, Int.toNat_natCast] at hQ
  simp (maxSteps := 1000000) (disch := first | assumption | ((try simp only [qz]) <;> omega) | fail) [-Option.bind_some, qs, -splice_eq, -stR_cells, qm, show (1 : Int) ≤ m by omega, show (m : Int) ≤ 4 by omega]
  refine Ret.mono (spec_ChainNew_n1 (g2 := w.heap.size) (g3 := w.heap.size + 1) (B := w.heap.size + 1) (n := m) (w0 := w) (by omega) (by omega) (by omega) (by omega) (by omega) m 0 _ _ none 0 (.slice none 0 0) (by omega) rfl rfl rfl rfl (by first | assumption | rfl | (simp (maxSteps := 1000000) (disch := first | assumption | ((try simp only [qz]) <;> omega) | fail) [-Option.bind_some, qs, -splice_eq, -stR_cells, qm]; done)) (by first | assumption | rfl | (simp (maxSteps := 1000000) (disch := first | assumption | ((try simp only [qz]) <;> omega) | fail) [-Option.bind_some, qs, -splice_eq, -stR_cells, qm]; done)) (by (repeat (first | exact Ext.rfl | assumption | (refine Ext.al ?_ _) | (refine Ext.dw ?_) | (refine Ext.set ?_ (by (try simp only [qz]); omega) _) | (refine Ext.tr ?_ (by assumption))))) (by (try simp only [In, qz] at *); omega) O.nil) ?_
  rintro ⟨_, w4⟩ ⟨a4, c4, rfl, o4, E4⟩
  have zE4 := E4.size
  try simp only [qz] at zE4
  exact hQ _ ⟨_, _, rfl, o4.wide (by intro b h1 h2; (try dsimp only at h1); (try simp only [In, qz] at *); omega), E4⟩
theorem wtL_rep {α : Type} {M : Mk α} (x : α) : ∀ n : Nat, M.wtL (List.replicate n x) = n * (1 + M.wt x)
  | 0 => by simp [Mk.wtL]
  | n + 1 => by rw [List.replicate_succ]; simp only [Mk.wtL, wtL_rep x n, Nat.succ_mul]; omega
theorem chainNewP_wt (n : Int) : MChain.wt (chainNewP n) ≤ 1000000000000 := by
  unfold chainNewP
  split
  · rename_i h
    simp only [Bool.and_eq_true, decide_eq_true_eq] at h
    show MNode.wtL _ ≤ _
    rw [wtL_rep]
    have e : MNode.wt nodeZ = 4 := by
      show MVer.wtL (List.replicate 4 verZ) + MVer.wtL [] = 4
      rw [wtL_rep]; rfl
    rw [e]
    have : n.toNat ≤ 4 := by omega
    omega
  · show MNode.wtL [] ≤ _; simp [Mk.wtL]
end Go.Proofs.Ytligcpabhddggaa.X
