/- A part of the proof: an evaluator of the model, its laws, and contracts of functions; no condition. -/
import Derived.Test.YtligcpabhddggaaEvX
import Derived.Test.YtligcpabhddggaaEvV
import Derived.Test.YtligcpabhddggaaEvK
import Derived.Test.YtligcpabhddggaaS26
set_option linter.unusedVariables false
set_option linter.unusedSimpArgs false
set_option maxRecDepth 100000
set_option maxHeartbeats 1000000
namespace Go.Proofs.Ytligcpabhddggaa.X
open Go Go.Ev Go.RowKit
abbrev tVerSS : Lay (List (List Ver)) := LVerSS 54 62 44
abbrev tPlace : Lay PlaceD := LPlace 54 62 83 44
theorem MStore_small : MStore.Small := fun k a => by
  have h := (MStore_le k a).2
  omega
noncomputable def MVerSS : Mk (List (List Ver)) := MStore.list
theorem MVerSS_le (k : Int) (x : List (List Ver)) : k ≤ MVerSS.nx k x ∧ MVerSS.nx k x ≤ k + 10 * MVerSS.wt x := ⟨Mk.nxL_le _ _, Mk.nxL_small MStore_small _ _⟩
theorem laws_eqVerSS_n {a b : Option Addr} {c c' : Nat} {S S' : Nat → Prop} {xs : List (List Ver)} {w0 : World} :
    ∀ (d k : Nat) (e : Env) (w : World), k + d = xs.length → e 0 = .slice a xs.length c → e 1 = .slice b xs.length c' → e 5 = i64 k → D tVerSS S w0 [.slice a xs.length c] xs → D tVerSS S' w0 [.slice b xs.length c'] xs → Ext w0 w →
    Ret (laws_eqVerSS_l1 e w) fun r => r.1 = .bool true ∧ Ext w0 r.2 := by
  intro d
  induction d with
  | zero =>
    intro k e w hd e0 e1 e5 ha hb E0
    have zE0 := E0.size
    try simp only [qz] at zE0
    rw [laws_eqVerSS_l1_eq]
    obtain rfl : k = xs.length := by omega
    refine Ret.post fun Q hQ => ?_
    simp (maxSteps := 1000000) (disch := first | assumption | ((try simp only [qz]) <;> omega) | fail) [-Option.bind_some, qs, -splice_eq, -stR_cells, qm, e0, e1, e5, e0, e1, e5, E0.blk]
    exact hQ _ ⟨rfl, by (repeat (first | exact Ext.rfl | assumption | (refine Ext.al ?_ _) | (refine Ext.dw ?_) | (refine Ext.set ?_ (by (try simp only [qz]); omega) _) | (refine Ext.tr ?_ (by assumption))))⟩
  | succ d ih =>
    intro k e w hd e0 e1 e5 ha hb E0
    have zE0 := E0.size
    try simp only [qz] at zE0
    rw [laws_eqVerSS_l1_eq]
    have hlt : k < xs.length := by omega
    obtain ⟨x, hx, hdx⟩ := drop_at hlt
    have hn := ha.n
    obtain ⟨b1, o1, cs1, rfl, A1, D1, _, l1⟩ := (ha.ext E0).at (by decide) hx
    obtain ⟨a2, c2, rfl, D1⟩ := D1.sl'
    have p0 : cellO (hp w b1) (o1 + k) = some (.slice a2 x.length c2) := by have := A1 0 _ rfl; simpa only [LList_n, Nat.mul_one, Nat.add_zero] using this
    obtain ⟨b2, o2, cs2, rfl, A2, D2, _, l2⟩ := (hb.ext E0).at (by decide) hx
    obtain ⟨a3, c3, rfl, D2⟩ := D2.sl'
    have q0 : cellO (hp w b2) (o2 + k) = some (.slice a3 x.length c3) := by have := A2 0 _ rfl; simpa only [LList_n, Nat.mul_one, Nat.add_zero] using this
    refine Ret.post fun Q hQ => ?_
    simp (maxSteps := 1000000) (disch := first | assumption | ((try simp only [qz]) <;> omega) | fail) [-Option.bind_some, qs, -splice_eq, -stR_cells, qm, e0, e1, e5, hlt, ia_45, p0, q0, e0, e1, e5, E0.blk, hlt]
    refine Ret.bind (laws_eqVerS_m (D1.ext (by (repeat (first | exact Ext.rfl | assumption | (refine Ext.al ?_ _) | (refine Ext.dw ?_) | (refine Ext.set ?_ (by (try simp only [qz]); omega) _) | (refine Ext.tr ?_ (by assumption)))))) (D2.ext (by (repeat (first | exact Ext.rfl | assumption | (refine Ext.al ?_ _) | (refine Ext.dw ?_) | (refine Ext.set ?_ (by (try simp only [qz]); omega) _) | (refine Ext.tr ?_ (by assumption))))))) ?_
    rintro ⟨_, w1⟩ ⟨rfl, E1⟩
    try dsimp only at E1
    have zE1 := E1.size
    try simp only [qz] at zE1
    simp (maxSteps := 1000000) (disch := first | assumption | ((try simp only [qz]) <;> omega) | fail) [-Option.bind_some, qs, -splice_eq, -stR_cells, qm, e0, e1, e5, e0, e1, e5, E0.blk, hlt, E1.blk]
    exact Ret.mono (ih (k + 1) _ _ (by omega) (by first | omega | assumption | rfl | exact congrArg i64 (by omega) | (simp; done) | (simp; omega)) (by first | omega | assumption | rfl | exact congrArg i64 (by omega) | (simp; done) | (simp; omega)) (by first | omega | assumption | rfl | exact congrArg i64 (by omega) | (simp; done) | (simp; omega)) ha hb (by (repeat (first | exact Ext.rfl | assumption | (refine Ext.al ?_ _) | (refine Ext.dw ?_) | (refine Ext.set ?_ (by (try simp only [qz]); omega) _) | (refine Ext.tr ?_ (by assumption)))))) hQ
theorem laws_eqVerSS_m {a b : Option Addr} {n m c c' : Nat} {S S' : Nat → Prop} {xs : List (List Ver)} {w : World} (ha : D tVerSS S w [.slice a n c] xs) (hb : D tVerSS S' w [.slice b m c'] xs) :
    Ret (EV P 49 #[.slice a n c, .slice b m c'] w) fun r => r.1 = .bool true ∧ Ext w r.2 := by
  obtain ⟨rfl, hm, _⟩ := ha.n
  obtain ⟨rfl, hm2, _⟩ := hb.n
  refine Ret.post fun Q hQ => ?_
  refine Ret.enter plain mixed (laws_eqVerSS_fn _ _ _) (by kernel_rfl) (n := 2) (by kernel_rfl) rfl ?_
  simp (maxSteps := 1000000) (disch := first | assumption | ((try simp only [qz]) <;> omega) | fail) [-Option.bind_some, qs, -splice_eq, -stR_cells, qm, bne_self_eq_false]
  refine Ret.mono (laws_eqVerSS_n xs.length 0 _ w (by omega) rfl rfl rfl ha hb Ext.rfl) hQ
theorem laws_markVerSS_n {a : Option Addr} {c : Nat} {S : Nat → Prop} {xs : List (List Ver)} {k0 : Int} (h0 : 0 ≤ k0) (hk : k0 + 10 * MStore.wtL xs ≤ 100000000000000) :
    ∀ (d j : Nat) (e : Env) (w : World), j + d = xs.length → e 0 = .slice a xs.length c → e 1 = i64 (MStore.at k0 xs j) → e 5 = i64 j → O tVerSS S w [.slice a xs.length c] (MStore.part k0 xs j) →
    Ret (laws_markVerSS_l1 e w) fun r => r.1 = i64 (MStore.nxL k0 xs) ∧ O tVerSS S r.2 [.slice a xs.length c] (MStore.mkL k0 xs) ∧ Mod S w r.2 := by
  intro d
  induction d with
  | zero =>
    intro j e w hd e0 e1 e5 ho
    rw [laws_markVerSS_l1_eq]
    obtain rfl : j = xs.length := by omega
    rw [Mk.part_end (Nat.le_refl _)] at ho
    rw [Mk.at_end (Nat.le_refl _)] at e1
    simp (maxSteps := 1000000) (disch := first | assumption | ((try simp only [qz]) <;> omega) | fail) [-Option.bind_some, qs, e0, e1, e5, e0, e1, e5]
    exact ⟨ho, Mod.rfl⟩
  | succ d ih =>
    intro j e w hd e0 e1 e5 ho
    rw [laws_markVerSS_l1_eq]
    have hlt : j < xs.length := by omega
    obtain ⟨x, hx, _⟩ := drop_at hlt
    have hq := Mk.at_small MStore_small xs k0 j
    have hq1 := Mk.at_small MStore_small xs k0 (j + 1)
    have hr : MStore.at k0 xs j + 10 * (1 + (MVer.wtL x : Int)) ≤ k0 + 10 * MStore.wtL xs := Mk.at_room MStore_small hx k0
    have hs : MStore.at k0 xs (j + 1) = MVer.nxL (MStore.at k0 xs j) x := Mk.at_succ hx
    have hp := Mk.part_set (M := MStore) (k := k0) hx
    have hn := ho.n
    obtain ⟨g, cur, cs, S1, rfl, hSg, hgl, hg, hle, hx1, hS1, put⟩ := ho.row (by decide) (Mk.part_get hx)
    obtain ⟨a2, c2, rfl, hp2⟩ := hx1.sl'
    simp only [LList_n] at hg hle put
    have hng2 : ¬ S1 g := fun h => (hS1 g h).2.1 rfl
    generalize MStore.at k0 xs j = q at *
    have hm := MStore_le q x
    have ew1 : MStore.wt x = MVer.wtL x := rfl
    have en1 : MStore.nx q x = MVer.nxL q x := rfl
    rw [Nat.mul_one] at hg hle put
    simp (maxSteps := 1000000) (disch := first | assumption | ((try simp only [qz]) <;> omega) | fail) [-Option.bind_some, qs, -splice_eq, -stR_cells, qm, e0, e1, e5, hlt, ia_45, hg, e0, e1, e5, hlt, hg]
    refine Ret.bind (laws_markVerS_m (by omega) (by omega) hp2) ?_
    rintro ⟨_, w1⟩ ⟨rfl, o1, M1⟩
    try dsimp only at o1 M1
    have zM1 := M1.size
    try simp only [qz] at zM1
    simp (maxSteps := 1000000) (disch := first | assumption | ((try simp only [qz]) <;> omega) | fail) [-Option.bind_some, qs, -splice_eq, -stR_cells, qm, e0, e1, e5, hlt, ia_45, hg, e0, e1, e5, hlt, hg, M1.blk]
    refine Ret.mono (ih (j + 1) _ _ (by omega) (by first | omega | assumption | rfl | exact congrArg i64 (by omega) | (simp; done) | (simp; omega)) (by exact congrArg i64 hs.symm) (by first | omega | assumption | rfl | exact congrArg i64 (by omega) | (simp; done) | (simp; omega)) ?_) ?_
    · rw [← hp]
      have e1 : (MVer.mkL q x).length = x.length := Mk.mkL_length _ _
      refine (put w1 _ (MStore.mk q x) _ o1 ?_ ?_ ?_).wide ?_
      · rw [M1.blk g hgl hng2, hg]
      · intro b h1 h2 h3 h4
        exact M1.blk b h1 h4
      · rintro b _ h
        exact .inl h
      · rintro b (h | h) _
        · exact h
        · exact (hS1 b h).1
    · rintro r ⟨h1, h2, h3⟩
      exact ⟨h1, h2, Mod.tr (Mod.weak M1 fun b _ h => (hS1 b h).1) h3⟩
theorem laws_markVerSS_m {a : Option Addr} {n c : Nat} {S : Nat → Prop} {xs : List (List Ver)} {k : Int} (h0 : 0 ≤ k) (hk : k + 10 * MVerSS.wt xs ≤ 100000000000000) {w : World} (ho : O tVerSS S w [.slice a n c] xs) :
    Ret (EV P 37 #[.slice a n c, i64 k] w) fun r => r.1 = i64 (MVerSS.nx k xs) ∧ O tVerSS S r.2 [.slice a n c] (MVerSS.mk k xs) ∧ Mod S w r.2 := by
  obtain ⟨rfl, _⟩ := ho.n
  refine Ret.enter plain mixed (laws_markVerSS_fn _ _ _) (by kernel_rfl) (n := 2) (by kernel_rfl) rfl ?_
  simp (maxSteps := 1000000) (disch := first | assumption | ((try simp only [qz]) <;> omega) | fail) [-Option.bind_some, qs]
  exact laws_markVerSS_n h0 hk xs.length 0 _ w (by omega) rfl (by rw [Mk.at_zero]; rfl) rfl (by rw [Mk.part_zero]; exact ho)
theorem laws_heldVerSS_n {a : Option Addr} {c : Nat} {S : Nat → Prop} {xs : List (List Ver)} {k0 : Int} (h0 : 0 ≤ k0) (hk : k0 + 10 * MStore.wtL xs ≤ 100000000000000) :
    ∀ (d j : Nat) (e : Env) (w : World), j + d = xs.length → e 0 = .slice a xs.length c → e 1 = i64 (MStore.at k0 xs j) → e 5 = i64 j → D tVerSS S w [.slice a xs.length c] (MStore.mkL k0 xs) →
    Ret (laws_heldVerSS_l1 e w) fun r => r.1 = i64 (MStore.nxL k0 xs) ∧ Ext w r.2 := by
  intro d
  induction d with
  | zero =>
    intro j e w hd e0 e1 e5 ho
    rw [laws_heldVerSS_l1_eq]
    obtain rfl : j = xs.length := by omega
    rw [Mk.at_end (Nat.le_refl _)] at e1
    simp (maxSteps := 1000000) (disch := first | assumption | ((try simp only [qz]) <;> omega) | fail) [-Option.bind_some, qs, e0, e1, e5, e0, e1, e5]
    (repeat (first | exact Ext.rfl | assumption | (refine Ext.al ?_ _) | (refine Ext.dw ?_) | (refine Ext.set ?_ (by (try simp only [qz]); omega) _) | (refine Ext.tr ?_ (by assumption))))
  | succ d ih =>
    intro j e w hd e0 e1 e5 ho
    rw [laws_heldVerSS_l1_eq]
    have hlt : j < xs.length := by omega
    obtain ⟨x, hx, _⟩ := drop_at hlt
    have hq := Mk.at_small MStore_small xs k0 j
    have hq1 := Mk.at_small MStore_small xs k0 (j + 1)
    have hr : MStore.at k0 xs j + 10 * (1 + (MVer.wtL x : Int)) ≤ k0 + 10 * MStore.wtL xs := Mk.at_room MStore_small hx k0
    have hs : MStore.at k0 xs (j + 1) = MVer.nxL (MStore.at k0 xs j) x := Mk.at_succ hx
    have hn := ho.n
    have hx2 := Mk.mkL_get (M := MStore) xs k0 j hx
    generalize MStore.at k0 xs j = q at *
    have hm := MStore_le q x
    have ew1 : MStore.wt x = MVer.wtL x := rfl
    have en1 : MStore.nx q x = MVer.nxL q x := rfl
    obtain ⟨b1, o1, cs1, rfl, A1, D1, _, l1⟩ := ho.at (by decide) hx2
    obtain ⟨a2, c2, rfl, hp2⟩ := D1.sl'
    have p0 : cellO (hp w b1) (o1 + j) = some (.slice a2 (MStore.mk q x).length c2) := by have := A1 0 _ rfl; simpa only [LList_n, Nat.mul_one, Nat.add_zero] using this
    have el : (MStore.mk q x).length = x.length := Mk.mkL_length _ _
    rw [el] at p0 hp2
    simp (maxSteps := 1000000) (disch := first | assumption | ((try simp only [qz]) <;> omega) | fail) [-Option.bind_some, qs, e0, e1, e5, hlt, ia_45, p0, e0, e1, e5, hlt]
    refine Ret.bind (laws_heldVerS_m (by omega) (by omega) hp2) ?_
    rintro ⟨_, w1⟩ ⟨rfl, E1⟩
    try dsimp only at E1
    have zE1 := E1.size
    try simp only [qz] at zE1
    simp (maxSteps := 1000000) (disch := first | assumption | ((try simp only [qz]) <;> omega) | fail) [-Option.bind_some, qs, e0, e1, e5, hlt, ia_45, show ¬ MVer.nxL q x < 0 by omega, e0, e1, e5, hlt, E1.blk]
    refine Ret.mono (ih (j + 1) _ _ (by omega) (by first | omega | assumption | rfl | exact congrArg i64 (by omega) | (simp; done) | (simp; omega)) (by exact congrArg i64 hs.symm) (by first | omega | assumption | rfl | exact congrArg i64 (by omega) | (simp; done) | (simp; omega)) (ho.ext (by (repeat (first | exact Ext.rfl | assumption | (refine Ext.al ?_ _) | (refine Ext.dw ?_) | (refine Ext.set ?_ (by (try simp only [qz]); omega) _) | (refine Ext.tr ?_ (by assumption))))))) ?_
    rintro r ⟨h1, h2⟩
    exact ⟨h1, Ext.tr (by (repeat (first | exact Ext.rfl | assumption | (refine Ext.al ?_ _) | (refine Ext.dw ?_) | (refine Ext.set ?_ (by (try simp only [qz]); omega) _) | (refine Ext.tr ?_ (by assumption))))) h2⟩
theorem laws_heldVerSS_m {a : Option Addr} {n c : Nat} {S : Nat → Prop} {xs : List (List Ver)} {k : Int} (h0 : 0 ≤ k) (hk : k + 10 * MVerSS.wt xs ≤ 100000000000000) {w : World} (ho : D tVerSS S w [.slice a n c] (MVerSS.mk k xs)) :
    Ret (EV P 42 #[.slice a n c, i64 k] w) fun r => r.1 = i64 (MVerSS.nx k xs) ∧ Ext w r.2 := by
  obtain ⟨rfl, _⟩ := ho.n
  have el : (MVerSS.mk k xs).length = xs.length := Mk.mkL_length _ _
  rw [el] at ho ⊢
  refine Ret.enter plain mixed (laws_heldVerSS_fn _ _ _) (by kernel_rfl) (n := 2) (by kernel_rfl) rfl ?_
  simp (maxSteps := 1000000) (disch := first | assumption | ((try simp only [qz]) <;> omega) | fail) [-Option.bind_some, qs]
  exact laws_heldVerSS_n h0 hk xs.length 0 _ w (by omega) rfl (by rw [Mk.at_zero]; rfl) rfl ho
end Go.Proofs.Ytligcpabhddggaa.X
set_option linter.unusedVariables false
set_option linter.unusedSimpArgs false
set_option maxRecDepth 100000
set_option maxHeartbeats 1000000
namespace Go.Proofs.Ytligcpabhddggaa.X
open Go Go.Ev Go.RowKit
theorem laws_eqPlace_m {S S' : Nat → Prop} {cs ds : List Value} {x : PlaceD} {w : World} (ha : D tPlace S w cs x) (hb : D tPlace S' w ds x) : Ret (EV P 31 #[.agg cs.toArray, .agg ds.toArray] w) fun r => r.1 = .bool true ∧ Ext w r.2 := by
  obtain ⟨a, c, a1, c1, a2, c2, rfl, h1, h2, h3⟩ := D.place.1 ha
  obtain ⟨b, d, b1, d1, b2, d2, rfl, h4, h5, h6⟩ := D.place.1 hb
  refine Ret.post fun Q hQ => ?_
  refine Ret.enter plain mixed (laws_eqPlace_fn _ _ _) (by kernel_rfl) (n := 2) (by kernel_rfl) rfl ?_
  simp (maxSteps := 1000000) (disch := first | assumption | ((try simp only [qz]) <;> omega) | fail) [-Option.bind_some, qs, -splice_eq, -stR_cells, qm, bne_self_eq_false]
  refine Ret.bind (laws_eqChain_m (h1.ext (by (repeat (first | exact Ext.rfl | assumption | (refine Ext.al ?_ _) | (refine Ext.dw ?_) | (refine Ext.set ?_ (by (try simp only [qz]); omega) _) | (refine Ext.tr ?_ (by assumption)))))) (h4.ext (by (repeat (first | exact Ext.rfl | assumption | (refine Ext.al ?_ _) | (refine Ext.dw ?_) | (refine Ext.set ?_ (by (try simp only [qz]); omega) _) | (refine Ext.tr ?_ (by assumption))))))) ?_
  rintro ⟨_, w1⟩ ⟨rfl, E1⟩
  try dsimp only at E1
  have zE1 := E1.size
  try simp only [qz] at zE1
  simp (maxSteps := 1000000) (disch := first | assumption | ((try simp only [qz]) <;> omega) | fail) [-Option.bind_some, qs, -splice_eq, -stR_cells, qm, bne_self_eq_false, E1.blk]
  refine Ret.bind (laws_eqVerS_m (h2.ext (by (repeat (first | exact Ext.rfl | assumption | (refine Ext.al ?_ _) | (refine Ext.dw ?_) | (refine Ext.set ?_ (by (try simp only [qz]); omega) _) | (refine Ext.tr ?_ (by assumption)))))) (h5.ext (by (repeat (first | exact Ext.rfl | assumption | (refine Ext.al ?_ _) | (refine Ext.dw ?_) | (refine Ext.set ?_ (by (try simp only [qz]); omega) _) | (refine Ext.tr ?_ (by assumption))))))) ?_
  rintro ⟨_, w2⟩ ⟨rfl, E2⟩
  try dsimp only at E2
  have zE2 := E2.size
  try simp only [qz] at zE2
  simp (maxSteps := 1000000) (disch := first | assumption | ((try simp only [qz]) <;> omega) | fail) [-Option.bind_some, qs, -splice_eq, -stR_cells, qm, bne_self_eq_false, E1.blk, E2.blk]
  refine Ret.bind (laws_eqVerSS_m (h3.ext (by (repeat (first | exact Ext.rfl | assumption | (refine Ext.al ?_ _) | (refine Ext.dw ?_) | (refine Ext.set ?_ (by (try simp only [qz]); omega) _) | (refine Ext.tr ?_ (by assumption)))))) (h6.ext (by (repeat (first | exact Ext.rfl | assumption | (refine Ext.al ?_ _) | (refine Ext.dw ?_) | (refine Ext.set ?_ (by (try simp only [qz]); omega) _) | (refine Ext.tr ?_ (by assumption))))))) ?_
  rintro ⟨_, w3⟩ ⟨rfl, E3⟩
  try dsimp only at E3
  have zE3 := E3.size
  try simp only [qz] at zE3
  simp (maxSteps := 1000000) (disch := first | assumption | ((try simp only [qz]) <;> omega) | fail) [-Option.bind_some, qs, -splice_eq, -stR_cells, qm, bne_self_eq_false, beq_self_eq_true, E1.blk, E2.blk, E3.blk]
  exact hQ _ ⟨rfl, by (repeat (first | exact Ext.rfl | assumption | (refine Ext.al ?_ _) | (refine Ext.dw ?_) | (refine Ext.set ?_ (by (try simp only [qz]); omega) _) | (refine Ext.tr ?_ (by assumption))))⟩
def placeZ : PlaceD := ⟨0, 0, [], [], [], false⟩
def placeNewB (me nodes : Int) : Bool := (decide (0 ≤ me) && decide (me ≤ 2)) && (decide (1 ≤ nodes) && decide (nodes ≤ 4))
def placeNewP (me nodes : Int) : PlaceD := if placeNewB me nodes then ⟨me, 0, chainNewP nodes, [], List.replicate 3 [], false⟩ else placeZ
theorem placeZ_O (w : World) : O tPlace (fun _ => False) w [i64 0, i64 0, .slice none 0 0, .slice none 0 0, .slice none 0 0, .bool false] placeZ :=
  (O.place_mk (p := placeZ) (S1 := fun _ => False) (S2 := fun _ => False) (S3 := fun _ => False) O.nil O.nil O.nil (fun _ _ h => h.elim) (fun _ _ h => h.elim) (fun _ _ h => h.elim)).wide fun b h _ => h.elim id fun h => h.elim id id
theorem spec_l4New_r {me nodes : Int} {g : Nat} {e : Env} {w : World} (hb : placeNewB me nodes = true) (e0 : e 0 = i64 me) (e1 : e 1 = i64 nodes) (e4 : e 4 = pt g 0) (X1 : hp w g = some (.cells #[i64 0, i64 0, .slice none 0 0, .slice none 0 0, .slice none 0 0, .bool false] 47 (0, 0))) :
    Ret (spec_l4New_a1 e w) fun r => ∃ ds, r.1 = .agg ds.toArray ∧ O tPlace (In w.heap.size r.2.heap.size) r.2 ds (placeNewP me nodes) ∧ Mod (fun b => b = g) w r.2 := by
  have ep : placeNewP me nodes = ⟨me, 0, chainNewP nodes, [], List.replicate 3 [], false⟩ := by rw [placeNewP, if_pos hb]
  have y1 := hp_lt X1
  rw [ep]
  refine Ret.post fun Q hQ => ?_
  refine spec_l4New_a1_any _ _ ?_
  simp (maxSteps := 1000000) (disch := first | assumption | ((try simp only [qz]) <;> omega) | fail) [-Option.bind_some, qs, -splice_eq, -stR_cells, qm, e0, e1, e4, X1]
  constructor
  · skip
    refine Ret.mono (spec_ChainNew_n nodes) ?_
    rintro ⟨_, w1⟩ ⟨a1, c1, rfl, o1, E1⟩
    try dsimp only at a1 c1 o1 E1
    have zE1 := E1.size
    try simp only [qz] at zE1
    simp (maxSteps := 1000000) (disch := first | assumption | ((try simp only [qz]) <;> omega) | fail) [-Option.bind_some, qs, -splice_eq, -stR_cells, qm, e0, e1, e4, X1, E1.blk]
    refine Ret.mono (O.make (L := tVers) (mx := 5864062014805) (n := 3) (x0 := ([] : List Ver)) el_45 zz_44 rfl (by decide) (fun w => O.nil) (by decide) (by decide) (by decide)) ?_
    rintro ⟨_, w2⟩ ⟨rfl, o2, z2, E2⟩
    have zE2 := E2.size
    try simp only [qz] at zE2
    try dsimp only at o2 z2 E2
    have Y1 : hp w2 g = hp w g := (E2.blk (by omega)).trans ((E1.blk (by simp only [dw_size]; omega)).trans (hp_dw _ _))
    simp (maxSteps := 1000000) (disch := first | assumption | ((try simp only [qz]) <;> omega) | fail) [-Option.bind_some, qs, -splice_eq, -stR_cells, qm, e0, e1, e4, Y1, X1, spec_l4New_j1_eq, E1.blk, E2.blk]
    refine hQ _ ⟨[_, _, _, _, _, _], rfl, ((O.place_mk (p := ⟨me, 0, chainNewP nodes, [], List.replicate 3 [], false⟩) (S2 := fun _ => False) (o1.keep (fun b hS hb => (hp_set_ne (by simp only [In, dw_size] at hS; omega)).trans (E2.blk hb))) O.nil (o2.keep (fun b hS hb => hp_set_ne (by omega))) (fun _ _ _ h => h) (fun b _ h h' => by simp only [In] at h; omega) (fun _ _ h => h.elim))).wide ?_, (Mod.of (show Ext w w2 from ((dw_ext w).tr E1).tr E2) (fun b => b = g)).set' (.inr rfl) _⟩
    rintro b (h | h | h) hb
    · simp only [In, size_setRow, dw_size] at *
      omega
    · exact h.elim
    · simp only [In, size_setRow, dw_size] at *
      omega
  · skip
    refine Ret.mono (O.make (L := tVers) (mx := 5864062014805) (n := 3) (x0 := ([] : List Ver)) el_45 zz_44 rfl (by decide) (fun w => O.nil) (by decide) (by decide) (by decide)) ?_
    rintro ⟨_, w2⟩ ⟨rfl, o2, z2, E2⟩
    have zE2 := E2.size
    try simp only [qz] at zE2
    try dsimp only at o2 z2 E2
    rw [dw_size] at z2
    simp (maxSteps := 1000000) (disch := first | assumption | ((try simp only [qz]) <;> omega) | fail) [-Option.bind_some, qs, -splice_eq, -stR_cells, qm, e0, e1, e4, X1, E2.blk]
    refine Ret.mono (spec_ChainNew_n nodes) ?_
    rintro ⟨_, w1⟩ ⟨a1, c1, rfl, o1, E1⟩
    try dsimp only at a1 c1 o1 E1
    have zE1 := E1.size
    try simp only [qz] at zE1
    have Y1 : hp w1 g = hp w g := (E1.blk (by omega)).trans ((E2.blk (by simp only [dw_size]; omega)).trans (hp_dw _ _))
    have zE1' := E1.size
    simp (maxSteps := 1000000) (disch := first | assumption | ((try simp only [qz]) <;> omega) | fail) [-Option.bind_some, qs, -splice_eq, -stR_cells, qm, e0, e1, e4, Y1, X1, spec_l4New_j1_eq, E2.blk, E1.blk]
    refine hQ _ ⟨[_, _, _, _, _, _], rfl, ((O.place_mk (p := ⟨me, 0, chainNewP nodes, [], List.replicate 3 [], false⟩) (S2 := fun _ => False) (o1.keep (fun b hS hb => hp_set_ne (by simp only [In] at hS; omega))) O.nil (o2.keep (fun b hS hb => (hp_set_ne (by rw [dw_size] at hS; omega)).trans (E1.blk hb))) (fun _ _ _ h => h) (fun b _ h h' => by rw [dw_size] at h'; simp only [In] at h; omega) (fun _ _ h => h.elim))).wide ?_, (Mod.of (show Ext w w1 from (dw_ext w).tr (E2.tr E1)) (fun b => b = g)).set' (.inr rfl) _⟩
    rintro b (h | h | h) hb
    · simp only [In, size_setRow, dw_size] at *
      omega
    · exact h.elim
    · simp only [In, size_setRow, dw_size] at *
      omega
theorem impl_PlaceNew_r {me nodes : Int} {g : Nat} {e : Env} {w : World} (hb : placeNewB me nodes = true) (e0 : e 0 = i64 me) (e1 : e 1 = i64 nodes) (e4 : e 4 = pt g 0) (X1 : hp w g = some (.cells #[i64 0, i64 0, .slice none 0 0, .slice none 0 0, .slice none 0 0, .bool false] 47 (0, 0))) :
    Ret (impl_PlaceNew_a1 e w) fun r => ∃ ds, r.1 = .agg ds.toArray ∧ O tPlace (In w.heap.size r.2.heap.size) r.2 ds (placeNewP me nodes) ∧ Mod (fun b => b = g) w r.2 := by
  have ep : placeNewP me nodes = ⟨me, 0, chainNewP nodes, [], List.replicate 3 [], false⟩ := by rw [placeNewP, if_pos hb]
  have y1 := hp_lt X1
  rw [ep]
  refine Ret.post fun Q hQ => ?_
  refine impl_PlaceNew_a1_any _ _ ?_
  simp (maxSteps := 1000000) (disch := first | assumption | ((try simp only [qz]) <;> omega) | fail) [-Option.bind_some, qs, -splice_eq, -stR_cells, qm, e0, e1, e4, X1]
  constructor
  · skip
    refine Ret.mono (impl_ChainNew_n nodes) ?_
    rintro ⟨_, w1⟩ ⟨a1, c1, rfl, o1, E1⟩
    try dsimp only at a1 c1 o1 E1
    have zE1 := E1.size
    try simp only [qz] at zE1
    simp (maxSteps := 1000000) (disch := first | assumption | ((try simp only [qz]) <;> omega) | fail) [-Option.bind_some, qs, -splice_eq, -stR_cells, qm, e0, e1, e4, X1, E1.blk]
    refine Ret.mono (O.make (L := tVers) (mx := 5864062014805) (n := 3) (x0 := ([] : List Ver)) el_45 zz_44 rfl (by decide) (fun w => O.nil) (by decide) (by decide) (by decide)) ?_
    rintro ⟨_, w2⟩ ⟨rfl, o2, z2, E2⟩
    have zE2 := E2.size
    try simp only [qz] at zE2
    try dsimp only at o2 z2 E2
    have Y1 : hp w2 g = hp w g := (E2.blk (by omega)).trans ((E1.blk (by simp only [dw_size]; omega)).trans (hp_dw _ _))
    simp (maxSteps := 1000000) (disch := first | assumption | ((try simp only [qz]) <;> omega) | fail) [-Option.bind_some, qs, -splice_eq, -stR_cells, qm, e0, e1, e4, Y1, X1, impl_PlaceNew_j1_eq, E1.blk, E2.blk]
    refine hQ _ ⟨[_, _, _, _, _, _], rfl, ((O.place_mk (p := ⟨me, 0, chainNewP nodes, [], List.replicate 3 [], false⟩) (S2 := fun _ => False) (o1.keep (fun b hS hb => (hp_set_ne (by simp only [In, dw_size] at hS; omega)).trans (E2.blk hb))) O.nil (o2.keep (fun b hS hb => hp_set_ne (by omega))) (fun _ _ _ h => h) (fun b _ h h' => by simp only [In] at h; omega) (fun _ _ h => h.elim))).wide ?_, (Mod.of (show Ext w w2 from ((dw_ext w).tr E1).tr E2) (fun b => b = g)).set' (.inr rfl) _⟩
    rintro b (h | h | h) hb
    · simp only [In, size_setRow, dw_size] at *
      omega
    · exact h.elim
    · simp only [In, size_setRow, dw_size] at *
      omega
  · skip
    refine Ret.mono (O.make (L := tVers) (mx := 5864062014805) (n := 3) (x0 := ([] : List Ver)) el_45 zz_44 rfl (by decide) (fun w => O.nil) (by decide) (by decide) (by decide)) ?_
    rintro ⟨_, w2⟩ ⟨rfl, o2, z2, E2⟩
    have zE2 := E2.size
    try simp only [qz] at zE2
    try dsimp only at o2 z2 E2
    rw [dw_size] at z2
    simp (maxSteps := 1000000) (disch := first | assumption | ((try simp only [qz]) <;> omega) | fail) [-Option.bind_some, qs, -splice_eq, -stR_cells, qm, e0, e1, e4, X1, E2.blk]
    refine Ret.mono (impl_ChainNew_n nodes) ?_
    rintro ⟨_, w1⟩ ⟨a1, c1, rfl, o1, E1⟩
    try dsimp only at a1 c1 o1 E1
    have zE1 := E1.size
    try simp only [qz] at zE1
    have Y1 : hp w1 g = hp w g := (E1.blk (by omega)).trans ((E2.blk (by simp only [dw_size]; omega)).trans (hp_dw _ _))
    have zE1' := E1.size
    simp (maxSteps := 1000000) (disch := first | assumption | ((try simp only [qz]) <;> omega) | fail) [-Option.bind_some, qs, -splice_eq, -stR_cells, qm, e0, e1, e4, Y1, X1, impl_PlaceNew_j1_eq, E2.blk, E1.blk]
    refine hQ _ ⟨[_, _, _, _, _, _], rfl, ((O.place_mk (p := ⟨me, 0, chainNewP nodes, [], List.replicate 3 [], false⟩) (S2 := fun _ => False) (o1.keep (fun b hS hb => hp_set_ne (by simp only [In] at hS; omega))) O.nil (o2.keep (fun b hS hb => (hp_set_ne (by rw [dw_size] at hS; omega)).trans (E1.blk hb))) (fun _ _ _ h => h) (fun b _ h h' => by rw [dw_size] at h'; simp only [In] at h; omega) (fun _ _ h => h.elim))).wide ?_, (Mod.of (show Ext w w1 from (dw_ext w).tr (E2.tr E1)) (fun b => b = g)).set' (.inr rfl) _⟩
    rintro b (h | h | h) hb
    · simp only [In, size_setRow, dw_size] at *
      omega
    · exact h.elim
    · simp only [In, size_setRow, dw_size] at *
      omega
theorem spec_l4New_n (me nodes : Int) (hb : placeNewB me nodes = true) {w : World} : Ret (EV P 25 #[i64 me, i64 nodes] w) fun r => ∃ ds, r.1 = .agg ds.toArray ∧ O tPlace (In w.heap.size r.2.heap.size) r.2 ds (placeNewP me nodes) ∧ Ext w r.2 := by
  refine Ret.post fun Q hQ => ?_
  refine Ret.enter plain mixed (spec_l4New_fn _ _ _) (by kernel_rfl) (n := 2) (by kernel_rfl) rfl ?_
  simp (maxSteps := 1000000) (disch := first | assumption | ((try simp only [qz]) <;> omega) | fail) [-Option.bind_some, qs, -splice_eq, -stR_cells, qm]
  refine Ret.mono (spec_l4New_r (g := w.heap.size) hb rfl rfl rfl (by first | assumption | rfl | (simp (maxSteps := 1000000) (disch := first | assumption | ((try simp only [qz]) <;> omega) | fail) [-Option.bind_some, qs, -splice_eq, -stR_cells, qm]; done))) ?_
  rintro r ⟨ds, h1, h2, h3⟩
  exact hQ _ ⟨ds, h1, h2.wide (fun b h _ => by simp only [In, World.size_alloc] at h; simp only [In]; omega), Mod.after (by (repeat (first | exact Ext.rfl | assumption | (refine Ext.al ?_ _) | (refine Ext.dw ?_) | (refine Ext.set ?_ (by (try simp only [qz]); omega) _) | (refine Ext.tr ?_ (by assumption))))) h3 (fun b h1 h2 => by have h2 : b = w.heap.size := h2; omega)⟩
theorem impl_PlaceNew_n (me nodes : Int) {w : World} : Ret (EV P 29 #[i64 me, i64 nodes] w) fun r => ∃ ds, r.1 = .agg ds.toArray ∧ O tPlace (In w.heap.size r.2.heap.size) r.2 ds (placeNewP me nodes) ∧ Ext w r.2 := by
  refine Ret.post fun Q hQ => ?_
  have neg : placeNewB me nodes = false → placeNewP me nodes = placeZ := fun h => by rw [placeNewP, h]; rfl
  refine Ret.enter plain mixed (impl_PlaceNew_fn _ _ _) (by kernel_rfl) (n := 2) (by kernel_rfl) rfl ?_
  simp (maxSteps := 1000000) (disch := first | assumption | ((try simp only [qz]) <;> omega) | fail) [-Option.bind_some, qs, -splice_eq, -stR_cells, qm]
  refine Ret.bind (impl_placeOk_c _ _) ?_
  rintro _ rfl
  cases h1 : (decide (0 ≤ me) && decide (me ≤ 2))
  · have hb : placeNewB me nodes = false := by rw [placeNewB, h1]; rfl
    rw [neg hb] at hQ
    simp (maxSteps := 1000000) (disch := first | assumption | ((try simp only [qz]) <;> omega) | fail) [-Option.bind_some, qs, -splice_eq, -stR_cells, qm]
    exact hQ _ ⟨[_, _, _, _, _, _], rfl, (placeZ_O _).wide fun b h _ => h.elim, by (repeat (first | exact Ext.rfl | assumption | (refine Ext.al ?_ _) | (refine Ext.dw ?_) | (refine Ext.set ?_ (by (try simp only [qz]); omega) _) | (refine Ext.tr ?_ (by assumption))))⟩
  simp (maxSteps := 1000000) (disch := first | assumption | ((try simp only [qz]) <;> omega) | fail) [-Option.bind_some, qs, -splice_eq, -stR_cells, qm]
  refine Ret.bind (impl_nodesOk_c _ _) ?_
  rintro _ rfl
  cases h2 : (decide (1 ≤ nodes) && decide (nodes ≤ 4))
  · have hb : placeNewB me nodes = false := by rw [placeNewB, h2, Bool.and_false]
    rw [neg hb] at hQ
    simp (maxSteps := 1000000) (disch := first | assumption | ((try simp only [qz]) <;> omega) | fail) [-Option.bind_some, qs, -splice_eq, -stR_cells, qm]
    exact hQ _ ⟨[_, _, _, _, _, _], rfl, (placeZ_O _).wide fun b h _ => h.elim, by (repeat (first | exact Ext.rfl | assumption | (refine Ext.al ?_ _) | (refine Ext.dw ?_) | (refine Ext.set ?_ (by (try simp only [qz]); omega) _) | (refine Ext.tr ?_ (by assumption))))⟩
  have hb : placeNewB me nodes = true := by rw [placeNewB, h1, h2]; rfl
  simp (maxSteps := 1000000) (disch := first | assumption | ((try simp only [qz]) <;> omega) | fail) [-Option.bind_some, qs, -splice_eq, -stR_cells, qm]
  refine Ret.mono (impl_PlaceNew_r (me := me) (nodes := nodes) (g := w.heap.size) hb rfl rfl rfl (by first | assumption | rfl | (simp (maxSteps := 1000000) (disch := first | assumption | ((try simp only [qz]) <;> omega) | fail) [-Option.bind_some, qs, -splice_eq, -stR_cells, qm]; done))) ?_
  rintro r ⟨ds, h1, h2, h3⟩
  exact hQ _ ⟨ds, h1, h2.wide (fun b h _ => by simp only [In, World.size_alloc] at h; simp only [In]; omega), Mod.after (by (repeat (first | exact Ext.rfl | assumption | (refine Ext.al ?_ _) | (refine Ext.dw ?_) | (refine Ext.set ?_ (by (try simp only [qz]); omega) _) | (refine Ext.tr ?_ (by assumption))))) h3 (fun b h1 h2 => by have h2 : b = w.heap.size := h2; omega)⟩
end Go.Proofs.Ytligcpabhddggaa.X
