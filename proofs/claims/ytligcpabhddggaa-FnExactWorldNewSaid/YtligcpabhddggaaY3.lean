/- A part of the proof: an evaluator of the model, its laws, and contracts of functions; no condition. -/
import Derived.Test.YtligcpabhddggaaEvWo
import Derived.Test.YtligcpabhddggaaS41
set_option linter.unusedVariables false
set_option linter.unusedSimpArgs false
set_option maxRecDepth 100000
set_option maxHeartbeats 1000000
namespace Go.Proofs.Ytligcpabhddggaa.X
open Go Go.Ev Go.RowKit
abbrev tPs : Lay (List PlaceD) := LPlaces 54 62 83 44 47
abbrev tSe : Lay SessD := LSess 54
abbrev tSs : Lay (List SessD) := LSesss 54 56
abbrev tWo : Lay WorldD := LWorld 54 62 83 44 47 56 64 67
theorem laws_eqPlaceS_n {a b : Option Addr} {c c' : Nat} {S S' : Nat → Prop} {xs : List PlaceD} {w0 : World} :
    ∀ (d k : Nat) (e : Env) (w : World), k + d = xs.length → e 0 = .slice a xs.length c → e 1 = .slice b xs.length c' → e 5 = i64 k → D tPs S w0 [.slice a xs.length c] xs → D tPs S' w0 [.slice b xs.length c'] xs → Ext w0 w →
    Ret (laws_eqPlaceS_l1 e w) fun r => r.1 = .bool true ∧ Ext w0 r.2 := by
  intro d
  induction d with
  | zero =>
    intro k e w hd e0 e1 e5 ha hb E0
    have zE0 := E0.size
    try simp only [qz] at zE0
    rw [laws_eqPlaceS_l1_eq]
    obtain rfl : k = xs.length := by omega
    refine Ret.post fun Q hQ => ?_
    simp (maxSteps := 1000000) (disch := first | assumption | ((try simp only [qz]) <;> omega) | fail) [-Option.bind_some, qs, -splice_eq, -stR_cells, qm, e0, e1, e5, e0, e1, e5, E0.blk]
    exact hQ _ ⟨rfl, by (repeat (first | exact Ext.rfl | assumption | (refine Ext.al ?_ _) | (refine Ext.dw ?_) | (refine Ext.set ?_ (by (try simp only [qz]); omega) _) | (refine Ext.tr ?_ (by assumption))))⟩
  | succ d ih =>
    intro k e w hd e0 e1 e5 ha hb E0
    have zE0 := E0.size
    try simp only [qz] at zE0
    rw [laws_eqPlaceS_l1_eq]
    have hlt : k < xs.length := by omega
    obtain ⟨x, hx, hdx⟩ := drop_at hlt
    have hn := ha.n
    obtain ⟨b1, o1, cs1, rfl, A1, D1, _, l1⟩ := (ha.ext E0).at (by decide) hx
    obtain ⟨b2, o2, cs2, rfl, A2, D2, _, l2⟩ := (hb.ext E0).at (by decide) hx
    have D1' := D1
    have D2' := D2
    obtain ⟨a1, c1, a2, c2, a3, c3, rfl, _, _, _⟩ := D.place.1 D1'
    obtain ⟨a4, c4, a5, c5, a6, c6, rfl, _, _, _⟩ := D.place.1 D2'
    simp only [LPlace_n] at A1 A2
    have p0 := A1 0 _ rfl
    have p1 := A1 1 _ rfl
    have p2 := A1 2 _ rfl
    have p3 := A1 3 _ rfl
    have p4 := A1 4 _ rfl
    have p5 := A1 5 _ rfl
    simp only [LVer_n, LTag_n, LNode_n, Nat.add_zero] at p0 p1 p2 p3 p4 p5
    have q0 := A2 0 _ rfl
    have q1 := A2 1 _ rfl
    have q2 := A2 2 _ rfl
    have q3 := A2 3 _ rfl
    have q4 := A2 4 _ rfl
    have q5 := A2 5 _ rfl
    simp only [LVer_n, LTag_n, LNode_n, Nat.add_zero] at q0 q1 q2 q3 q4 q5
    refine Ret.post fun Q hQ => ?_
    simp (maxSteps := 1000000) (disch := first | assumption | ((try simp only [qz]) <;> omega) | fail) [-Option.bind_some, qs, -splice_eq, -stR_cells, qm, e0, e1, e5, hlt, ia_22, e0, e1, e5, E0.blk, hlt, p0, p1, p2, p3, p4, p5, q0, q1, q2, q3, q4, q5]
    refine Ret.bind (laws_eqPlace_m (D1.ext (by (repeat (first | exact Ext.rfl | assumption | (refine Ext.al ?_ _) | (refine Ext.dw ?_) | (refine Ext.set ?_ (by (try simp only [qz]); omega) _) | (refine Ext.tr ?_ (by assumption)))))) (D2.ext (by (repeat (first | exact Ext.rfl | assumption | (refine Ext.al ?_ _) | (refine Ext.dw ?_) | (refine Ext.set ?_ (by (try simp only [qz]); omega) _) | (refine Ext.tr ?_ (by assumption))))))) ?_
    rintro ⟨_, w1⟩ ⟨rfl, E1⟩
    try dsimp only at E1
    have zE1 := E1.size
    try simp only [qz] at zE1
    simp (maxSteps := 1000000) (disch := first | assumption | ((try simp only [qz]) <;> omega) | fail) [-Option.bind_some, qs, -splice_eq, -stR_cells, qm, e0, e1, e5, e0, e1, e5, E0.blk, hlt, p0, p1, p2, p3, p4, p5, q0, q1, q2, q3, q4, q5, E1.blk]
    exact Ret.mono (ih (k + 1) _ _ (by omega) (by first | omega | assumption | rfl | exact congrArg i64 (by omega) | (simp; done) | (simp; omega)) (by first | omega | assumption | rfl | exact congrArg i64 (by omega) | (simp; done) | (simp; omega)) (by first | omega | assumption | rfl | exact congrArg i64 (by omega) | (simp; done) | (simp; omega)) ha hb (by (repeat (first | exact Ext.rfl | assumption | (refine Ext.al ?_ _) | (refine Ext.dw ?_) | (refine Ext.set ?_ (by (try simp only [qz]); omega) _) | (refine Ext.tr ?_ (by assumption)))))) hQ
theorem laws_eqPlaceS_m {a b : Option Addr} {n m c c' : Nat} {S S' : Nat → Prop} {xs : List PlaceD} {w : World} (ha : D tPs S w [.slice a n c] xs) (hb : D tPs S' w [.slice b m c'] xs) :
    Ret (EV P 13 #[.slice a n c, .slice b m c'] w) fun r => r.1 = .bool true ∧ Ext w r.2 := by
  obtain ⟨rfl, hm, _⟩ := ha.n
  obtain ⟨rfl, hm2, _⟩ := hb.n
  refine Ret.post fun Q hQ => ?_
  refine Ret.enter plain mixed (laws_eqPlaceS_fn _ _ _) (by kernel_rfl) (n := 2) (by kernel_rfl) rfl ?_
  simp (maxSteps := 1000000) (disch := first | assumption | ((try simp only [qz]) <;> omega) | fail) [-Option.bind_some, qs, -splice_eq, -stR_cells, qm, bne_self_eq_false]
  refine Ret.mono (laws_eqPlaceS_n xs.length 0 _ w (by omega) rfl rfl rfl ha hb Ext.rfl) hQ
theorem laws_eqSess_m {S S' : Nat → Prop} {cs ds : List Value} {x : SessD} {w : World} (ha : D tSe S w cs x) (hb : D tSe S' w ds x) : Ret (EV P 32 #[.agg cs.toArray, .agg ds.toArray] w) fun r => r.1 = .bool true ∧ Ext w r.2 := by
  obtain ⟨a, c, rfl, h1⟩ := D.sess.1 ha
  obtain ⟨b, d, rfl, h2⟩ := D.sess.1 hb
  refine Ret.post fun Q hQ => ?_
  refine Ret.enter plain mixed (laws_eqSess_fn _ _ _) (by kernel_rfl) (n := 2) (by kernel_rfl) rfl ?_
  simp (maxSteps := 1000000) (disch := first | assumption | ((try simp only [qz]) <;> omega) | fail) [-Option.bind_some, qs, -splice_eq, -stR_cells, qm, bne_self_eq_false]
  refine Ret.bind (laws_eqPast_m (h1.ext (by (repeat (first | exact Ext.rfl | assumption | (refine Ext.al ?_ _) | (refine Ext.dw ?_) | (refine Ext.set ?_ (by (try simp only [qz]); omega) _) | (refine Ext.tr ?_ (by assumption)))))) (h2.ext (by (repeat (first | exact Ext.rfl | assumption | (refine Ext.al ?_ _) | (refine Ext.dw ?_) | (refine Ext.set ?_ (by (try simp only [qz]); omega) _) | (refine Ext.tr ?_ (by assumption))))))) ?_
  rintro ⟨_, w1⟩ ⟨rfl, E1⟩
  try dsimp only at E1
  have zE1 := E1.size
  try simp only [qz] at zE1
  simp (maxSteps := 1000000) (disch := first | assumption | ((try simp only [qz]) <;> omega) | fail) [-Option.bind_some, qs, -splice_eq, -stR_cells, qm, bne_self_eq_false, E1.blk]
  refine Ret.bind (laws_eqTag_c x.wait x.wait _) ?_
  rintro ⟨_, w2⟩ ⟨rfl, E2⟩
  have zE2 := E2.size
  try simp only [qz] at zE2
  try dsimp only at E2
  rw [decide_eq_true rfl]
  simp (maxSteps := 1000000) (disch := first | assumption | ((try simp only [qz]) <;> omega) | fail) [-Option.bind_some, qs, -splice_eq, -stR_cells, qm, bne_self_eq_false, E1.blk, E2.blk]
  exact hQ _ ⟨rfl, by (repeat (first | exact Ext.rfl | assumption | (refine Ext.al ?_ _) | (refine Ext.dw ?_) | (refine Ext.set ?_ (by (try simp only [qz]); omega) _) | (refine Ext.tr ?_ (by assumption))))⟩
theorem laws_eqSessS_n {a b : Option Addr} {c c' : Nat} {S S' : Nat → Prop} {xs : List SessD} {w0 : World} :
    ∀ (d k : Nat) (e : Env) (w : World), k + d = xs.length → e 0 = .slice a xs.length c → e 1 = .slice b xs.length c' → e 5 = i64 k → D tSs S w0 [.slice a xs.length c] xs → D tSs S' w0 [.slice b xs.length c'] xs → Ext w0 w →
    Ret (laws_eqSessS_l1 e w) fun r => r.1 = .bool true ∧ Ext w0 r.2 := by
  intro d
  induction d with
  | zero =>
    intro k e w hd e0 e1 e5 ha hb E0
    have zE0 := E0.size
    try simp only [qz] at zE0
    rw [laws_eqSessS_l1_eq]
    obtain rfl : k = xs.length := by omega
    refine Ret.post fun Q hQ => ?_
    simp (maxSteps := 1000000) (disch := first | assumption | ((try simp only [qz]) <;> omega) | fail) [-Option.bind_some, qs, -splice_eq, -stR_cells, qm, e0, e1, e5, e0, e1, e5, E0.blk]
    exact hQ _ ⟨rfl, by (repeat (first | exact Ext.rfl | assumption | (refine Ext.al ?_ _) | (refine Ext.dw ?_) | (refine Ext.set ?_ (by (try simp only [qz]); omega) _) | (refine Ext.tr ?_ (by assumption))))⟩
  | succ d ih =>
    intro k e w hd e0 e1 e5 ha hb E0
    have zE0 := E0.size
    try simp only [qz] at zE0
    rw [laws_eqSessS_l1_eq]
    have hlt : k < xs.length := by omega
    obtain ⟨x, hx, hdx⟩ := drop_at hlt
    have hn := ha.n
    obtain ⟨b1, o1, cs1, rfl, A1, D1, _, l1⟩ := (ha.ext E0).at (by decide) hx
    obtain ⟨b2, o2, cs2, rfl, A2, D2, _, l2⟩ := (hb.ext E0).at (by decide) hx
    have D1' := D1
    have D2' := D2
    obtain ⟨a1, c1, rfl, _⟩ := D.sess.1 D1'
    obtain ⟨a4, c4, rfl, _⟩ := D.sess.1 D2'
    simp only [LSess_n] at A1 A2
    have p0 := A1 0 _ rfl
    have p1 := A1 1 _ rfl
    have p2 := A1 2 _ rfl
    have p3 := A1 3 _ rfl
    have p4 := A1 4 _ rfl
    simp only [LVer_n, LTag_n, LNode_n, Nat.add_zero] at p0 p1 p2 p3 p4
    have q0 := A2 0 _ rfl
    have q1 := A2 1 _ rfl
    have q2 := A2 2 _ rfl
    have q3 := A2 3 _ rfl
    have q4 := A2 4 _ rfl
    simp only [LVer_n, LTag_n, LNode_n, Nat.add_zero] at q0 q1 q2 q3 q4
    refine Ret.post fun Q hQ => ?_
    simp (maxSteps := 1000000) (disch := first | assumption | ((try simp only [qz]) <;> omega) | fail) [-Option.bind_some, qs, -splice_eq, -stR_cells, qm, e0, e1, e5, hlt, ia_23, e0, e1, e5, E0.blk, hlt, p0, p1, p2, p3, p4, q0, q1, q2, q3, q4]
    refine Ret.bind (laws_eqSess_m (D1.ext (by (repeat (first | exact Ext.rfl | assumption | (refine Ext.al ?_ _) | (refine Ext.dw ?_) | (refine Ext.set ?_ (by (try simp only [qz]); omega) _) | (refine Ext.tr ?_ (by assumption)))))) (D2.ext (by (repeat (first | exact Ext.rfl | assumption | (refine Ext.al ?_ _) | (refine Ext.dw ?_) | (refine Ext.set ?_ (by (try simp only [qz]); omega) _) | (refine Ext.tr ?_ (by assumption))))))) ?_
    rintro ⟨_, w1⟩ ⟨rfl, E1⟩
    try dsimp only at E1
    have zE1 := E1.size
    try simp only [qz] at zE1
    simp (maxSteps := 1000000) (disch := first | assumption | ((try simp only [qz]) <;> omega) | fail) [-Option.bind_some, qs, -splice_eq, -stR_cells, qm, e0, e1, e5, e0, e1, e5, E0.blk, hlt, p0, p1, p2, p3, p4, q0, q1, q2, q3, q4, E1.blk]
    exact Ret.mono (ih (k + 1) _ _ (by omega) (by first | omega | assumption | rfl | exact congrArg i64 (by omega) | (simp; done) | (simp; omega)) (by first | omega | assumption | rfl | exact congrArg i64 (by omega) | (simp; done) | (simp; omega)) (by first | omega | assumption | rfl | exact congrArg i64 (by omega) | (simp; done) | (simp; omega)) ha hb (by (repeat (first | exact Ext.rfl | assumption | (refine Ext.al ?_ _) | (refine Ext.dw ?_) | (refine Ext.set ?_ (by (try simp only [qz]); omega) _) | (refine Ext.tr ?_ (by assumption)))))) hQ
theorem laws_eqSessS_m {a b : Option Addr} {n m c c' : Nat} {S S' : Nat → Prop} {xs : List SessD} {w : World} (ha : D tSs S w [.slice a n c] xs) (hb : D tSs S' w [.slice b m c'] xs) :
    Ret (EV P 14 #[.slice a n c, .slice b m c'] w) fun r => r.1 = .bool true ∧ Ext w r.2 := by
  obtain ⟨rfl, hm, _⟩ := ha.n
  obtain ⟨rfl, hm2, _⟩ := hb.n
  refine Ret.post fun Q hQ => ?_
  refine Ret.enter plain mixed (laws_eqSessS_fn _ _ _) (by kernel_rfl) (n := 2) (by kernel_rfl) rfl ?_
  simp (maxSteps := 1000000) (disch := first | assumption | ((try simp only [qz]) <;> omega) | fail) [-Option.bind_some, qs, -splice_eq, -stR_cells, qm, bne_self_eq_false]
  refine Ret.mono (laws_eqSessS_n xs.length 0 _ w (by omega) rfl rfl rfl ha hb Ext.rfl) hQ
theorem laws_eqFrameS_z {a b : Option Addr} {c d : Nat} {w : World} : Ret (EV P 15 #[.slice a 0 c, .slice b 0 d] w) fun r => r.1 = .bool true ∧ Ext w r.2 := by
  refine Ret.post fun Q hQ => ?_
  refine Ret.enter plain mixed (laws_eqFrameS_fn _ _ _) (by kernel_rfl) (n := 2) (by kernel_rfl) rfl ?_
  simp (maxSteps := 1000000) (disch := first | assumption | ((try simp only [qz]) <;> omega) | fail) [-Option.bind_some, qs, -splice_eq, -stR_cells, qm, bne_self_eq_false]
  rw [laws_eqFrameS_l1_eq]
  simp (maxSteps := 1000000) (disch := first | assumption | ((try simp only [qz]) <;> omega) | fail) [-Option.bind_some, qs, -splice_eq, -stR_cells, qm]
  exact hQ _ ⟨rfl, by (repeat (first | exact Ext.rfl | assumption | (refine Ext.al ?_ _) | (refine Ext.dw ?_) | (refine Ext.set ?_ (by (try simp only [qz]); omega) _) | (refine Ext.tr ?_ (by assumption))))⟩
theorem laws_eqDoneS_z {a b : Option Addr} {c d : Nat} {w : World} : Ret (EV P 16 #[.slice a 0 c, .slice b 0 d] w) fun r => r.1 = .bool true ∧ Ext w r.2 := by
  refine Ret.post fun Q hQ => ?_
  refine Ret.enter plain mixed (laws_eqDoneS_fn _ _ _) (by kernel_rfl) (n := 2) (by kernel_rfl) rfl ?_
  simp (maxSteps := 1000000) (disch := first | assumption | ((try simp only [qz]) <;> omega) | fail) [-Option.bind_some, qs, -splice_eq, -stR_cells, qm, bne_self_eq_false]
  rw [laws_eqDoneS_l1_eq]
  simp (maxSteps := 1000000) (disch := first | assumption | ((try simp only [qz]) <;> omega) | fail) [-Option.bind_some, qs, -splice_eq, -stR_cells, qm]
  exact hQ _ ⟨rfl, by (repeat (first | exact Ext.rfl | assumption | (refine Ext.al ?_ _) | (refine Ext.dw ?_) | (refine Ext.set ?_ (by (try simp only [qz]); omega) _) | (refine Ext.tr ?_ (by assumption))))⟩
theorem laws_eqWorld_z {S S' : Nat → Prop} {cs ds : List Value} {ps : List PlaceD} {ss : List SessD} {w : World} (ha : D tWo S w cs ⟨ps, ss, [], []⟩) (hb : D tWo S' w ds ⟨ps, ss, [], []⟩) : Ret (EV P 6 #[.agg cs.toArray, .agg ds.toArray] w) fun r => r.1 = .bool true ∧ Ext w r.2 := by
  obtain ⟨a, c, a1, c1, a2, c2, a3, c3, rfl, h1, h2, _, _⟩ := D.world.1 ha
  obtain ⟨b, d, b1, d1, b2, d2, b3, d3, rfl, h3, h4, _, _⟩ := D.world.1 hb
  refine Ret.post fun Q hQ => ?_
  refine Ret.enter plain mixed (laws_eqWorld_fn _ _ _) (by kernel_rfl) (n := 2) (by kernel_rfl) rfl ?_
  simp (maxSteps := 1000000) (disch := first | assumption | ((try simp only [qz]) <;> omega) | fail) [-Option.bind_some, qs, -splice_eq, -stR_cells, qm]
  refine Ret.bind (laws_eqPlaceS_m (h1.ext (by (repeat (first | exact Ext.rfl | assumption | (refine Ext.al ?_ _) | (refine Ext.dw ?_) | (refine Ext.set ?_ (by (try simp only [qz]); omega) _) | (refine Ext.tr ?_ (by assumption)))))) (h3.ext (by (repeat (first | exact Ext.rfl | assumption | (refine Ext.al ?_ _) | (refine Ext.dw ?_) | (refine Ext.set ?_ (by (try simp only [qz]); omega) _) | (refine Ext.tr ?_ (by assumption))))))) ?_
  rintro ⟨_, w1⟩ ⟨rfl, E1⟩
  try dsimp only at E1
  have zE1 := E1.size
  try simp only [qz] at zE1
  simp (maxSteps := 1000000) (disch := first | assumption | ((try simp only [qz]) <;> omega) | fail) [-Option.bind_some, qs, -splice_eq, -stR_cells, qm, E1.blk]
  refine Ret.bind (laws_eqSessS_m (h2.ext (by (repeat (first | exact Ext.rfl | assumption | (refine Ext.al ?_ _) | (refine Ext.dw ?_) | (refine Ext.set ?_ (by (try simp only [qz]); omega) _) | (refine Ext.tr ?_ (by assumption)))))) (h4.ext (by (repeat (first | exact Ext.rfl | assumption | (refine Ext.al ?_ _) | (refine Ext.dw ?_) | (refine Ext.set ?_ (by (try simp only [qz]); omega) _) | (refine Ext.tr ?_ (by assumption))))))) ?_
  rintro ⟨_, w2⟩ ⟨rfl, E2⟩
  try dsimp only at E2
  have zE2 := E2.size
  try simp only [qz] at zE2
  simp (maxSteps := 1000000) (disch := first | assumption | ((try simp only [qz]) <;> omega) | fail) [-Option.bind_some, qs, -splice_eq, -stR_cells, qm, E1.blk, E2.blk]
  refine Ret.bind (laws_eqFrameS_z) ?_
  rintro ⟨_, w3⟩ ⟨rfl, E3⟩
  try dsimp only at E3
  have zE3 := E3.size
  try simp only [qz] at zE3
  simp (maxSteps := 1000000) (disch := first | assumption | ((try simp only [qz]) <;> omega) | fail) [-Option.bind_some, qs, -splice_eq, -stR_cells, qm, E1.blk, E2.blk, E3.blk]
  refine Ret.bind (laws_eqDoneS_z) ?_
  rintro ⟨_, w4⟩ ⟨rfl, E4⟩
  try dsimp only at E4
  have zE4 := E4.size
  try simp only [qz] at zE4
  simp (maxSteps := 1000000) (disch := first | assumption | ((try simp only [qz]) <;> omega) | fail) [-Option.bind_some, qs, -splice_eq, -stR_cells, qm, E1.blk, E2.blk, E3.blk, E4.blk]
  exact hQ _ ⟨rfl, by (repeat (first | exact Ext.rfl | assumption | (refine Ext.al ?_ _) | (refine Ext.dw ?_) | (refine Ext.set ?_ (by (try simp only [qz]); omega) _) | (refine Ext.tr ?_ (by assumption))))⟩
end Go.Proofs.Ytligcpabhddggaa.X
set_option linter.unusedVariables false
set_option linter.unusedSimpArgs false
set_option maxRecDepth 100000
set_option maxHeartbeats 1000000
namespace Go.Proofs.Ytligcpabhddggaa.X
open Go Go.Ev Go.RowKit
noncomputable def MPlc : Mk PlaceD := ⟨fun k p => ⟨k, k + 1, MChain.mk (k + 1 + 1) p.chain, MStore.mk (MChain.nx (k + 1 + 1) p.chain) p.log, MVerSS.mk (MStore.nx (MChain.nx (k + 1 + 1) p.chain) p.log) p.got, (MVerSS.nx (MStore.nx (MChain.nx (k + 1 + 1) p.chain) p.log) p.got).tmod 3 == 0⟩,
  fun k p => MVerSS.nx (MStore.nx (MChain.nx (k + 1 + 1) p.chain) p.log) p.got + 1, fun p => MChain.wt p.chain + MStore.wt p.log + MVerSS.wt p.got, fun k p => Int.le_trans (by omega) (Int.le_trans (Int.le_trans (MChain_le (k + 1 + 1) p.chain).1 (Int.le_trans (MStore_le _ p.log).1 (MVerSS_le _ p.got).1)) (show MVerSS.nx (MStore.nx (MChain.nx (k + 1 + 1) p.chain) p.log) p.got ≤ MVerSS.nx (MStore.nx (MChain.nx (k + 1 + 1) p.chain) p.log) p.got + 1 by omega))⟩
theorem MPlc_small : MPlc.Small := fun k p => by
  have h1 := (MChain_le (k + 1 + 1) p.chain).2
  have h2 := (MStore_le (MChain.nx (k + 1 + 1) p.chain) p.log).2
  have h3 := (MVerSS_le (MStore.nx (MChain.nx (k + 1 + 1) p.chain) p.log) p.got).2
  show MVerSS.nx (MStore.nx (MChain.nx (k + 1 + 1) p.chain) p.log) p.got + 1 ≤ k + 10 * (1 + ((MChain.wt p.chain + MStore.wt p.log + MVerSS.wt p.got : Nat) : Int))
  omega
noncomputable def MSes : Mk SessD := ⟨fun k s => ⟨k, MTag.mkL (k + 1) s.past, ⟨MTag.nxL (k + 1) s.past, MTag.nxL (k + 1) s.past + 1⟩, MTag.nxL (k + 1) s.past + 1 + 1⟩, fun k s => MTag.nxL (k + 1) s.past + 1 + 1 + 1, fun s => MTag.wtL s.past, fun k s => by have := Mk.nxL_le (M := MTag) s.past (k + 1); omega⟩
theorem MSes_small : MSes.Small := fun k s => by
  have := Mk.nxL_small MTag_small s.past (k + 1)
  show MTag.nxL (k + 1) s.past + 1 + 1 + 1 ≤ k + 10 * (1 + (MTag.wtL s.past : Int))
  omega
theorem laws_markSessS_n {a : Option Addr} {c : Nat} {S : Nat → Prop} {xs : List SessD} {k0 : Int} (h0 : 0 ≤ k0) (hk : k0 + 10 * MSes.wtL xs ≤ 100000000000000) :
    ∀ (d j : Nat) (e : Env) (w : World), j + d = xs.length → e 0 = .slice a xs.length c → e 1 = i64 (MSes.at k0 xs j) → e 5 = i64 j → O tSs S w [.slice a xs.length c] (MSes.part k0 xs j) →
    Ret (laws_markSessS_l1 e w) fun r => r.1 = i64 (MSes.nxL k0 xs) ∧ O tSs S r.2 [.slice a xs.length c] (MSes.mkL k0 xs) ∧ Mod S w r.2 := by
  intro d
  induction d with
  | zero =>
    intro j e w hd e0 e1 e5 ho
    rw [laws_markSessS_l1_eq]
    obtain rfl : j = xs.length := by omega
    rw [Mk.part_end (Nat.le_refl _)] at ho
    rw [Mk.at_end (Nat.le_refl _)] at e1
    simp (maxSteps := 1000000) (disch := first | assumption | ((try simp only [qz]) <;> omega) | fail) [-Option.bind_some, qs, e0, e1, e5, e0, e1, e5]
    exact ⟨ho, Mod.rfl⟩
  | succ d ih =>
    intro j e w hd e0 e1 e5 ho
    rw [laws_markSessS_l1_eq]
    have hlt : j < xs.length := by omega
    obtain ⟨x, hx, _⟩ := drop_at hlt
    have hq := Mk.at_small MSes_small xs k0 j
    have hq1 := Mk.at_small MSes_small xs k0 (j + 1)
    have hr : MSes.at k0 xs j + 10 * (1 + (MTag.wtL x.past : Nat)) ≤ k0 + 10 * MSes.wtL xs := Mk.at_room MSes_small hx k0
    have hs : MSes.at k0 xs (j + 1) = MTag.nxL (MSes.at k0 xs j + 1) x.past + 1 + 1 + 1 := Mk.at_succ hx
    have hp := Mk.part_set (M := MSes) (k := k0) hx
    have hn := ho.n
    obtain ⟨g, cur, cs, S1, rfl, hSg, hgl, hg, hle, hx1, hS1, put⟩ := ho.row (by decide) (Mk.part_get hx)
    obtain ⟨a2, c2, rfl, hp2⟩ := O.sess.1 hx1
    simp only [LSess_n] at hg hle put
    have hng : ¬ S1 g := fun h => (hS1 g h).2.1 rfl
    generalize MSes.at k0 xs j = q at *
    have hm := Mk.nxL_le (M := MTag) x.past (q + 1)
    have hmk : MSes.mk q x = ⟨q, MTag.mkL (q + 1) x.past, ⟨MTag.nxL (q + 1) x.past, MTag.nxL (q + 1) x.past + 1⟩, MTag.nxL (q + 1) x.past + 1 + 1⟩ := rfl
    simp (maxSteps := 1000000) (disch := first | assumption | ((try simp only [qz]) <;> omega) | fail) [-Option.bind_some, qs, -splice_eq, -stR_cells, qm, e0, e1, e5, hlt, ia_23, hg, e0, e1, e5, hlt, hg]
    refine Ret.bind (laws_markTagS_m (by omega) (by omega) (hp2.keep (by intro b hS hb; (try dsimp only at hS); (try simp only [In, qz] at hS hb); have := hS1 b hS; first | rfl | (simp (disch := first | assumption | ((try simp only [qz, In]) <;> omega) | fail) only [qk]; done)))) ?_
    rintro ⟨_, w1⟩ ⟨rfl, o1, M1⟩
    try dsimp only at o1 M1
    have zM1 := M1.size
    try simp only [qz] at zM1
    generalize MTag.nxL (q + 1) x.past = m at *
    simp (maxSteps := 1000000) (disch := first | assumption | ((try simp only [qz]) <;> omega) | fail) [-Option.bind_some, qs, -splice_eq, -stR_cells, qm, e0, e5, hlt, ia_23, hg, e0, e1, e5, hlt, hg, M1.blk]
    refine Ret.mono (ih (j + 1) _ _ (by omega) (by first | omega | assumption | rfl | exact congrArg i64 (by omega) | (simp; done) | (simp; omega)) (by exact congrArg i64 hs.symm) (by first | omega | assumption | rfl | exact congrArg i64 (by omega) | (simp; done) | (simp; omega)) ?_) ?_
    · rw [← hp]
      refine (put _ _ (MSes.mk q x) S1 (O.sess.2 ⟨a2, c2, rfl, ?_⟩) (by first | assumption | rfl | (simp (maxSteps := 1000000) (disch := first | assumption | ((try simp only [qz]) <;> omega) | fail) [-Option.bind_some, qs, -splice_eq, -stR_cells, qm, hg, hmk, Mk.mkL_length, e0, e1, e5, hlt, hg, M1.blk]; done)) (by intro b _ _ _ _; first | rfl | (simp (disch := first | assumption | ((try simp only [qz, In]) <;> omega) | fail) only [M1.blk, qk]; done)) (fun _ _ h => .inl h)).wide fun b h _ => h.elim id fun h => (hS1 b h).1
      rw [hmk]
      simp only [Mk.mkL_length]
      exact o1.keep (by intro b hS hb; (try dsimp only at hS); (try simp only [In, qz] at hS hb); have := hS1 b hS; first | rfl | (simp (disch := first | assumption | ((try simp only [qz, In]) <;> omega) | fail) only [M1.blk, qk]; done))
    · rintro r ⟨h1, h2, h3⟩
      exact ⟨h1, h2, Mod.tr (Mod.set' (Mod.set' (Mod.set' (Mod.after' (Mod.set' Mod.rfl (.inr hSg) _) M1 fun x _ hx => (hS1 x hx).1) (.inr hSg) _) (.inr hSg) _) (.inr hSg) _) h3⟩
theorem laws_markSessS_m {a : Option Addr} {n c : Nat} {S : Nat → Prop} {xs : List SessD} {k : Int} (h0 : 0 ≤ k) (hk : k + 10 * MSes.wtL xs ≤ 100000000000000) {w : World} (ho : O tSs S w [.slice a n c] xs) :
    Ret (EV P 18 #[.slice a n c, i64 k] w) fun r => r.1 = i64 (MSes.nxL k xs) ∧ O tSs S r.2 [.slice a n c] (MSes.mkL k xs) ∧ Mod S w r.2 := by
  obtain ⟨rfl, _⟩ := ho.n
  refine Ret.enter plain mixed (laws_markSessS_fn _ _ _) (by kernel_rfl) (n := 2) (by kernel_rfl) rfl ?_
  simp (maxSteps := 1000000) (disch := first | assumption | ((try simp only [qz]) <;> omega) | fail) [-Option.bind_some, qs]
  exact laws_markSessS_n h0 hk xs.length 0 _ w (by omega) rfl (by rw [Mk.at_zero]; rfl) rfl (by rw [Mk.part_zero]; exact ho)
theorem laws_heldSessS_n {a : Option Addr} {c : Nat} {S : Nat → Prop} {xs : List SessD} {k0 : Int} (h0 : 0 ≤ k0) (hk : k0 + 10 * MSes.wtL xs ≤ 100000000000000) :
    ∀ (d j : Nat) (e : Env) (w : World), j + d = xs.length → e 0 = .slice a xs.length c → e 1 = i64 (MSes.at k0 xs j) → e 5 = i64 j → D tSs S w [.slice a xs.length c] (MSes.mkL k0 xs) →
    Ret (laws_heldSessS_l1 e w) fun r => r.1 = i64 (MSes.nxL k0 xs) ∧ Ext w r.2 := by
  intro d
  induction d with
  | zero =>
    intro j e w hd e0 e1 e5 ho
    rw [laws_heldSessS_l1_eq]
    obtain rfl : j = xs.length := by omega
    rw [Mk.at_end (Nat.le_refl _)] at e1
    simp (maxSteps := 1000000) (disch := first | assumption | ((try simp only [qz]) <;> omega) | fail) [-Option.bind_some, qs, e0, e1, e5, e0, e1, e5]
    (repeat (first | exact Ext.rfl | assumption | (refine Ext.al ?_ _) | (refine Ext.dw ?_) | (refine Ext.set ?_ (by (try simp only [qz]); omega) _) | (refine Ext.tr ?_ (by assumption))))
  | succ d ih =>
    intro j e w hd e0 e1 e5 ho
    rw [laws_heldSessS_l1_eq]
    have hlt : j < xs.length := by omega
    obtain ⟨x, hx, _⟩ := drop_at hlt
    have hq := Mk.at_small MSes_small xs k0 j
    have hq1 := Mk.at_small MSes_small xs k0 (j + 1)
    have hr : MSes.at k0 xs j + 10 * (1 + (MTag.wtL x.past : Nat)) ≤ k0 + 10 * MSes.wtL xs := Mk.at_room MSes_small hx k0
    have hs : MSes.at k0 xs (j + 1) = MTag.nxL (MSes.at k0 xs j + 1) x.past + 1 + 1 + 1 := Mk.at_succ hx
    have hn := ho.n
    have hx2 := Mk.mkL_get (M := MSes) xs k0 j hx
    generalize MSes.at k0 xs j = q at *
    rw [show MSes.mk q x = ⟨q, MTag.mkL (q + 1) x.past, ⟨MTag.nxL (q + 1) x.past, MTag.nxL (q + 1) x.past + 1⟩, MTag.nxL (q + 1) x.past + 1 + 1⟩ from rfl] at hx2
    obtain ⟨b1, o1, cs1, rfl, A1, D1, _, l1⟩ := ho.at (by decide) hx2
    obtain ⟨a2, c2, rfl, hp2⟩ := D.sess.1 D1
    simp only [LSess_n] at A1
    have p0 := A1 0 _ rfl
    have p1 := A1 1 _ rfl
    have p2 := A1 2 _ rfl
    have p3 := A1 3 _ rfl
    have p4 := A1 4 _ rfl
    simp only [LVer_n, LTag_n, LNode_n, Nat.add_zero] at p0 p1 p2 p3 p4
    have hm := Mk.nxL_le (M := MTag) x.past (q + 1)
    simp (maxSteps := 1000000) (disch := first | assumption | ((try simp only [qz]) <;> omega) | fail) [-Option.bind_some, qs, e0, e1, e5, hlt, ia_23, bne_self_eq_false, e0, e1, e5, hlt, p0, p1, p2, p3, p4]
    refine Ret.bind (laws_heldTagS_m (by omega) (by omega) (hp2.ext (by (repeat (first | exact Ext.rfl | assumption | (refine Ext.al ?_ _) | (refine Ext.dw ?_) | (refine Ext.set ?_ (by (try simp only [qz]); omega) _) | (refine Ext.tr ?_ (by assumption))))))) ?_
    rintro ⟨_, w1⟩ ⟨rfl, E1⟩
    try dsimp only at E1
    have zE1 := E1.size
    try simp only [qz] at zE1
    generalize MTag.nxL (q + 1) x.past = m at *
    simp (maxSteps := 1000000) (disch := first | assumption | ((try simp only [qz]) <;> omega) | fail) [-Option.bind_some, qs, e0, e1, e5, hlt, ia_23, show ¬ m < 0 by omega, bne_self_eq_false, e0, e1, e5, hlt, p0, p1, p2, p3, p4, E1.blk]
    refine Ret.mono (ih (j + 1) _ _ (by omega) (by first | omega | assumption | rfl | exact congrArg i64 (by omega) | (simp; done) | (simp; omega)) (by exact congrArg i64 hs.symm) (by first | omega | assumption | rfl | exact congrArg i64 (by omega) | (simp; done) | (simp; omega)) (ho.ext (by (repeat (first | exact Ext.rfl | assumption | (refine Ext.al ?_ _) | (refine Ext.dw ?_) | (refine Ext.set ?_ (by (try simp only [qz]); omega) _) | (refine Ext.tr ?_ (by assumption))))))) ?_
    rintro r ⟨h1, h2⟩
    exact ⟨h1, Ext.tr (by (repeat (first | exact Ext.rfl | assumption | (refine Ext.al ?_ _) | (refine Ext.dw ?_) | (refine Ext.set ?_ (by (try simp only [qz]); omega) _) | (refine Ext.tr ?_ (by assumption))))) h2⟩
theorem laws_heldSessS_m {a : Option Addr} {n c : Nat} {S : Nat → Prop} {xs : List SessD} {k : Int} (h0 : 0 ≤ k) (hk : k + 10 * MSes.wtL xs ≤ 100000000000000) {w : World} (ho : D tSs S w [.slice a n c] (MSes.mkL k xs)) :
    Ret (EV P 22 #[.slice a n c, i64 k] w) fun r => r.1 = i64 (MSes.nxL k xs) ∧ Ext w r.2 := by
  obtain ⟨rfl, _⟩ := ho.n
  rw [Mk.mkL_length] at *
  refine Ret.enter plain mixed (laws_heldSessS_fn _ _ _) (by kernel_rfl) (n := 2) (by kernel_rfl) rfl ?_
  simp (maxSteps := 1000000) (disch := first | assumption | ((try simp only [qz]) <;> omega) | fail) [-Option.bind_some, qs]
  exact laws_heldSessS_n h0 hk xs.length 0 _ w (by omega) rfl (by rw [Mk.at_zero]; rfl) rfl ho
theorem laws_markPlaceS_n {a : Option Addr} {c : Nat} {S : Nat → Prop} {xs : List PlaceD} {k0 : Int} (h0 : 0 ≤ k0) (hk : k0 + 10 * MPlc.wtL xs ≤ 100000000000000) :
    ∀ (d j : Nat) (e : Env) (w : World), j + d = xs.length → e 0 = .slice a xs.length c → e 1 = i64 (MPlc.at k0 xs j) → e 5 = i64 j → O tPs S w [.slice a xs.length c] (MPlc.part k0 xs j) →
    Ret (laws_markPlaceS_l1 e w) fun r => r.1 = i64 (MPlc.nxL k0 xs) ∧ O tPs S r.2 [.slice a xs.length c] (MPlc.mkL k0 xs) ∧ Mod S w r.2 := by
  intro d
  induction d with
  | zero =>
    intro j e w hd e0 e1 e5 ho
    rw [laws_markPlaceS_l1_eq]
    obtain rfl : j = xs.length := by omega
    rw [Mk.part_end (Nat.le_refl _)] at ho
    rw [Mk.at_end (Nat.le_refl _)] at e1
    simp (maxSteps := 1000000) (disch := first | assumption | ((try simp only [qz]) <;> omega) | fail) [-Option.bind_some, qs, e0, e1, e5, e0, e1, e5]
    exact ⟨ho, Mod.rfl⟩
  | succ d ih =>
    intro j e w hd e0 e1 e5 ho
    rw [laws_markPlaceS_l1_eq]
    have hlt : j < xs.length := by omega
    obtain ⟨x, hx, _⟩ := drop_at hlt
    have hq := Mk.at_small MPlc_small xs k0 j
    have hq1 := Mk.at_small MPlc_small xs k0 (j + 1)
    have hr : MPlc.at k0 xs j + 10 * (1 + ((MChain.wt x.chain + MStore.wt x.log + MVerSS.wt x.got : Nat) : Int)) ≤ k0 + 10 * MPlc.wtL xs := Mk.at_room MPlc_small hx k0
    have hs : MPlc.at k0 xs (j + 1) = MVerSS.nx (MStore.nx (MChain.nx (MPlc.at k0 xs j + 1 + 1) x.chain) x.log) x.got + 1 := Mk.at_succ hx
    have hpt := Mk.part_set (M := MPlc) (k := k0) hx
    have hn := ho.n
    obtain ⟨g, cur, cs, S0, rfl, hSg, hgl, hg, hle, hx1, hS0, put⟩ := ho.row (by decide) (Mk.part_get hx)
    obtain ⟨a1, c1, a2, c2, a3, c3, S1, S2, S3, rfl, k1, k2, k3, d1, d2, d3⟩ := O.place_un hx1
    simp only [LPlace_n] at hg hle put
    have n1 : ¬ S1 g := fun h => (hS0 g (d1 g h).1).2.1 rfl
    have n2 : ¬ S2 g := fun h => (hS0 g (d2 g h).1).2.1 rfl
    have n3 : ¬ S3 g := fun h => (hS0 g (d3 g h).1).2.1 rfl
    generalize MPlc.at k0 xs j = q at *
    have r1 := MChain_le (q + 1 + 1) x.chain
    have r2 := MStore_le (MChain.nx (q + 1 + 1) x.chain) x.log
    have r3 := MVerSS_le (MStore.nx (MChain.nx (q + 1 + 1) x.chain) x.log) x.got
    have t1 : MNode.wtL x.chain = MChain.wt x.chain := rfl
    have t2 : MVer.wtL x.log = MStore.wt x.log := rfl
    have u1 : MNode.nxL (q + 1 + 1) x.chain = MChain.nx (q + 1 + 1) x.chain := rfl
    have u2 : MVer.nxL (MChain.nx (q + 1 + 1) x.chain) x.log = MStore.nx (MChain.nx (q + 1 + 1) x.chain) x.log := rfl
    have ne1 : ∀ b, S1 b → b ≠ g := fun b h h' => n1 (h' ▸ h)
    have ne2 : ∀ b, S2 b → b ≠ g := fun b h h' => n2 (h' ▸ h)
    have ne3 : ∀ b, S3 b → b ≠ g := fun b h h' => n3 (h' ▸ h)
    simp (maxSteps := 1000000) (disch := first | assumption | ((try simp only [qz]) <;> omega) | fail) [-Option.bind_some, qs, -splice_eq, -stR_cells, qm, e0, e1, e5, hlt, ia_22, hg, e0, e1, e5, hlt, hg]
    generalize hW0 : World.setRow _ g _ = W0
    have Z0 : W0.heap.size = w.heap.size := by rw [← hW0]; simp only [size_setRow]
    have K0 : ∀ b, b ≠ g → hp W0 b = hp w b := fun b hb => by rw [← hW0]; simp only [hp_set_ne hb, hp_set_ne (Ne.symm hb)]
    have X0 : hp W0 g = some (.cells (rowv cur (j * 6) [i64 q, i64 (q + 1), .slice a1 x.chain.length c1, .slice a2 x.log.length c2, .slice a3 x.got.length c3, .bool x.fell]).toArray 47 (0, 0)) := by rw [← hW0]; exact (by first | assumption | rfl | (simp (maxSteps := 1000000) (disch := first | assumption | ((try simp only [qz]) <;> omega) | fail) [-Option.bind_some, qs, -splice_eq, -stR_cells, qm, hg, e0, e1, e5, hlt, hg]; done))
    have MW0 : Mod S w W0 := by rw [← hW0]; exact Mod.set' (Mod.set' Mod.rfl (.inr hSg) _) (.inr hSg) _
    refine Ret.bind (laws_markNodeS_m (by omega) (by omega) (k1.keep fun b hb _ => K0 b (ne1 b hb))) ?_
    rintro ⟨_, w1⟩ ⟨rfl, o1, M1⟩
    try dsimp only at o1 M1
    have zM1 := M1.size
    try simp only [qz] at zM1
    have X1 : hp w1 g = _ := (M1.blk g (by omega) n1).trans X0
    rw [u1] at *
    simp (maxSteps := 1000000) (disch := first | assumption | ((try simp only [qz]) <;> omega) | fail) [-Option.bind_some, qs, -splice_eq, -stR_cells, qm, e0, e1, e5, hlt, ia_22, e0, e1, e5, hlt, hg, X0, M1.blk, X1]
    refine Ret.bind (laws_markVerS_m (by omega) (by omega) (k2.keep (w' := w1) fun b hb hbl => (M1.blk b (by omega) (fun h => (d1 b h).2.1 hb)).trans (K0 b (ne2 b hb)))) ?_
    rintro ⟨_, w2⟩ ⟨rfl, o2, M2⟩
    try dsimp only at o2 M2
    have zM2 := M2.size
    try simp only [qz] at zM2
    have X2 : hp w2 g = _ := (M2.blk g (by omega) n2).trans X1
    rw [u2] at *
    simp (maxSteps := 1000000) (disch := first | assumption | ((try simp only [qz]) <;> omega) | fail) [-Option.bind_some, qs, -splice_eq, -stR_cells, qm, e0, e1, e5, hlt, ia_22, e0, e1, e5, hlt, hg, X0, M1.blk, X1, M2.blk, X2]
    refine Ret.bind (laws_markVerSS_m (by omega) (by omega) (k3.keep (w' := w2) fun b hb hbl => (M2.blk b (by omega) (fun h => (d2 b h).2.2.1 hb)).trans ((M1.blk b (by omega) (fun h => (d1 b h).2.2.1 hb)).trans (K0 b (ne3 b hb))))) ?_
    rintro ⟨_, w3⟩ ⟨rfl, o3, M3⟩
    try dsimp only at o3 M3
    have zM3 := M3.size
    try simp only [qz] at zM3
    have X3 : hp w3 g = _ := (M3.blk g (by omega) n3).trans X2
    have hmk : MPlc.mk q x = ⟨q, q + 1, MNode.mkL (q + 1 + 1) x.chain, MVer.mkL (MChain.nx (q + 1 + 1) x.chain) x.log, MVerSS.mk (MStore.nx (MChain.nx (q + 1 + 1) x.chain) x.log) x.got, (MVerSS.nx (MStore.nx (MChain.nx (q + 1 + 1) x.chain) x.log) x.got).tmod 3 == 0⟩ := rfl
    generalize MVerSS.nx (MStore.nx (MChain.nx (q + 1 + 1) x.chain) x.log) x.got = m at *
    simp (maxSteps := 1000000) (disch := first | assumption | ((try simp only [qz]) <;> omega) | fail) [-Option.bind_some, qs, -splice_eq, -stR_cells, qm, e0, e1, e5, hlt, ia_22, bo_rem, e0, e1, e5, hlt, hg, X0, M1.blk, X1, M2.blk, X2, M3.blk, X3]
    refine Ret.mono (ih (j + 1) _ _ (by omega) (by first | omega | assumption | rfl | exact congrArg i64 (by omega) | (simp; done) | (simp; omega)) (by exact congrArg i64 hs.symm) (by first | omega | assumption | rfl | exact congrArg i64 (by omega) | (simp; done) | (simp; omega)) ?_) ?_
    · rw [← hpt]
      have f1 := o1.keep (w' := w3) (fun b hS hb => (M3.blk b (by omega) (fun h => (d3 b h).2.1 hS)).trans (M2.blk b (by omega) (fun h => (d2 b h).2.1 hS)))
      have f2 := o2.keep (w' := w3) (fun b hS hb => M3.blk b (by omega) (fun h => (d3 b h).2.2.1 hS))
      have l1 : (MNode.mkL (q + 1 + 1) x.chain).length = x.chain.length := Mk.mkL_length _ _
      have l2 : (MVer.mkL (MChain.nx (q + 1 + 1) x.chain) x.log).length = x.log.length := Mk.mkL_length _ _
      refine (put _ _ (MPlc.mk q x) (fun b => S1 b ∨ S2 b ∨ S3 b) (O.place_mk (p := MPlc.mk q x) (f1.keep fun b hS hb => hp_set_ne (ne1 b hS)) (f2.keep fun b hS hb => hp_set_ne (ne2 b hS)) (o3.keep fun b hS hb => hp_set_ne (ne3 b hS)) (fun b _ h h' => (d1 b h).2.1 h') (fun b _ h h' => (d1 b h).2.2.1 h') (fun b _ h h' => (d2 b h).2.2.1 h')) ?_ ?_ ?_).wide ?_
      · rw [hmk]
        exact (by first | assumption | rfl | (simp (maxSteps := 1000000) (disch := first | assumption | ((try simp only [qz]) <;> omega) | fail) [-Option.bind_some, qs, -splice_eq, -stR_cells, qm, X3, e0, e1, e5, hlt, hg, X0, M1.blk, X1, M2.blk, X2, M3.blk, X3]; done))
      · intro b hb hS hne hnS
        have m1 : ¬ S1 b := fun h => hnS (d1 b h).1
        have m2 : ¬ S2 b := fun h => hnS (d2 b h).1
        have m3 : ¬ S3 b := fun h => hnS (d3 b h).1
        exact (hp_set_ne hne).trans ((M3.blk b (by omega) m3).trans ((M2.blk b (by omega) m2).trans ((M1.blk b (by omega) m1).trans (K0 b hne))))
      · rintro b _ (h | h | h)
        · exact .inl (d1 b h).1
        · exact .inl (d2 b h).1
        · exact .inl (d3 b h).1
      · rintro b (h | h | h | h) _
        · exact h
        · exact (hS0 b (d1 b h).1).1
        · exact (hS0 b (d2 b h).1).1
        · exact (hS0 b (d3 b h).1).1
    · rintro r ⟨h1, h2, h3⟩
      exact ⟨h1, h2, Mod.tr (Mod.set' (Mod.tr (Mod.tr (Mod.tr MW0 (M1.weak fun b _ h => (hS0 b (d1 b h).1).1)) (M2.weak fun b _ h => (hS0 b (d2 b h).1).1)) (M3.weak fun b _ h => (hS0 b (d3 b h).1).1)) (.inr hSg) _) h3⟩
theorem laws_markPlaceS_m {a : Option Addr} {n c : Nat} {S : Nat → Prop} {xs : List PlaceD} {k : Int} (h0 : 0 ≤ k) (hk : k + 10 * MPlc.wtL xs ≤ 100000000000000) {w : World} (ho : O tPs S w [.slice a n c] xs) :
    Ret (EV P 17 #[.slice a n c, i64 k] w) fun r => r.1 = i64 (MPlc.nxL k xs) ∧ O tPs S r.2 [.slice a n c] (MPlc.mkL k xs) ∧ Mod S w r.2 := by
  obtain ⟨rfl, _⟩ := ho.n
  refine Ret.enter plain mixed (laws_markPlaceS_fn _ _ _) (by kernel_rfl) (n := 2) (by kernel_rfl) rfl ?_
  simp (maxSteps := 1000000) (disch := first | assumption | ((try simp only [qz]) <;> omega) | fail) [-Option.bind_some, qs]
  exact laws_markPlaceS_n h0 hk xs.length 0 _ w (by omega) rfl (by rw [Mk.at_zero]; rfl) rfl (by rw [Mk.part_zero]; exact ho)
theorem laws_heldPlaceS_n {a : Option Addr} {c : Nat} {S : Nat → Prop} {xs : List PlaceD} {k0 : Int} (h0 : 0 ≤ k0) (hk : k0 + 10 * MPlc.wtL xs ≤ 100000000000000) :
    ∀ (d j : Nat) (e : Env) (w : World), j + d = xs.length → e 0 = .slice a xs.length c → e 1 = i64 (MPlc.at k0 xs j) → e 5 = i64 j → D tPs S w [.slice a xs.length c] (MPlc.mkL k0 xs) →
    Ret (laws_heldPlaceS_l1 e w) fun r => r.1 = i64 (MPlc.nxL k0 xs) ∧ Ext w r.2 := by
  intro d
  induction d with
  | zero =>
    intro j e w hd e0 e1 e5 ho
    rw [laws_heldPlaceS_l1_eq]
    obtain rfl : j = xs.length := by omega
    rw [Mk.at_end (Nat.le_refl _)] at e1
    simp (maxSteps := 1000000) (disch := first | assumption | ((try simp only [qz]) <;> omega) | fail) [-Option.bind_some, qs, e0, e1, e5, e0, e1, e5]
    (repeat (first | exact Ext.rfl | assumption | (refine Ext.al ?_ _) | (refine Ext.dw ?_) | (refine Ext.set ?_ (by (try simp only [qz]); omega) _) | (refine Ext.tr ?_ (by assumption))))
  | succ d ih =>
    intro j e w hd e0 e1 e5 ho
    rw [laws_heldPlaceS_l1_eq]
    have hlt : j < xs.length := by omega
    obtain ⟨x, hx, _⟩ := drop_at hlt
    have hq := Mk.at_small MPlc_small xs k0 j
    have hq1 := Mk.at_small MPlc_small xs k0 (j + 1)
    have hr : MPlc.at k0 xs j + 10 * (1 + ((MChain.wt x.chain + MStore.wt x.log + MVerSS.wt x.got : Nat) : Int)) ≤ k0 + 10 * MPlc.wtL xs := Mk.at_room MPlc_small hx k0
    have hs : MPlc.at k0 xs (j + 1) = MVerSS.nx (MStore.nx (MChain.nx (MPlc.at k0 xs j + 1 + 1) x.chain) x.log) x.got + 1 := Mk.at_succ hx
    have hn := ho.n
    have hx2 := Mk.mkL_get (M := MPlc) xs k0 j hx
    generalize MPlc.at k0 xs j = q at *
    rw [show MPlc.mk q x = ⟨q, q + 1, MNode.mkL (q + 1 + 1) x.chain, MVer.mkL (MChain.nx (q + 1 + 1) x.chain) x.log, MVerSS.mk (MStore.nx (MChain.nx (q + 1 + 1) x.chain) x.log) x.got, (MVerSS.nx (MStore.nx (MChain.nx (q + 1 + 1) x.chain) x.log) x.got).tmod 3 == 0⟩ from rfl] at hx2
    obtain ⟨b1, o1, cs1, rfl, A1, D1, _, l1⟩ := ho.at (by decide) hx2
    obtain ⟨a1, c1, a2, c2, a3, c3, rfl, k1, k2, k3⟩ := D.place.1 D1
    simp only [LPlace_n] at A1
    have p0 := A1 0 _ rfl
    have p1 := A1 1 _ rfl
    have p2 := A1 2 _ rfl
    have p3 := A1 3 _ rfl
    have p4 := A1 4 _ rfl
    have p5 := A1 5 _ rfl
    simp only [LVer_n, LTag_n, LNode_n, Nat.add_zero] at p0 p1 p2 p3 p4 p5
    have r1 := MChain_le (q + 1 + 1) x.chain
    have r2 := MStore_le (MChain.nx (q + 1 + 1) x.chain) x.log
    have r3 := MVerSS_le (MStore.nx (MChain.nx (q + 1 + 1) x.chain) x.log) x.got
    have t1 : MNode.wtL x.chain = MChain.wt x.chain := rfl
    have t2 : MVer.wtL x.log = MStore.wt x.log := rfl
    have u1 : MNode.nxL (q + 1 + 1) x.chain = MChain.nx (q + 1 + 1) x.chain := rfl
    have u2 : MVer.nxL (MChain.nx (q + 1 + 1) x.chain) x.log = MStore.nx (MChain.nx (q + 1 + 1) x.chain) x.log := rfl
    simp (maxSteps := 1000000) (disch := first | assumption | ((try simp only [qz]) <;> omega) | fail) [-Option.bind_some, qs, e0, e1, e5, hlt, ia_22, bne_self_eq_false, e0, e1, e5, hlt, p0, p1, p2, p3, p4, p5]
    refine Ret.bind (laws_heldNodeS_m (by omega) (by omega) (k1.ext (by (repeat (first | exact Ext.rfl | assumption | (refine Ext.al ?_ _) | (refine Ext.dw ?_) | (refine Ext.set ?_ (by (try simp only [qz]); omega) _) | (refine Ext.tr ?_ (by assumption))))))) ?_
    rintro ⟨_, w1⟩ ⟨rfl, E1⟩
    try dsimp only at E1
    have zE1 := E1.size
    try simp only [qz] at zE1
    rw [u1] at *
    simp (maxSteps := 1000000) (disch := first | assumption | ((try simp only [qz]) <;> omega) | fail) [-Option.bind_some, qs, e0, e1, e5, hlt, ia_22, show ¬ MChain.nx (q + 1 + 1) x.chain < 0 by omega, e0, e1, e5, hlt, p0, p1, p2, p3, p4, p5, E1.blk]
    refine Ret.bind (laws_heldVerS_m (by omega) (by omega) (k2.ext (by (repeat (first | exact Ext.rfl | assumption | (refine Ext.al ?_ _) | (refine Ext.dw ?_) | (refine Ext.set ?_ (by (try simp only [qz]); omega) _) | (refine Ext.tr ?_ (by assumption))))))) ?_
    rintro ⟨_, w2⟩ ⟨rfl, E2⟩
    try dsimp only at E2
    have zE2 := E2.size
    try simp only [qz] at zE2
    rw [u2] at *
    simp (maxSteps := 1000000) (disch := first | assumption | ((try simp only [qz]) <;> omega) | fail) [-Option.bind_some, qs, e0, e1, e5, hlt, ia_22, show ¬ MStore.nx (MChain.nx (q + 1 + 1) x.chain) x.log < 0 by omega, e0, e1, e5, hlt, p0, p1, p2, p3, p4, p5, E1.blk, E2.blk]
    refine Ret.bind (laws_heldVerSS_m (by omega) (by omega) (k3.ext (by (repeat (first | exact Ext.rfl | assumption | (refine Ext.al ?_ _) | (refine Ext.dw ?_) | (refine Ext.set ?_ (by (try simp only [qz]); omega) _) | (refine Ext.tr ?_ (by assumption))))))) ?_
    rintro ⟨_, w3⟩ ⟨rfl, E3⟩
    try dsimp only at E3
    have zE3 := E3.size
    try simp only [qz] at zE3
    generalize MVerSS.nx (MStore.nx (MChain.nx (q + 1 + 1) x.chain) x.log) x.got = m at *
    simp (maxSteps := 1000000) (disch := first | assumption | ((try simp only [qz]) <;> omega) | fail) [-Option.bind_some, qs, e0, e1, e5, hlt, ia_22, show ¬ m < 0 by omega, bo_rem, e0, e1, e5, hlt, p0, p1, p2, p3, p4, p5, E1.blk, E2.blk, E3.blk]
    refine Ret.mono (ih (j + 1) _ _ (by omega) (by first | omega | assumption | rfl | exact congrArg i64 (by omega) | (simp; done) | (simp; omega)) (by exact congrArg i64 hs.symm) (by first | omega | assumption | rfl | exact congrArg i64 (by omega) | (simp; done) | (simp; omega)) (ho.ext (by (repeat (first | exact Ext.rfl | assumption | (refine Ext.al ?_ _) | (refine Ext.dw ?_) | (refine Ext.set ?_ (by (try simp only [qz]); omega) _) | (refine Ext.tr ?_ (by assumption))))))) ?_
    rintro r ⟨h1, h2⟩
    exact ⟨h1, Ext.tr (by (repeat (first | exact Ext.rfl | assumption | (refine Ext.al ?_ _) | (refine Ext.dw ?_) | (refine Ext.set ?_ (by (try simp only [qz]); omega) _) | (refine Ext.tr ?_ (by assumption))))) h2⟩
theorem laws_heldPlaceS_m {a : Option Addr} {n c : Nat} {S : Nat → Prop} {xs : List PlaceD} {k : Int} (h0 : 0 ≤ k) (hk : k + 10 * MPlc.wtL xs ≤ 100000000000000) {w : World} (ho : D tPs S w [.slice a n c] (MPlc.mkL k xs)) :
    Ret (EV P 21 #[.slice a n c, i64 k] w) fun r => r.1 = i64 (MPlc.nxL k xs) ∧ Ext w r.2 := by
  obtain ⟨rfl, _⟩ := ho.n
  rw [Mk.mkL_length] at *
  refine Ret.enter plain mixed (laws_heldPlaceS_fn _ _ _) (by kernel_rfl) (n := 2) (by kernel_rfl) rfl ?_
  simp (maxSteps := 1000000) (disch := first | assumption | ((try simp only [qz]) <;> omega) | fail) [-Option.bind_some, qs]
  exact laws_heldPlaceS_n h0 hk xs.length 0 _ w (by omega) rfl (by rw [Mk.at_zero]; rfl) rfl ho
end Go.Proofs.Ytligcpabhddggaa.X
set_option linter.unusedVariables false
set_option linter.unusedSimpArgs false
set_option maxRecDepth 100000
set_option maxHeartbeats 1000000
namespace Go.Proofs.Ytligcpabhddggaa.X
open Go Go.Ev Go.RowKit
theorem laws_markFrameS_z {a : Option Addr} {c : Nat} {k : Int} {w : World} : Ret (EV P 19 #[.slice a 0 c, i64 k] w) fun r => r.1 = i64 k ∧ Ext w r.2 := by
  refine Ret.post fun Q hQ => ?_
  refine Ret.enter plain mixed (laws_markFrameS_fn _ _ _) (by kernel_rfl) (n := 2) (by kernel_rfl) rfl ?_
  simp (maxSteps := 1000000) (disch := first | assumption | ((try simp only [qz]) <;> omega) | fail) [-Option.bind_some, qs, -splice_eq, -stR_cells, qm]
  rw [laws_markFrameS_l1_eq]
  simp (maxSteps := 1000000) (disch := first | assumption | ((try simp only [qz]) <;> omega) | fail) [-Option.bind_some, qs, -splice_eq, -stR_cells, qm]
  exact hQ _ ⟨rfl, by (repeat (first | exact Ext.rfl | assumption | (refine Ext.al ?_ _) | (refine Ext.dw ?_) | (refine Ext.set ?_ (by (try simp only [qz]); omega) _) | (refine Ext.tr ?_ (by assumption))))⟩
theorem laws_markDoneS_z {a : Option Addr} {c : Nat} {k : Int} {w : World} : Ret (EV P 20 #[.slice a 0 c, i64 k] w) fun r => r.1 = i64 k ∧ Ext w r.2 := by
  refine Ret.post fun Q hQ => ?_
  refine Ret.enter plain mixed (laws_markDoneS_fn _ _ _) (by kernel_rfl) (n := 2) (by kernel_rfl) rfl ?_
  simp (maxSteps := 1000000) (disch := first | assumption | ((try simp only [qz]) <;> omega) | fail) [-Option.bind_some, qs, -splice_eq, -stR_cells, qm]
  rw [laws_markDoneS_l1_eq]
  simp (maxSteps := 1000000) (disch := first | assumption | ((try simp only [qz]) <;> omega) | fail) [-Option.bind_some, qs, -splice_eq, -stR_cells, qm]
  exact hQ _ ⟨rfl, by (repeat (first | exact Ext.rfl | assumption | (refine Ext.al ?_ _) | (refine Ext.dw ?_) | (refine Ext.set ?_ (by (try simp only [qz]); omega) _) | (refine Ext.tr ?_ (by assumption))))⟩
theorem laws_heldFrameS_z {a : Option Addr} {c : Nat} {k : Int} {w : World} : Ret (EV P 23 #[.slice a 0 c, i64 k] w) fun r => r.1 = i64 k ∧ Ext w r.2 := by
  refine Ret.post fun Q hQ => ?_
  refine Ret.enter plain mixed (laws_heldFrameS_fn _ _ _) (by kernel_rfl) (n := 2) (by kernel_rfl) rfl ?_
  simp (maxSteps := 1000000) (disch := first | assumption | ((try simp only [qz]) <;> omega) | fail) [-Option.bind_some, qs, -splice_eq, -stR_cells, qm]
  rw [laws_heldFrameS_l1_eq]
  simp (maxSteps := 1000000) (disch := first | assumption | ((try simp only [qz]) <;> omega) | fail) [-Option.bind_some, qs, -splice_eq, -stR_cells, qm]
  exact hQ _ ⟨rfl, by (repeat (first | exact Ext.rfl | assumption | (refine Ext.al ?_ _) | (refine Ext.dw ?_) | (refine Ext.set ?_ (by (try simp only [qz]); omega) _) | (refine Ext.tr ?_ (by assumption))))⟩
theorem laws_heldDoneS_z {a : Option Addr} {c : Nat} {k : Int} {w : World} : Ret (EV P 24 #[.slice a 0 c, i64 k] w) fun r => r.1 = i64 k ∧ Ext w r.2 := by
  refine Ret.post fun Q hQ => ?_
  refine Ret.enter plain mixed (laws_heldDoneS_fn _ _ _) (by kernel_rfl) (n := 2) (by kernel_rfl) rfl ?_
  simp (maxSteps := 1000000) (disch := first | assumption | ((try simp only [qz]) <;> omega) | fail) [-Option.bind_some, qs, -splice_eq, -stR_cells, qm]
  rw [laws_heldDoneS_l1_eq]
  simp (maxSteps := 1000000) (disch := first | assumption | ((try simp only [qz]) <;> omega) | fail) [-Option.bind_some, qs, -splice_eq, -stR_cells, qm]
  exact hQ _ ⟨rfl, by (repeat (first | exact Ext.rfl | assumption | (refine Ext.al ?_ _) | (refine Ext.dw ?_) | (refine Ext.set ?_ (by (try simp only [qz]); omega) _) | (refine Ext.tr ?_ (by assumption))))⟩
theorem laws_markWorld_z {S : Nat → Prop} {cs : List Value} {ps : List PlaceD} {ss : List SessD} {k : Int} (h0 : 0 ≤ k) (hk : k + 10 * ((MPlc.wtL ps + MSes.wtL ss : Nat) : Int) ≤ 100000000000000) {w : World} (ho : O tWo S w cs ⟨ps, ss, [], []⟩) :
    Ret (EV P 7 #[.agg cs.toArray, i64 k] w) fun r => r.1 = i64 (MSes.nxL (MPlc.nxL k ps) ss) ∧ O tWo S r.2 cs ⟨MPlc.mkL k ps, MSes.mkL (MPlc.nxL k ps) ss, [], []⟩ ∧ Mod S w r.2 := by
  obtain ⟨a, c, a1, c1, a2, c2, a3, c3, S1, S2, S3, S4, rfl, Pt, hl⟩ := O.world_un ho
  have n1 := Mk.nxL_small MPlc_small ps k
  have n1' := Mk.nxL_le (M := MPlc) ps k
  refine Ret.post fun Q hQ => ?_
  refine Ret.enter plain mixed (laws_markWorld_fn _ _ _) (by kernel_rfl) (n := 2) (by kernel_rfl) rfl ?_
  simp (maxSteps := 1000000) (disch := first | assumption | ((try simp only [qz]) <;> omega) | fail) [-Option.bind_some, qs, -splice_eq, -stR_cells, qm]
  refine Ret.bind (laws_markPlaceS_m (xs := ps) (by omega) (by omega) (Pt.o1.ext (by (repeat (first | exact Ext.rfl | assumption | (refine Ext.al ?_ _) | (refine Ext.dw ?_) | (refine Ext.set ?_ (by (try simp only [qz]); omega) _) | (refine Ext.tr ?_ (by assumption))))))) ?_
  rintro ⟨_, w1⟩ ⟨rfl, o1, M1⟩
  try dsimp only at o1 M1
  have zM1 := M1.size
  try simp only [qz] at zM1
  have Y1 : hp w1 w.heap.size = _ := (M1.blk w.heap.size (by (try simp only [In, qz] at *); omega) (fun h => by have := (hl _ (.inl h)).2; omega)).trans (by first | assumption | rfl | (simp (maxSteps := 1000000) (disch := first | assumption | ((try simp only [qz]) <;> omega) | fail) [-Option.bind_some, qs, -splice_eq, -stR_cells, qm, M1.blk]; done))
  simp (maxSteps := 1000000) (disch := first | assumption | ((try simp only [qz]) <;> omega) | fail) [-Option.bind_some, qs, -splice_eq, -stR_cells, qm, Y1, M1.blk]
  refine Ret.bind (laws_markSessS_m (xs := ss) (by omega) (by omega) (Pt.o2.keep (w' := w1) (fun b hS hb => (M1.blk b (by (try simp only [In, qz] at *); omega) (fun h => Pt.d12 b hb h hS)).trans (by first | assumption | rfl | (simp (maxSteps := 1000000) (disch := first | assumption | ((try simp only [qz]) <;> omega) | fail) [-Option.bind_some, qs, M1.blk]; done))))) ?_
  rintro ⟨_, w2⟩ ⟨rfl, o2, M2⟩
  try dsimp only at o2 M2
  have zM2 := M2.size
  try simp only [qz] at zM2
  have Y2 : hp w2 w.heap.size = _ := (M2.blk w.heap.size (by (try simp only [In, qz] at *); omega) (fun h => by have := (hl _ (.inr (.inl h))).2; omega)).trans Y1
  simp (maxSteps := 1000000) (disch := first | assumption | ((try simp only [qz]) <;> omega) | fail) [-Option.bind_some, qs, -splice_eq, -stR_cells, qm, Y2, M1.blk, M2.blk]
  refine Ret.bind (laws_markFrameS_z) ?_
  rintro ⟨_, w3⟩ ⟨rfl, E3⟩
  try dsimp only at E3
  have zE3 := E3.size
  try simp only [qz] at zE3
  have Y3 : hp w3 w.heap.size = _ := (E3.blk (by omega)).trans Y2
  simp (maxSteps := 1000000) (disch := first | assumption | ((try simp only [qz]) <;> omega) | fail) [-Option.bind_some, qs, -splice_eq, -stR_cells, qm, Y3, M1.blk, M2.blk, E3.blk]
  refine Ret.bind (laws_markDoneS_z) ?_
  rintro ⟨_, w4⟩ ⟨rfl, E4⟩
  try dsimp only at E4
  have zE4 := E4.size
  try simp only [qz] at zE4
  simp (maxSteps := 1000000) (disch := first | assumption | ((try simp only [qz]) <;> omega) | fail) [-Option.bind_some, qs, -splice_eq, -stR_cells, qm, M1.blk, M2.blk, E3.blk, E4.blk]
  have F4 : Ext w2 w4 := by (repeat (first | exact Ext.rfl | assumption | (refine Ext.al ?_ _) | (refine Ext.dw ?_) | (refine Ext.set ?_ (by (try simp only [qz]); omega) _) | (refine Ext.tr ?_ (by assumption))))
  have l1 : (MPlc.mkL k ps).length = ps.length := Mk.mkL_length _ _
  have l2 : (MSes.mkL (MPlc.nxL k ps) ss).length = ss.length := Mk.mkL_length _ _
  have f1 := o1.keep (w' := w4) (fun b hS hb => (F4.blk (by omega)).trans (M2.blk b (by (try simp only [In, qz] at *); omega) (fun h => Pt.d12 b (hl b (.inl hS)).2 hS h)))
  have f2 := o2.keep (w' := w4) (fun b hS hb => F4.blk hb)
  have z4 := F4.size
  refine hQ _ ⟨rfl, ?_, ?_⟩
  · have Q4 : Parts 54 62 83 44 47 56 64 67 w4 ⟨MPlc.mkL k ps, MSes.mkL (MPlc.nxL k ps) ss, [], []⟩ (.slice a ps.length c) (.slice a1 ss.length c1) (.slice a2 0 c2) (.slice a3 0 c3) S1 S2 S3 S4 :=
      ⟨f1, f2, Pt.o3.keep (w' := w4) (fun b hS hb => (F4.blk (by (try simp only [World.size_alloc] at *); omega)).trans ((M2.blk b (by (try simp only [In, qz] at *); omega) (fun h => Pt.d23 b hb h hS)).trans ((M1.blk b (by (try simp only [In, qz] at *); omega) (fun h => Pt.d13 b hb h hS)).trans (by first | assumption | rfl | (simp (maxSteps := 1000000) (disch := first | assumption | ((try simp only [qz]) <;> omega) | fail) [-Option.bind_some, qs, M1.blk, M2.blk, E3.blk, E4.blk]; done))))),
        Pt.o4.keep (w' := w4) (fun b hS hb => (F4.blk (by (try simp only [World.size_alloc] at *); omega)).trans ((M2.blk b (by (try simp only [In, qz] at *); omega) (fun h => Pt.d24 b hb h hS)).trans ((M1.blk b (by (try simp only [In, qz] at *); omega) (fun h => Pt.d14 b hb h hS)).trans (by first | assumption | rfl | (simp (maxSteps := 1000000) (disch := first | assumption | ((try simp only [qz]) <;> omega) | fail) [-Option.bind_some, qs, M1.blk, M2.blk, E3.blk, E4.blk]; done))))),
        fun b _ h => Pt.d12 b (hl b (.inl h)).2 h, fun b _ h => Pt.d13 b (hl b (.inl h)).2 h, fun b _ h => Pt.d14 b (hl b (.inl h)).2 h, fun b _ h => Pt.d23 b (hl b (.inr (.inl h))).2 h, fun b _ h => Pt.d24 b (hl b (.inr (.inl h))).2 h, fun b _ h => Pt.d34 b (hl b (.inr (.inr (.inl h)))).2 h⟩
    exact Q4.mk'.wide fun b h _ => (hl b h).1
  · exact Mod.ex ((Mod.of (show Ext w (w.alloc _) by (repeat (first | exact Ext.rfl | assumption | (refine Ext.al ?_ _) | (refine Ext.dw ?_) | (refine Ext.set ?_ (by (try simp only [qz]); omega) _) | (refine Ext.tr ?_ (by assumption))))) S).tr ((M1.weak (fun b _ h => (hl b (.inl h)).1)).tr (M2.weak (fun b _ h => (hl b (.inr (.inl h))).1)))) F4
theorem laws_heldWorld_z {S : Nat → Prop} {cs : List Value} {ps : List PlaceD} {ss : List SessD} {k : Int} (h0 : 0 ≤ k) (hk : k + 10 * ((MPlc.wtL ps + MSes.wtL ss : Nat) : Int) ≤ 100000000000000) {w : World} (ho : D tWo S w cs ⟨MPlc.mkL k ps, MSes.mkL (MPlc.nxL k ps) ss, [], []⟩) :
    Ret (EV P 8 #[.agg cs.toArray, i64 k] w) fun r => r.1 = i64 (MSes.nxL (MPlc.nxL k ps) ss) ∧ Ext w r.2 := by
  obtain ⟨a, c, a1, c1, a2, c2, a3, c3, rfl, h1, h2, _, _⟩ := D.world.1 ho
  have n1 := Mk.nxL_small MPlc_small ps k
  have n1' := Mk.nxL_le (M := MPlc) ps k
  have n2' := Mk.nxL_le (M := MSes) ss (MPlc.nxL k ps)
  dsimp only at h1 h2
  refine Ret.post fun Q hQ => ?_
  refine Ret.enter plain mixed (laws_heldWorld_fn _ _ _) (by kernel_rfl) (n := 2) (by kernel_rfl) rfl ?_
  simp (maxSteps := 1000000) (disch := first | assumption | ((try simp only [qz]) <;> omega) | fail) [-Option.bind_some, qs, -splice_eq, -stR_cells, qm]
  refine Ret.bind (laws_heldPlaceS_m (xs := ps) (by omega) (by omega) (h1.ext (by (repeat (first | exact Ext.rfl | assumption | (refine Ext.al ?_ _) | (refine Ext.dw ?_) | (refine Ext.set ?_ (by (try simp only [qz]); omega) _) | (refine Ext.tr ?_ (by assumption))))))) ?_
  rintro ⟨_, w1⟩ ⟨rfl, E1⟩
  try dsimp only at E1
  have zE1 := E1.size
  try simp only [qz] at zE1
  simp (maxSteps := 1000000) (disch := first | assumption | ((try simp only [qz]) <;> omega) | fail) [-Option.bind_some, qs, -splice_eq, -stR_cells, qm, show ¬ MPlc.nxL k ps < 0 by omega, E1.blk]
  refine Ret.bind (laws_heldSessS_m (xs := ss) (by omega) (by omega) (h2.ext (by (repeat (first | exact Ext.rfl | assumption | (refine Ext.al ?_ _) | (refine Ext.dw ?_) | (refine Ext.set ?_ (by (try simp only [qz]); omega) _) | (refine Ext.tr ?_ (by assumption))))))) ?_
  rintro ⟨_, w2⟩ ⟨rfl, E2⟩
  try dsimp only at E2
  have zE2 := E2.size
  try simp only [qz] at zE2
  simp (maxSteps := 1000000) (disch := first | assumption | ((try simp only [qz]) <;> omega) | fail) [-Option.bind_some, qs, -splice_eq, -stR_cells, qm, show ¬ MSes.nxL (MPlc.nxL k ps) ss < 0 by omega, E1.blk, E2.blk]
  refine Ret.bind (laws_heldFrameS_z) ?_
  rintro ⟨_, w3⟩ ⟨rfl, E3⟩
  try dsimp only at E3
  have zE3 := E3.size
  try simp only [qz] at zE3
  simp (maxSteps := 1000000) (disch := first | assumption | ((try simp only [qz]) <;> omega) | fail) [-Option.bind_some, qs, -splice_eq, -stR_cells, qm, show ¬ MSes.nxL (MPlc.nxL k ps) ss < 0 by omega, E1.blk, E2.blk, E3.blk]
  refine Ret.bind (laws_heldDoneS_z) ?_
  rintro ⟨_, w4⟩ ⟨rfl, E4⟩
  try dsimp only at E4
  have zE4 := E4.size
  try simp only [qz] at zE4
  simp (maxSteps := 1000000) (disch := first | assumption | ((try simp only [qz]) <;> omega) | fail) [-Option.bind_some, qs, -splice_eq, -stR_cells, qm, show ¬ MSes.nxL (MPlc.nxL k ps) ss < 0 by omega, E1.blk, E2.blk, E3.blk, E4.blk]
  exact hQ _ ⟨rfl, by (repeat (first | exact Ext.rfl | assumption | (refine Ext.al ?_ _) | (refine Ext.dw ?_) | (refine Ext.set ?_ (by (try simp only [qz]); omega) _) | (refine Ext.tr ?_ (by assumption))))⟩
end Go.Proofs.Ytligcpabhddggaa.X
