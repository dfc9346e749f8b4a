/- A part of the proof, without conditions. -/
import Derived.Test.YtligcpabhddggaaGreatY9
import Derived.Test.YtligcpabhddggaaGreatS0
set_option linter.unusedVariables false
set_option linter.unusedSimpArgs false
set_option maxRecDepth 100000
set_option maxHeartbeats 1000000
namespace Go.Proofs.YtligcpabhddggaaGreat.X
open Go Go.Ev Go.RowKit
theorem DrawWorldNew_m {s : Value} {ns : List Int} {w : World} (hs : rBytes w s ns) (hn : ns.length ≤ 1000000000000) :
    Ret (EV P 4 #[s] w) fun r => ∃ m n : Int, r.1 = .tuple #[i64 m, i64 n] ∧ Ext w r.2 := by
  refine Ret.post fun Q hQ => ?_
  refine Ret.enter plain mixed (spec_DrawWorldNew_fn _ _) (by kernel_rfl) (n := 1) (by kernel_rfl) rfl ?_
  simp (disch := first | exact xD | fail) [-Option.bind_some, qs, -splice_eq, -stR_cells, qm]
  refine Ret.bind (spec_l20Open_m hs hn) ?_
  rintro ⟨_, w1⟩ ⟨g, rfl, R1, E1⟩
  have zE1 := E1.size
  try simp only [qz] at zE1
  try dsimp only at R1 E1
  have y1 := R1.lt
  simp (disch := first | exact xD | fail) [-Option.bind_some, qs, -splice_eq, -stR_cells, qm, E1.blk]
  refine Ret.bind (spec_l20Rd_one_m (ints := [1, 2, 3, 4, 0, 5]) (k := 6) (by omega) (by omega) (by omega) rfl (At.new (cs := [i64 1, i64 2, i64 3, i64 4, i64 0, i64 5])) (by omega) (R1.ext xE)) ?_
  rintro ⟨_, w2⟩ ⟨m, _, rfl, R2, M2⟩
  have zM2 := M2.size
  try simp only [qz] at zM2
  try dsimp only at R2 M2
  have zM2 := M2.size
  simp only [World.size_alloc] at zM2
  have y2 := R2.lt
  simp (disch := first | exact xD | fail) [-Option.bind_some, qs, -splice_eq, -stR_cells, qm, E1.blk, M2.blk]
  refine Ret.bind (spec_l20Rd_one_m (ints := [0, 1, 4, 5, -1]) (k := 5) (by omega) (by omega) (by omega) rfl (At.new (cs := [i64 0, i64 1, i64 4, i64 5, i64 (-1)])) (by omega) (R2.ext xE)) ?_
  rintro ⟨_, w3⟩ ⟨n, _, rfl, R3, M3⟩
  have zM3 := M3.size
  try simp only [qz] at zM3
  try dsimp only at R3 M3
  simp (disch := first | exact xD | fail) [-Option.bind_some, qs, -splice_eq, -stR_cells, qm, E1.blk, M2.blk, M3.blk]
  have F2 : Ext w w2 := Mod.after (E1.tr (Ext.alloc w1 _)) M2 (fun b hb h => by have h : b = g := h; omega)
  exact hQ _ ⟨m, n, rfl, Mod.after (F2.tr (Ext.alloc w2 _)) M3 (fun b hb h => by have h : b = g := h; omega)⟩
theorem laws_FnWorldNew_c {s : Value} {ns : List Int} {w : World} (hs : rBytes w s ns) : Ret (EV P 3 #[s] w) fun r => r.1 = .bool true ∧ Ext w r.2 := by
  have hs' := hs
  obtain ⟨a, c, rfl, q2, q3, q4, q5⟩ := hs
  refine Ret.post fun Q hQ => ?_
  refine Ret.enter plain mixed (laws_FnWorldNew_fn _ _) (by kernel_rfl) (n := 1) (by kernel_rfl) rfl ?_
  by_cases hl : 1048576 < ns.length
  · simp (disch := first | exact xD | fail) [-Option.bind_some, qs, -splice_eq, -stR_cells, qm, show (1048576 : Int) < ns.length by omega]
    exact hQ _ ⟨rfl, xE⟩
  simp (disch := first | exact xD | fail) [-Option.bind_some, qs, -splice_eq, -stR_cells, qm, show ¬ (1048576 : Int) < ns.length by omega]
  refine Ret.bind (DrawWorldNew_m hs' (by omega)) ?_
  rintro ⟨_, w1⟩ ⟨nodes, sess, rfl, E1⟩
  have zE1 := E1.size
  try simp only [qz] at zE1
  try dsimp only at E1
  have zE1 := E1.size
  simp (disch := first | exact xD | fail) [-Option.bind_some, qs, -splice_eq, -stR_cells, qm, E1.blk]
  refine Ret.bind (impl_WorldNew_m nodes sess) ?_
  rintro ⟨_, w2⟩ ⟨cs, rfl, o2, E2⟩
  have zE2 := E2.size
  try simp only [qz] at zE2
  try dsimp only at o2 E2
  have zE2 := E2.size
  have o2' := o2
  obtain ⟨ps, ss, hpe, hcase⟩ : ∃ ps ss, worldNewP nodes sess = ⟨ps, ss, [], []⟩ ∧ ((worldNewB nodes sess = false ∧ ps = []) ∨ ∃ m sN : Nat, m < 4 ∧ sN ≤ 4 ∧ sess = sN ∧ ps = plsNew 3 (1 + (m : Int)) ∧ ss = sessNew sN) := by
    cases hb : worldNewB nodes sess
    · exact ⟨[], [], by rw [worldNewP, if_neg (by simp [hb])], .inl ⟨rfl, rfl⟩⟩
    · have g1 := hb
      simp only [worldNewB, Bool.and_eq_true, decide_eq_true_eq] at g1
      refine ⟨plsNew 3 nodes, sessNew sess.toNat, by rw [worldNewP, if_pos hb], .inr ⟨(nodes - 1).toNat, sess.toNat, by omega, by omega, by omega, ?_, rfl⟩⟩
      rw [show 1 + (((nodes - 1).toNat : Nat) : Int) = nodes by omega]
  rw [hpe] at o2
  obtain ⟨a, c, a1, c1, a2, c2, a3, c3, _, _, _, _, rfl, _, hS⟩ := O.world_un o2
  simp (disch := first | exact xD | fail) [-Option.bind_some, qs, -splice_eq, -stR_cells, qm, E1.blk, E2.blk]
  refine Ret.bind (spec_WorldNew_m nodes sess) ?_
  rintro ⟨_, w3⟩ ⟨ds, rfl, o3, E3⟩
  have zE3 := E3.size
  try simp only [qz] at zE3
  try dsimp only at o3 E3
  rw [hpe] at o3
  have X2 : hp w3 w2.heap.size = some (.cells #[.slice a ps.length c, .slice a1 ss.length c1, .slice a2 0 c2, .slice a3 0 c3] 30 (0, 0)) := (E3.blk (by simp only [World.size_alloc, size_setRow, dw_size]; omega)).trans (by first | assumption | rfl | (simp (disch := first | exact xD | fail) [-Option.bind_some, qs, -splice_eq, -stR_cells, qm, E1.blk, E2.blk, E3.blk]; done))
  have F23 : Ext w2 w3 := xE
  have o3' := o3
  obtain ⟨b, d, b1, d1, b2, d2, b3, d3, _, _, _, _, rfl, _, _⟩ := O.world_un o3'
  simp (disch := first | exact xD | fail) [-Option.bind_some, qs, -splice_eq, -stR_cells, qm, X2, E1.blk, E2.blk, E3.blk]
  refine Ret.bind (laws_cfWorld_z (o2.ext F23).d o3.d) ?_
  rintro ⟨_, w4⟩ ⟨rfl, E4⟩
  have zE4 := E4.size
  try simp only [qz] at zE4
  try dsimp only at E4
  have X4 := (E4.blk (hp_lt X2)).trans X2
  have F24 : Ext w2 w4 := F23.tr E4
  rcases hcase with ⟨hb, rfl⟩ | ⟨m, sN, hm, hsN, rfl, rfl, rfl⟩
  · simp (disch := first | exact xD | fail) [-Option.bind_some, qs, -splice_eq, -stR_cells, qm, X4, E1.blk, E2.blk, E3.blk, X2, E4.blk]
    refine Ret.bind (spec_WorldNew_m nodes sess) ?_
    rintro ⟨_, w5⟩ ⟨ds, rfl, o5, E5⟩
    have zE5 := E5.size
    try simp only [qz] at zE5
    try dsimp only at o5 E5
    rw [hpe] at o5
    have F45 : Ext w4 w5 := xE
    have X5 := (F45.blk (hp_lt X4)).trans X4
    have o5' := o5
    obtain ⟨b, d, b1, d1, b2, d2, b3, d3, _, _, _, _, rfl, _, _⟩ := O.world_un o5'
    simp (disch := first | exact xD | fail) [-Option.bind_some, qs, -splice_eq, -stR_cells, qm, X5, E1.blk, E2.blk, E3.blk, X2, E4.blk, X4, E5.blk]
    refine Ret.bind (laws_cfWorld_z (o2.ext (F24.tr F45)).d o5.d) ?_
    rintro ⟨_, w6⟩ ⟨rfl, E6⟩
    have zE6 := E6.size
    try simp only [qz] at zE6
    try dsimp only at E6
    simp (disch := first | exact xD | fail) [-Option.bind_some, qs, -splice_eq, -stR_cells, qm, E1.blk, E2.blk, E3.blk, X2, E4.blk, X4, E5.blk, X5, E6.blk]
    exact hQ _ ⟨rfl, (E1.tr E2).tr ((F24.tr F45).tr E6)⟩
  · rw [plsNew_len, sessNew_len] at X4
    simp (disch := first | exact xD | fail) [-Option.bind_some, qs, -splice_eq, -stR_cells, qm, X4, plsNew_len, sessNew_len, E1.blk, E2.blk, E3.blk, X2, E4.blk]
    have o4 := o2.ext F24
    simp only [plsNew_len, sessNew_len, List.length_nil] at o4
    refine Ret.bind (impl_WorldOk_z hm hsN o4) ?_
    rintro ⟨_, w5⟩ ⟨rfl, E5⟩
    have zE5 := E5.size
    try simp only [qz] at zE5
    try dsimp only at E5
    have X5 := (E5.blk (hp_lt X4)).trans X4
    simp (disch := first | exact xD | fail) [-Option.bind_some, qs, -splice_eq, -stR_cells, qm, X5, E1.blk, E2.blk, E3.blk, X2, E4.blk, X4, E5.blk]
    refine Ret.bind (impl_WorldSafe_z hm hsN (o4.ext E5)) ?_
    rintro ⟨_, w6⟩ ⟨rfl, E6⟩
    have zE6 := E6.size
    try simp only [qz] at zE6
    try dsimp only at E6
    have X6 := (E6.blk (hp_lt X5)).trans X5
    simp (disch := first | exact xD | fail) [-Option.bind_some, qs, -splice_eq, -stR_cells, qm, X6, E1.blk, E2.blk, E3.blk, X2, E4.blk, X4, E5.blk, X5, E6.blk]
    refine Ret.bind (impl_WorldSame_z hm hsN ((o4.ext E5).ext E6)) ?_
    rintro ⟨_, w7⟩ ⟨rfl, E7⟩
    have zE7 := E7.size
    try simp only [qz] at zE7
    try dsimp only at E7
    have X7 := (E7.blk (hp_lt X6)).trans X6
    simp (disch := first | exact xD | fail) [-Option.bind_some, qs, -splice_eq, -stR_cells, qm, X7, beq_self_eq_true, E1.blk, E2.blk, E3.blk, X2, E4.blk, X4, E5.blk, X5, E6.blk, X6, E7.blk]
    exact hQ _ ⟨rfl, (E1.tr E2).tr (((F24.tr E5).tr E6).tr E7)⟩
end Go.Proofs.YtligcpabhddggaaGreat.X
