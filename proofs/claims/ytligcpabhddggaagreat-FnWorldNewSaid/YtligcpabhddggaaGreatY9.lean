/- A part of the proof, without conditions. -/
import Derived.Test.YtligcpabhddggaaGreatS46
import Derived.Test.YtligcpabhddggaaGreatEvHj
import Derived.Test.YtligcpabhddggaaGreatEvWp
set_option linter.unusedVariables false
set_option linter.unusedSimpArgs false
set_option maxRecDepth 100000
set_option maxHeartbeats 1000000
namespace Go.Proofs.YtligcpabhddggaaGreat.X
open Go Go.Ev Go.RowKit
theorem laws_cfPlace_n {a b : Option Addr} {c c' g2 g3 : Nat} {S S' : Nat → Prop} {xs : List (List Ver)} {me clock : Int} {x2 x3 y2 y3 : Value} {fl : Bool} {w0 : World} :
    ∀ (d k : Nat) (e : Env) (w : World), k + d = xs.length → e 2 = pt g2 0 → e 3 = pt g3 0 → e 5 = i64 k → hp w g2 = some (.cells #[i64 me, i64 clock, x2, x3, .slice a xs.length c, .bool fl] 48 (0, 0)) → hp w g3 = some (.cells #[i64 me, i64 clock, y2, y3, .slice b xs.length c', .bool fl] 48 (0, 0)) → D tVerSS S w0 [.slice a xs.length c] xs → D tVerSS S' w0 [.slice b xs.length c'] xs → Ext w0 w →
    Ret (laws_cfPlace_l1 e w) fun r => r.1 = .bool true ∧ Ext w0 r.2 := by
  intro d
  induction d with
  | zero =>
    intro k e w hd e2 e3 e5 X2 X3 ha hb E0
    have zE0 := E0.size
    try simp only [qz] at zE0
    rw [laws_cfPlace_l1_eq]
    obtain rfl : k = xs.length := by omega
    have y2 := hp_lt X2
    have y3 := hp_lt X3
    refine Ret.post fun Q hQ => ?_
    simp (disch := first | exact xD | fail) [-Option.bind_some, qs, -splice_eq, -stR_cells, qm, e2, e3, e5, X2, X3, E0.blk]
    exact hQ _ ⟨rfl, xE⟩
  | succ d ih =>
    intro k e w hd e2 e3 e5 X2 X3 ha hb E0
    have zE0 := E0.size
    try simp only [qz] at zE0
    rw [laws_cfPlace_l1_eq]
    have hlt : k < xs.length := by omega
    obtain ⟨x, hx, hdx⟩ := drop_at hlt
    have hn := ha.n
    have y2 := hp_lt X2
    have y3 := hp_lt X3
    obtain ⟨b1, o1, cs1, rfl, A1, D1, _, l1⟩ := (ha.ext E0).at (by decide) hx
    obtain ⟨a2, c2, rfl, D1⟩ := D1.sl'
    have p0 : cellO (hp w b1) (o1 + k) = some (.slice a2 x.length c2) := by have := A1 0 _ rfl; simpa only [LList_n, Nat.mul_one, Nat.add_zero] using this
    obtain ⟨b2, o2, cs2, rfl, A2, D2, _, l2⟩ := (hb.ext E0).at (by decide) hx
    obtain ⟨a3, c3, rfl, D2⟩ := D2.sl'
    have q0 : cellO (hp w b2) (o2 + k) = some (.slice a3 x.length c3) := by have := A2 0 _ rfl; simpa only [LList_n, Nat.mul_one, Nat.add_zero] using this
    refine Ret.post fun Q hQ => ?_
    simp (disch := first | exact xD | fail) [-Option.bind_some, qs, -splice_eq, -stR_cells, qm, e2, e3, e5, X2, X3, hlt, ia_46, p0, q0, E0.blk]
    refine Ret.bind (laws_cfVers_m (D1.ext xE) (D2.ext xE)) ?_
    rintro ⟨_, w1⟩ ⟨rfl, E1⟩
    try dsimp only at E1
    have zE1 := E1.size
    try simp only [qz] at zE1
    simp (disch := first | exact xD | fail) [-Option.bind_some, qs, -splice_eq, -stR_cells, qm, e2, e3, e5, X2, X3, E0.blk, hlt, E1.blk]
    exact Ret.mono (ih (k + 1) _ _ (by omega) xA xA xA (by first | assumption | rfl | (simp (disch := first | exact xD | fail) [-Option.bind_some, qs, -splice_eq, -stR_cells, qm, X2, e2, e3, e5, X3, E0.blk, hlt, E1.blk]; done)) (by first | assumption | rfl | (simp (disch := first | exact xD | fail) [-Option.bind_some, qs, -splice_eq, -stR_cells, qm, X3, e2, e3, e5, X2, E0.blk, hlt, E1.blk]; done)) ha hb xE) hQ
theorem laws_cfPlace_m {S S' : Nat → Prop} {cs ds : List Value} {x : PlaceD} {w : World} (ha : D tPlace S w cs x) (hb : D tPlace S' w ds x) :
    Ret (EV P 16 #[.agg cs.toArray, .agg ds.toArray] w) fun r => r.1 = .bool true ∧ Ext w r.2 := by
  obtain ⟨a, c, a1, c1, a2, c2, rfl, h1, h2, h3⟩ := D.place.1 ha
  obtain ⟨b, d, b1, d1, b2, d2, rfl, h4, h5, h6⟩ := D.place.1 hb
  refine Ret.post fun Q hQ => ?_
  refine Ret.enter plain mixed (laws_cfPlace_fn _ _ _) (by kernel_rfl) (n := 2) (by kernel_rfl) rfl ?_
  simp (disch := first | exact xD | fail) [-Option.bind_some, qs, -splice_eq, -stR_cells, qm, bne_self_eq_false]
  refine Ret.bind (laws_cfChain_m (h1.ext xE) (h4.ext xE)) ?_
  rintro ⟨_, w1⟩ ⟨rfl, E1⟩
  try dsimp only at E1
  have zE1 := E1.size
  try simp only [qz] at zE1
  simp (disch := first | exact xD | fail) [-Option.bind_some, qs, -splice_eq, -stR_cells, qm, bne_self_eq_false, E1.blk]
  refine Ret.bind (laws_cfVers_m (h2.ext xE) (h5.ext xE)) ?_
  rintro ⟨_, w2⟩ ⟨rfl, E2⟩
  try dsimp only at E2
  have zE2 := E2.size
  try simp only [qz] at zE2
  simp (disch := first | exact xD | fail) [-Option.bind_some, qs, -splice_eq, -stR_cells, qm, bne_self_eq_false, E1.blk, E2.blk]
  exact Ret.mono (laws_cfPlace_n (x2 := .slice a x.chain.length c) (x3 := .slice a1 x.log.length c1) (y2 := .slice b x.chain.length d) (y3 := .slice b1 x.log.length d1) (g2 := w.heap.size) (g3 := w.heap.size + 1) (me := x.me) (clock := x.clock) (fl := x.fell) x.got.length 0 _ _ (by omega) xA xA xA (by first | assumption | rfl | (simp (disch := first | exact xD | fail) [-Option.bind_some, qs, E1.blk, E2.blk]; done)) (by first | assumption | rfl | (simp (disch := first | exact xD | fail) [-Option.bind_some, qs, E1.blk, E2.blk]; done)) (h3.ext xE) (h6.ext xE) Ext.rfl) (fun r h => hQ r ⟨h.1, by have hh := h.2; exact xE⟩)
theorem nodeOk_z2 : nodeOk nodeZ = true := by decide +kernel
theorem fitsL_z2 : fitsL nodeZ.store nodeZ.wait nodeZ.store = true := by rw [fitsL.eq_def]; exact sameV_iff.2 rfl
theorem links_new2 : ∀ m, links (List.replicate m nodeZ) = true
  | 0 => rfl
  | 1 => rfl
  | m + 2 => by
    have h : links (nodeZ :: nodeZ :: List.replicate m nodeZ) = (fitsL nodeZ.store nodeZ.wait nodeZ.store && links (nodeZ :: List.replicate m nodeZ)) := by rw [links]
    show links (nodeZ :: nodeZ :: List.replicate m nodeZ) = true
    rw [h, fitsL_z2]
    exact links_new2 (m + 1)
theorem nodesGo_new (stable : List Tag) : ∀ m k, nodesGo stable 0 k (List.replicate m nodeZ) = true
  | 0, _ => rfl
  | m + 1, k => by
    rw [List.replicate_succ, nodesGo, nodesGo_new stable m (k + 1), Bool.and_true, List.all_eq_true]
    intro v hv
    have hvz : v = verZ := by
      rcases List.mem_append.1 hv with hv | hv
      · exact List.eq_of_mem_replicate hv
      · simp [nodeZ] at hv
    subst hvz
    have h1 : (verZ.tag == Tag.zero) = true := by decide
    simp only [placeV, h1, Bool.true_or, Bool.true_and]
    simp [verZ]
theorem placeOk_new {me nodes : Int} (h : placeNewB me nodes = true) : placeOkP (placeNewP me nodes) = true ∧ (placeNewP me nodes).me = me ∧ (placeNewP me nodes).log = [] ∧ ((placeNewP me nodes).chain.length : Int) = nodes ∧ 1 ≤ nodes := by
  have ep : placeNewP me nodes = ⟨me, 0, chainNewP nodes, [], List.replicate 3 [], false⟩ := by rw [placeNewP, if_pos h]
  have h2 := h
  simp only [placeNewB, Bool.and_eq_true, decide_eq_true_eq] at h2
  have hm : (decide (0 ≤ me) && decide (me ≤ 2)) = true := by simp only [Bool.and_eq_true, decide_eq_true_eq]; exact h2.1
  have en : (decide (1 ≤ nodes) && decide (nodes ≤ 4)) = true := by simp only [Bool.and_eq_true, decide_eq_true_eq]; exact h2.2
  have ec : chainNewP nodes = List.replicate nodes.toNat nodeZ := by simp [chainNewP, en]
  have hc : chainOk (List.replicate nodes.toNat nodeZ) = true := by
    rw [chainOk, links_new2]
    simp only [lenOk, List.length_replicate, Bool.and_eq_true, decide_eq_true_eq, List.all_replicate, nodeOk_z2]
    refine ⟨⟨⟨by omega, by omega⟩, by simp⟩, trivial⟩
  rw [ep, ec]
  refine ⟨?_, rfl, rfl, by simp only [List.length_replicate]; omega, h2.2.1⟩
  have hg : gotGo me 0 (List.replicate 3 []) = true := by
    have hl : ∀ i : Int, logOkP [] i = true := fun _ => rfl
    simp [List.replicate, gotGo, hl]
  simp only [placeOkP, hm, hc, nodesGo_new, hg]
  rfl
abbrev tDones : Lay (List Done) := LDones 78
theorem impl_formed_1_c (d : Done) (w : World) : Ret (EV P 42 #[.agg (doneC d).toArray] w) fun r => r.1 = .bool (!opOk d) ∧ Ext w r.2 := by
  refine Ret.post fun Q hQ => ?_
  refine Ret.enter plain mixed (impl_formed_1_fn _ _) (by kernel_rfl) (n := 1) (by kernel_rfl) rfl ?_
  simp (disch := first | exact xD | fail) [-Option.bind_some, qs, -splice_eq, -stR_cells, qm]
  refine Ret.bind (impl_within_c _ _ _ _) ?_
  rintro _ rfl
  unfold opOk at hQ
  cases b1 : (decide (0 ≤ d.sess) && decide (d.sess ≤ 3))
  · rw [b1] at hQ
    simp (disch := first | exact xD | fail) [-Option.bind_some, qs, -splice_eq, -stR_cells, qm]
    exact hQ _ ⟨by simp, xE⟩
  simp (disch := first | exact xD | fail) [-Option.bind_some, qs, -splice_eq, -stR_cells, qm]
  refine Ret.bind (impl_within_c _ _ _ _) ?_
  rintro _ rfl
  cases b2 : (decide (1 ≤ d.kind) && decide (d.kind ≤ 3))
  · rw [b2] at hQ
    simp (disch := first | exact xD | fail) [-Option.bind_some, qs, -splice_eq, -stR_cells, qm]
    exact hQ _ ⟨by simp, xE⟩
  simp (disch := first | exact xD | fail) [-Option.bind_some, qs, -splice_eq, -stR_cells, qm]
  refine Ret.bind (impl_keyOk_c _ _) ?_
  rintro _ rfl
  cases b3 : keyOk d.key
  · rw [show (decide (0 ≤ d.key) && decide (d.key ≤ 3)) = false from b3] at hQ
    simp (disch := first | exact xD | fail) [-Option.bind_some, qs, -splice_eq, -stR_cells, qm]
    exact hQ _ ⟨by simp, xE⟩
  simp (disch := first | exact xD | fail) [-Option.bind_some, qs, -splice_eq, -stR_cells, qm]
  refine Ret.bind (impl_TagOk_c d.tag _) ?_
  rintro ⟨_, w1⟩ ⟨rfl, E1⟩
  try dsimp only at E1
  have zE1 := E1.size
  try simp only [qz] at zE1
  cases b4 : tagOk d.tag
  · rw [b4] at hQ
    simp (disch := first | exact xD | fail) [-Option.bind_some, qs, -splice_eq, -stR_cells, qm, E1.blk]
    exact hQ _ ⟨by simp, xE⟩
  rw [b1, b2, b4, show (decide (0 ≤ d.key) && decide (d.key ≤ 3)) = true from b3] at hQ
  have hz : ((d.tag.t == 0) && (d.tag.p == 0)) = !decide (0 < d.tag.t) := by
    rw [Bool.eq_iff_iff]
    simp only [tagOk, Bool.or_eq_true, Bool.and_eq_true, beq_iff_eq, decide_eq_true_eq] at b4
    simp only [Bool.and_eq_true, beq_iff_eq, Bool.not_eq_true', decide_eq_false_iff_not]
    omega
  cases b6 : decide (0 < d.tag.t)
  · rw [b6] at hQ hz
    cases b5 : (d.kind == 2)
    · rw [b5] at hQ
      have b5' : (d.kind != 2) = true := by rw [bne, b5]; rfl
      simp (disch := first | exact xD | fail) [-Option.bind_some, qs, -splice_eq, -stR_cells, qm, b5', hz, E1.blk]
      exact hQ _ ⟨by simp, xE⟩
    · rw [b5] at hQ
      have b5' : (d.kind != 2) = false := by rw [bne, b5]; rfl
      simp (disch := first | exact xD | fail) [-Option.bind_some, qs, -splice_eq, -stR_cells, qm, b5', hz, E1.blk]
      exact hQ _ ⟨by simp, xE⟩
  · rw [b6] at hQ hz
    simp (disch := first | exact xD | fail) [-Option.bind_some, qs, -splice_eq, -stR_cells, qm, hz, E1.blk]
    exact hQ _ ⟨by simp, xE⟩
theorem slices_IndexFunc_Done_n {a : Option Addr} {c : Nat} {S : Nat → Prop} {f : Value} {xs : List Done} {p : Done → Bool} {w0 : World} (hf : ∀ x ∈ xs, ∀ w, Ext w0 w → Ret (clo P f #[.agg (doneC x).toArray] w) fun r => r.1 = .bool (p x) ∧ Ext w r.2) :
    ∀ (d k : Nat) (e : Env) (w : World), k + d = xs.length → e 0 = .slice a xs.length c → e 1 = f → e 7 = i64 xs.length → e 8 = i64 k → D tDones S w0 [.slice a xs.length c] xs → Ext w0 w →
    Ret (slices_IndexFunc_Done_l1 e w) fun r => ∃ i : Int, r.1 = i64 i ∧ decide (0 ≤ i) = (xs.drop k).any p ∧ Ext w0 r.2 := by
  intro d
  induction d with
  | zero =>
    intro k e w hd e0 e1 e7 e8 ha E0
    have zE0 := E0.size
    try simp only [qz] at zE0
    rw [slices_IndexFunc_Done_l1_eq]
    obtain rfl : k = xs.length := by omega
    rw [List.drop_eq_nil_of_le (by omega)]
    refine Ret.post fun Q hQ => ?_
    simp (disch := first | exact xD | fail) [-Option.bind_some, qs, -splice_eq, -stR_cells, qm, e0, e1, e7, e8, E0.blk]
    exact hQ _ ⟨_, rfl, by simp, E0⟩
  | succ d ih =>
    intro k e w hd e0 e1 e7 e8 ha E0
    have zE0 := E0.size
    try simp only [qz] at zE0
    rw [slices_IndexFunc_Done_l1_eq]
    have hlt : k < xs.length := by omega
    obtain ⟨x, hx, hdx⟩ := drop_at hlt
    have hn := ha.n
    obtain ⟨b1, o1, cs1, rfl, A1, D1, _, l1⟩ := (ha.ext E0).at (by decide) hx
    obtain rfl := D.done.1 D1
    have p0 := A1 0 _ rfl
    have p1 := A1 1 _ rfl
    have p2 := A1 2 _ rfl
    have p3 := A1 3 _ rfl
    have p4 := A1 4 _ rfl
    simp only [LVer_n, LTag_n, LNode_n, Nat.add_zero] at p0 p1 p2 p3 p4
    simp only [LDone_n] at p0 p1 p2 p3 p4
    rw [hdx, List.any_cons]
    refine Ret.post fun Q hQ => ?_
    simp (disch := first | exact xD | fail) [-Option.bind_some, qs, -splice_eq, -stR_cells, qm, e0, e1, e7, e8, hlt, ia_28, E0.blk, p0, p1, p2, p3, p4]
    refine Ret.bind (hf x (List.mem_of_getElem? hx) _ E0) ?_
    rintro ⟨_, w1⟩ ⟨rfl, E1⟩
    try dsimp only at E1
    have zE1 := E1.size
    try simp only [qz] at zE1
    cases ho : p x
    · rw [ho] at hQ
      simp (disch := first | exact xD | fail) [-Option.bind_some, qs, -splice_eq, -stR_cells, qm, e0, e1, e7, e8, E0.blk, hlt, p0, p1, p2, p3, p4, E1.blk]
      exact Ret.mono (ih (k + 1) _ _ (by omega) xA xA xA xA ha xE) (fun r h => hQ r (by simpa using h))
    · rw [ho] at hQ
      simp (disch := first | exact xD | fail) [-Option.bind_some, qs, -splice_eq, -stR_cells, qm, e0, e1, e7, e8, E0.blk, hlt, p0, p1, p2, p3, p4, E1.blk]
      exact hQ _ ⟨_, rfl, by simp, xE⟩
theorem slices_ContainsFunc_Done_m {a : Option Addr} {n c : Nat} {S : Nat → Prop} {f : Value} {xs : List Done} {p : Done → Bool} {w : World} (ha : D tDones S w [.slice a n c] xs) (hf : ∀ x ∈ xs, ∀ w', Ext w w' → Ret (clo P f #[.agg (doneC x).toArray] w') fun r => r.1 = .bool (p x) ∧ Ext w' r.2) :
    Ret (EV P 41 #[.slice a n c, f] w) fun r => r.1 = .bool (xs.any p) ∧ Ext w r.2 := by
  obtain ⟨rfl, hm, _⟩ := ha.n
  have hi : Ret (EV P 67 #[.slice a xs.length c, f] w) fun r => ∃ i : Int, r.1 = i64 i ∧ decide (0 ≤ i) = xs.any p ∧ Ext w r.2 := by
    refine Ret.enter plain mixed (slices_IndexFunc_Done_fn _ _ _) (by kernel_rfl) (n := 2) (by kernel_rfl) rfl ?_
    simp (disch := first | exact xD | fail) [-Option.bind_some, qs]
    exact slices_IndexFunc_Done_n hf xs.length 0 _ w (by omega) rfl rfl rfl rfl ha Ext.rfl
  refine Ret.enter plain mixed (slices_ContainsFunc_Done_fn _ _ _) (by kernel_rfl) (n := 2) (by kernel_rfl) rfl ?_
  simp (disch := first | exact xD | fail) [-Option.bind_some, qs]
  refine Ret.bind hi ?_
  rintro ⟨_, w1⟩ ⟨i, rfl, h2, hE⟩
  simp (disch := first | exact xD | fail) [-Option.bind_some, qs, h2]
  exact hE
theorem impl_formed_m {a : Option Addr} {n c : Nat} {S : Nat → Prop} {xs : List Done} {w : World} (ha : D tDones S w [.slice a n c] xs) :
    Ret (EV P 21 #[.slice a n c] w) fun r => r.1 = .bool (formP xs) ∧ Ext w r.2 := by
  obtain ⟨rfl, hm, _⟩ := ha.n
  have hq : decide ((xs.length : Int) ≤ 80) = decide (xs.length ≤ 80) := by rw [Bool.eq_iff_iff]; simp only [decide_eq_true_eq]; omega
  refine Ret.post fun Q hQ => ?_
  refine Ret.enter plain mixed (impl_formed_fn _ _) (by kernel_rfl) (n := 1) (by kernel_rfl) rfl ?_
  cases h : decide (xs.length ≤ 80)
  · simp (disch := first | exact xD | fail) [-Option.bind_some, qs, -splice_eq, -stR_cells, qm, hq, h]
    exact hQ _ ⟨by simp [formP, h], xE⟩
  · simp (disch := first | exact xD | fail) [-Option.bind_some, qs, -splice_eq, -stR_cells, qm, hq, h]
    refine Ret.bind (slices_ContainsFunc_Done_m (p := fun x => !opOk x) (ha.ext xE) (fun x _ w' E' => by have := clo_eq (P := P) (g := 42) (by kernel_rfl) [] [] [.agg (doneC x).toArray] w'; exact (by simpa using this : clo P (.func (.func 42) #[] #[]) #[.agg (doneC x).toArray] w' = _) ▸ impl_formed_1_c x w')) ?_
    rintro ⟨_, w1⟩ ⟨rfl, E1⟩
    try dsimp only at E1
    have zE1 := E1.size
    try simp only [qz] at zE1
    simp (disch := first | exact xD | fail) [-Option.bind_some, qs, -splice_eq, -stR_cells, qm, E1.blk]
    refine hQ _ ⟨?_, xE⟩
    rw [formP, h, Bool.and_true]
    congr 1
    rw [List.all_eq_not_any_not]
theorem impl_Past_join_m {a b : Option Addr} {c c' : Nat} {S S' : Nat → Prop} {xs ys : List Tag} {w : World} (hl : xs.length = ys.length) (ha : D tTags S w [.slice a xs.length c] xs) (hb : D tTags S' w [.slice b ys.length c'] ys) :
    Ret (EV P 58 #[.agg #[.slice a xs.length c], .agg #[.slice b ys.length c']] w) fun r => ∃ a2 c2, r.1 = .agg #[.slice a2 (joinT xs ys).length c2] ∧ O tTags (In w.heap.size r.2.heap.size) r.2 [.slice a2 (joinT xs ys).length c2] (joinT xs ys) ∧ Ext w r.2 := by
  refine Ret.mono (impl_Past_join_c hl ha.rTags hb.rTags) ?_
  rintro r ⟨s', h1, h2, h3⟩
  obtain ⟨a2, c2, hs, h4⟩ := (tags_o h2).sl'
  simp only [List.cons.injEq, and_true] at hs
  subst hs
  exact ⟨a2, c2, h1, h4, h3⟩
theorem impl_Past_with_m {a : Option Addr} {c : Nat} {S : Nat → Prop} {xs : List Tag} {t : Tag} {k : Nat} {w : World} (hk : k < xs.length) (ha : D tTags S w [.slice a xs.length c] xs) :
    Ret (EV P 105 #[.agg #[.slice a xs.length c], i64 k, .agg #[i64 t.t, i64 t.p]] w) fun r => ∃ a2 c2, r.1 = .agg #[.slice a2 (withT xs k t).length c2] ∧ O tTags (In w.heap.size r.2.heap.size) r.2 [.slice a2 (withT xs k t).length c2] (withT xs k t) ∧ Ext w r.2 := by
  have hn := ha.n
  rw [withT_len]
  refine Ret.post fun Q hQ => ?_
  refine Ret.enter plain mixed (impl_Past_with_fn _ _ _ _) (by kernel_rfl) (n := 3) (by kernel_rfl) rfl ?_
  simp (disch := first | exact xD | fail) [-Option.bind_some, qs, -splice_eq, -stR_cells, qm]
  refine Ret.bind (impl_Past_copied_n (ha.ext xE)) ?_
  rintro ⟨_, w1⟩ ⟨a1, c1, rfl, o1, E1⟩
  try dsimp only at a1 c1 o1 E1
  have zE1 := E1.size
  try simp only [qz] at zE1
  have F1 : Ext w w1 := xE
  obtain ⟨x, hx, _⟩ := drop_at hk
  have hgd : xs.getD k ⟨0, 0⟩ = x := by rw [List.getD_eq_getElem?_getD, hx]; rfl
  obtain ⟨g, cur, cs, S1, rfl, hSg, hgl, hg, hle, hx1, hS1, put⟩ := o1.row (by decide) hx
  obtain rfl := O.tag.1 hx1
  simp only [LTag_n] at hg hle put
  simp only [In, World.size_alloc] at hSg
  have hk0 : (k : Int) < xs.length := by omega
  simp (disch := first | exact xD | fail) [-Option.bind_some, qs, -splice_eq, -stR_cells, qm, hk, hk0, ia_49, hg, E1.blk]
  refine Ret.bind (impl_TagMax_c x t _) ?_
  rintro ⟨_, w2⟩ ⟨rfl, E2⟩
  try dsimp only at E2
  have zE2 := E2.size
  try simp only [qz] at zE2
  simp (disch := first | exact xD | fail) [-Option.bind_some, qs, -splice_eq, -stR_cells, qm, hk, hk0, ia_49, hg, E1.blk, E2.blk]
  have hset : withT xs k t = xs.set k (tagMax x t) := by unfold withT; rw [hgd]
  have E12 : Ext w w2 := xE
  have zE12 := E12.size
  try simp only [qz] at zE12
  refine hQ _ ⟨_, _, rfl, ?_, Ext.set (Ext.set E12 (by omega) _) (by omega) _⟩
  rw [hset]
  refine O.wide (put _ _ (tagMax x t) (fun _ => False) (O.tag.2 rfl) (by first | assumption | rfl | (simp (disch := first | exact xD | fail) [-Option.bind_some, qs, -splice_eq, -stR_cells, qm, hg, E1.blk, E2.blk, E12.blk]; done)) ?_ (fun _ _ h => h.elim)) ?_
  · intro b h1 h2 h3 h4
    simp only [World.size_alloc, In] at h2
    simp (disch := (first | assumption | omega | (simp only [World.size_alloc, size_setRow, dw_size] <;> omega))) only [E2.blk, hp_alloc_lt, hp_set_ne, hp_dw]
  intro b h hb
  (try dsimp only at hb)
  simp only [size_setRow, World.size_alloc, In] at *
  rcases h with h | h
  · omega
  · exact h.elim
abbrev tagM : TagM P 129 53 134 (.agg #[i64 0, i64 0, .slice none 0 0]) := ⟨Tryz.underlying129, ⟨_, _, Tryz.underlying53, by kernel_rfl, by kernel_rfl, ⟨by simp, by simp, rfl, rfl⟩⟩, by kernel_rfl, by kernel_rfl⟩
/-- A book in the heap: its block, its map. -/
def Bk (w : World) (S : Nat → Prop) (g m : Nat) (cur : List Value) (b : Book) : Prop :=
  Vw tTags w S 132 g cur b.vs ∧ cur.length = 5 ∧ cur[4]? = some (.map (some m)) ∧ Mp tTags w S m b.wr ∧ g ≠ m ∧ g < w.heap.size ∧ m < w.heap.size ∧ ¬ S g ∧ ¬ S m ∧ ∀ x, S x → x < w.heap.size
theorem Bk.keep {w w' : World} {S : Nat → Prop} {g m : Nat} {cur : List Value} {b : Book} (h : Bk w S g m cur b) (k : Ext w w') : Bk w' S g m cur b := by
  obtain ⟨h1, h2, h3, h4, h5, h6, h7, h8, h9, h10⟩ := h
  have hs := k.size
  exact ⟨h1.keep (k.blk h6) (fun x hx hl => k.blk hl) (fun x hx _ => hx), h2, h3, h4.keep (k.blk h7) (fun x hx hl => k.blk hl) (fun x hx _ => hx), h5, by omega, by omega, h8, h9, fun x hx => by have := h10 x hx; omega⟩
theorem impl_bookNew_n {g : Nat} {w0 : World} (hg0 : w0.heap.size ≤ g) : ∀ (d k : Nat) (e : Env) (w : World) (S : Nat → Prop) (m : Nat) (cur : List Value) (vs : List (List Tag)), k + d = 4 → vs.length = k → (∀ v ∈ vs, v = List.replicate 4 ⟨0, 0⟩) → e 1 = pt g 0 → e 6 = i64 k → w0.heap.size ≤ m → (∀ x, S x → w0.heap.size ≤ x) → Ext w0 w → Bk w S g m cur ⟨vs, []⟩ →
    Ret (impl_bookNew_l1 e w) fun r => r.1 = pt g 0 ∧ Ext w0 r.2 ∧ ∃ S m cur, w0.heap.size ≤ m ∧ (∀ x, S x → w0.heap.size ≤ x) ∧ Bk r.2 S g m cur book0 := by
  intro d
  induction d with
  | zero =>
    intro k e w S m cur vs hd hv hz e1 e6 hm hS E0 hb
    have zE0 := E0.size
    try simp only [qz] at zE0
    rw [impl_bookNew_l1_eq]
    obtain rfl : k = 4 := by omega
    have hvs : vs = List.replicate 4 (List.replicate 4 ⟨0, 0⟩) := List.eq_replicate_iff.2 ⟨hv, hz⟩
    subst hvs
    refine Ret.post fun Q hQ => ?_
    simp (disch := first | exact xD | fail) [-Option.bind_some, qs, -splice_eq, -stR_cells, qm, e1, e6, E0.blk]
    exact hQ _ ⟨rfl, E0, S, m, cur, hm, hS, hb⟩
  | succ d ih =>
    intro k e w S m cur vs hd hv hz e1 e6 hm hS E0 hb
    have zE0 := E0.size
    try simp only [qz] at zE0
    rw [impl_bookNew_l1_eq]
    have hlt : k < 4 := by omega
    have hk0 : (k : Int) < 4 := by omega
    obtain ⟨⟨X1, hc4, hvs⟩, hc5, hc, hmp, hgm, hgl, hml, hSg, hSm, hSl⟩ := hb
    refine Ret.post fun Q hQ => ?_
    simp (disch := first | exact xD | fail) [-Option.bind_some, qs, -splice_eq, -stR_cells, qm, e1, e6, hlt, hk0, nk_ptr, E0.blk, X1]
    refine Ret.bind (impl_PastNone_m) ?_
    rintro ⟨_, w1⟩ ⟨a1, c1, rfl, o1, E1⟩
    try dsimp only at a1 c1 o1 E1
    have zE1 := E1.size
    try simp only [qz] at zE1
    have zE1' := E1.size
    have hl1 : (List.replicate 4 (⟨0, 0⟩ : Tag)).length = 4 := rfl
    have hXg : hp w1 g = some (.cells cur.toArray 132 (0, 0)) := (E1.blk hgl).trans X1
    have F1 : Ext w w1 := (dw_ext w).tr E1
    have hfl : splice cur k [.slice a1 4 c1] = cur.set k (.slice a1 4 c1) := by
      unfold splice
      rw [List.set_eq_take_append_cons_drop, if_pos (by omega)]
      rfl
    simp (disch := first | exact xD | fail) [-Option.bind_some, qs, -splice_eq, -stR_cells, qm, e1, e6, hlt, hk0, nk_ptr, ia_arr (P := P) Tryz.underlying130 (by kernel_rfl : szB P 51 = some 1), hXg, hc5, stR_put, E0.blk, X1, E1.blk]
    have y1 : m < w1.heap.size := by have := F1.size; omega
    have y2 : g < w1.heap.size := by have := F1.size; omega
    have oD := o1.d
    have V1 : Vw tTags w1 (fun x => S x ∨ In (dw w).heap.size w1.heap.size x) 132 g cur vs :=
      Vw.keep (w := w) (S := S) ⟨X1, by omega, hvs⟩ (F1.blk hgl) (fun b _ hb => F1.blk hb) (fun b hb _ => .inl hb)
    have hg1 : ¬ (S g ∨ In (dw w).heap.size w1.heap.size g) := by
      rintro (h | h)
      · exact hSg h
      · simp only [In, dw_size] at h; omega
    have hm1 : ¬ (S m ∨ In (dw w).heap.size w1.heap.size m) := by
      rintro (h | h)
      · exact hSm h
      · simp only [In, dw_size] at h; omega
    have happ : Vw tTags (w1.setRow g (splice cur k [.slice a1 4 c1]).toArray) (fun x => S x ∨ In (dw w).heap.size w1.heap.size x) 132 g (splice cur k [.slice a1 4 c1]) (vs ++ [List.replicate 4 ⟨0, 0⟩]) := by
      obtain ⟨k1, k2, k3⟩ := V1
      have kk : ∀ b, (S b ∨ In (dw w).heap.size w1.heap.size b) → b < w1.heap.size → hp (w1.setRow g (splice cur k [.slice a1 4 c1]).toArray) b = hp w1 b := fun b hb _ => hp_set_ne (fun e => hg1 (e ▸ hb))
      refine ⟨by rw [hp_set_eq, k1]; rfl, by rw [hfl]; simp; omega, fun j v hj' => ?_⟩
      by_cases hj : j = k
      · rw [hj, ← hv, List.getElem?_append_right (by omega), Nat.sub_self] at hj'
        obtain rfl := Option.some.inj hj'
        refine ⟨a1, c1, by rw [hfl, hj, List.getElem?_set_self (by omega)]; rfl, (oD.wide (fun b hb _ => .inr hb)).keep kk⟩
      · have hj2 : j < vs.length := by
          have := (List.getElem?_eq_some_iff.1 hj').1
          simp only [List.length_append, List.length_cons, List.length_nil] at this
          omega
        rw [List.getElem?_append_left hj2] at hj'
        obtain ⟨a', c', h4, h5⟩ := k3 j v hj'
        exact ⟨a', c', by rw [hfl, List.getElem?_set_ne (Ne.symm hj)]; exact h4, h5.keep kk⟩
    refine Ret.mono (ih (k + 1) _ _ (fun x => S x ∨ In (dw w).heap.size w1.heap.size x) m (splice cur k [.slice a1 4 c1]) (vs ++ [List.replicate 4 ⟨0, 0⟩]) (by omega) (by simp; omega) ?_ xA xA hm ?_ (Ext.set (E0.tr F1) hg0 _) ⟨happ, ?_, ?_, ?_, hgm, by simpa using y2, by simpa using y1, hg1, hm1, ?_⟩) hQ
    · intro v hvm
      rcases List.mem_append.1 hvm with h | h
      · exact hz v h
      · simpa using h
    · rintro x (h | h)
      · exact hS x h
      · have := E0.size
        simp only [In, dw_size] at h
        omega
    · rw [hfl, List.length_set]; exact hc5
    · rw [hfl, List.getElem?_set_ne (by omega)]; exact hc
    · refine hmp.keep ((hp_set_ne (Ne.symm hgm)).trans (F1.blk hml)) (fun b hb hl => (hp_set_ne (by intro e; subst e; exact hSg hb)).trans (F1.blk hl)) (fun b hb _ => .inl hb)
    · rintro x (h | h)
      · have := hSl x h
        have := F1.size
        simp only [size_setRow]
        omega
      · simp only [In, dw_size, size_setRow] at *
        omega
theorem impl_bookNew_m {w : World} : Ret (EV P 101 #[] w) fun r => ∃ g S m cur, r.1 = pt g 0 ∧ Ext w r.2 ∧ w.heap.size ≤ g ∧ w.heap.size ≤ m ∧ (∀ x, S x → w.heap.size ≤ x) ∧ Bk r.2 S g m cur book0 := by
  refine Ret.post fun Q hQ => ?_
  refine Ret.enter plain mixed (impl_bookNew_fn _) (by kernel_rfl) (n := 0) (by kernel_rfl) rfl ?_
  simp (disch := first | exact xD | fail) [-Option.bind_some, qs, -splice_eq, -stR_cells, qm, mm_map]
  refine Ret.mono (impl_bookNew_n (w0 := w) (g := w.heap.size + 1) (by omega) 4 0 _ _ (fun _ => False) w.heap.size [.slice none 0 0, .slice none 0 0, .slice none 0 0, .slice none 0 0, .map (some w.heap.size)] [] (by omega) rfl (by simp) xA xA (Nat.le_refl _) (fun _ h => h.elim) xE ⟨⟨(by first | assumption | rfl | (simp (disch := first | exact xD | fail) [-Option.bind_some, qs, -splice_eq, -stR_cells, qm]; done)), by simp, by simp⟩, rfl, rfl, ⟨[], (by first | assumption | rfl | (simp (disch := first | exact xD | fail) [-Option.bind_some, qs, -splice_eq, -stR_cells, qm]; done)), trivial⟩, by omega, by simp, by simp; omega, id, id, fun _ h => h.elim⟩) ?_
  rintro r ⟨h1, h2, S, m, cur, h3, h4, h5⟩
  exact hQ _ ⟨_, S, m, cur, h1, h2, by omega, h3, h4, h5⟩
theorem Bk.upd {w w3 : World} {S : Nat → Prop} {g m i lo : Nat} {cur : List Value} {b : Book} (h : Bk w S g m cur b) (F : Ext w w3) (hi : i < b.vs.length) (hi4 : i < 4) (hlo : w.heap.size ≤ lo) {a : Option Addr} {c : Nat} {x : List Tag}
    (hx : D tTags (In lo w3.heap.size) w3 [.slice a x.length c] x) : Bk (w3.setRow g (splice cur i [.slice a x.length c]).toArray) (fun y => S y ∨ In lo w3.heap.size y) g m (splice cur i [.slice a x.length c]) ⟨b.vs.set i x, b.wr⟩ := by
  obtain ⟨k1, k2, k3, k4, k5, k6, k7, k8, k9, k10⟩ := h
  have hs := F.size
  have hfl : splice cur i [.slice a x.length c] = cur.set i (.slice a x.length c) := by
    have := k1.2.1
    unfold splice
    rw [List.set_eq_take_append_cons_drop, if_pos (by omega)]
    rfl
  have hg1 : ¬ (S g ∨ In lo w3.heap.size g) := by
    rintro (h | h)
    · exact k8 h
    · simp only [In] at h; omega
  have V := Vw.keep (S' := fun y => S y ∨ In lo w3.heap.size y) k1 (F.blk k6) (fun b _ hb => F.blk hb) (fun b hb _ => .inl hb)
  refine ⟨V.put hg1 hi (hx.wide fun b hb _ => .inr hb) rfl, by rw [hfl, List.length_set]; exact k2, ?_, ?_, k5, by simp; omega, by simp; omega, hg1, ?_, ?_⟩
  · rw [hfl, List.getElem?_set_ne (by omega)]
    exact k3
  · exact k4.keep ((hp_set_ne (Ne.symm k5)).trans (F.blk k7)) (fun b hb hl => (hp_set_ne (by intro e; subst e; exact k8 hb)).trans (F.blk hl)) (fun b hb _ => .inl hb)
  · rintro (h | h)
    · exact k9 h
    · simp only [In] at h; omega
  · rintro y (h | h)
    · have := k10 y h
      simp; omega
    · simp only [In] at h
      simp; omega
theorem Bk.wrote {w w3 : World} {S : Nat → Prop} {g m : Nat} {cur : List Value} {b : Book} {l : List (Tag × Value)} (h : Bk w S g m cur b) (F : Ext w w3) (hl : hp w m = some (mapO l)) {t : Tag} {s k : Int} {a : Option Addr} {c : Nat} {x : List Tag}
    (hx : D tTags S w [.slice a x.length c] x) : Bk (setM w3 m (mapO (l ++ [(t, .agg #[i64 s, i64 k, .slice a x.length c])]))) S g m cur ⟨b.vs, b.wr ++ [(t, s, k, x)]⟩ := by
  obtain ⟨k1, k2, k3, ⟨l', k4, k4'⟩, k5, k6, k7, k8, k9, k10⟩ := h
  have hs := F.size
  obtain rfl : l = l' := mapO_inj (Option.some.inj (hl.symm.trans k4))
  have hne : ∀ b, S b → b ≠ m := fun b hb e => k9 (e ▸ hb)
  have kk : ∀ b, S b → b < w.heap.size → hp (setM w3 m (mapO (l ++ [(t, .agg #[i64 s, i64 k, .slice a x.length c])]))) b = hp w b := fun b hb hb' => (hp_setM_ne (hne b hb)).trans (F.blk hb')
  refine ⟨k1.keep ((hp_setM_ne k5).trans (F.blk k6)) kk (fun b hb _ => hb), k2, k3, ⟨_, hp_setM_eq (by omega), ?_⟩, k5, by rw [size_setM]; omega, by rw [size_setM]; omega, k8, k9, fun y hy => by have := k10 y hy; rw [size_setM]; omega⟩
  refine All2.app (k4'.imp fun p q h => ?_) ⟨rfl, a, c, rfl, hx.keep kk⟩
  obtain ⟨h3, a', c', h4, h5⟩ := h
  exact ⟨h3, a', c', h4, h5.keep kk⟩
set_option maxHeartbeats 6000000 in
theorem impl_book_add_m {w : World} {S : Nat → Prop} {g m : Nat} {cur : List Value} {b : Book} {d : Done} (hb : Bk w S g m cur b) (hok : b.Ok) (hd : opOk d = true) :
    Ret (EV P 102 #[pt g 0, .agg (doneC d).toArray] w) fun r => r.1 = .bool (hstep b d).isSome ∧ (hstep b d = none → Ext w r.2) ∧ Ev.Mod (fun x => x = g ∨ x = m) w r.2 ∧ ∀ b', hstep b d = some b' → ∃ S' cur', Bk r.2 S' g m cur' b' ∧ ∀ x, S' x → S x ∨ w.heap.size ≤ x := by
  have hb' := hb
  obtain ⟨⟨X1, hc4, hvs⟩, hc5, hc, ⟨l, Xm, hrel⟩, hgm, hgl, hml, hSg, hSm, hSl⟩ := hb
  obtain ⟨⟨hs0, hs3⟩, ⟨hk1, hk3⟩, ⟨hy0, hy3⟩, htag, hkt⟩ := opOk_iff.1 hd
  have hvl := view_len hok hd
  obtain ⟨a, c, hcell, hD⟩ := hvs _ _ (view_get hok hd)
  have q0 : nth cur d.sess.toNat = some (.slice a (view b d).length c) := by rw [← nth_eq]; exact hcell
  have q4 : nth cur 4 = some (.map (some m)) := by rw [← nth_eq]; exact hc
  have hD' := hD
  rw [hvl] at q0 hD
  have hs4 : d.sess < 4 := by omega
  have hy4 : d.key < 4 := by omega
  have hz : ((d.tag.t == 0) && (d.tag.p == 0)) = !decide (0 < d.tag.t) := by
    rw [Bool.eq_iff_iff]
    simp only [tagOk, Bool.or_eq_true, Bool.and_eq_true, beq_iff_eq, decide_eq_true_eq] at htag
    simp only [Bool.and_eq_true, beq_iff_eq, Bool.not_eq_true', decide_eq_false_iff_not]
    omega
  refine Ret.post fun Q hQ => ?_
  refine Ret.enter plain mixed (impl_book_add_fn _ _ _) (by kernel_rfl) (n := 2) (by kernel_rfl) rfl ?_
  cases hkind : (d.kind == 1)
  · have hlt : d.key.toNat < (view b d).length := by omega
    obtain ⟨x, hx, _⟩ := drop_at hlt
    have hgd : (view b d).getD d.key.toNat ⟨0, 0⟩ = x := by rw [List.getD_eq_getElem?_getD, hx]; rfl
    obtain ⟨b1, o1, cs1, rfl, A1, D1, hSb1, l1⟩ := hD.at (by decide) hx
    obtain rfl := D.tag.1 D1
    have p0 := A1 0 _ rfl
    have p1 := A1 1 _ rfl
    simp only [LVer_n, LTag_n, LNode_n, Nat.add_zero] at p0 p1
    have hk2 : ¬ d.kind = 1 := by simpa using hkind
    have hst : hstep b d = if tagLess d.tag x then none else if decide (0 < d.tag.t) then (match wfind b.wr d.tag with
      | none => none
      | some (s, k, past) => if k != d.key || ((d.kind == 3) && (s != d.sess)) then none else some ⟨b.vs.set d.sess.toNat (withT (joinT (view b d) past) d.key.toNat d.tag), b.wr⟩) else some b := by
      unfold hstep
      rw [hkind, hgd]
      rfl
    rw [hst] at hQ
    rcases mfind_rel hrel d.tag with ⟨m1, m2⟩ | ⟨s, k, past, a2, c2, m1, m2, D2⟩
    · simp (disch := first | exact xD | fail) [-Option.bind_some, qs, -splice_eq, -stR_cells, qm, hkind, nk_ptr, ia_arr (P := P) Tryz.underlying130 (by kernel_rfl : szB P 51 = some 1), X1, Xm, hs0, hs4, q0, q4, lk_lkR tagM, lkR_map, m1, hy0, hy4, ia_49, hlt, p0, p1]
      refine Ret.bind (impl_TagLess_c d.tag x _) ?_
      rintro ⟨_, w1⟩ ⟨rfl, E1⟩
      try dsimp only at E1
      have zE1 := E1.size
      try simp only [qz] at zE1
      have F1 : Ext w w1 := xE
      simp only [m2] at hQ
      cases hless : tagLess d.tag x
      · cases hpos : decide (0 < d.tag.t)
        · rw [hpos] at hz
          simp (disch := first | exact xD | fail) [-Option.bind_some, qs, -splice_eq, -stR_cells, qm, hless, hz, hpos, Tag.v, X1, hlt, p0, p1, E1.blk]
          refine hQ _ ⟨by simp [hless, hpos], fun hn2 => by first | (simp [hless, hpos] at hn2; done) | exact xE, xM, fun b' hb2 => ?_⟩
          simp [hless, hpos] at hb2
          subst hb2
          exact ⟨S, cur, hb'.keep xE, fun x hx => .inl hx⟩
        · rw [hpos] at hz
          simp (disch := first | exact xD | fail) [-Option.bind_some, qs, -splice_eq, -stR_cells, qm, hless, hz, hpos, Tag.v, X1, hlt, p0, p1, E1.blk]
          refine hQ _ ⟨by simp [hless, hpos], fun hn2 => by first | (simp [hless, hpos] at hn2; done) | exact xE, xM, fun b' hb2 => ?_⟩
          simp [hless, hpos] at hb2
      · simp (disch := first | exact xD | fail) [-Option.bind_some, qs, -splice_eq, -stR_cells, qm, hless, X1, hlt, p0, p1, E1.blk]
        refine hQ _ ⟨by simp [hless], fun hn2 => by first | (simp [hless] at hn2; done) | exact xE, xM, fun b' hb2 => ?_⟩
        simp [hless] at hb2
    · have hpl : past.length = 4 := hok.2.2 _ (wfind_mem m2)
      simp (disch := first | exact xD | fail) [-Option.bind_some, qs, -splice_eq, -stR_cells, qm, hkind, nk_ptr, ia_arr (P := P) Tryz.underlying130 (by kernel_rfl : szB P 51 = some 1), X1, Xm, hs0, hs4, q0, q4, lk_lkR tagM, lkR_map, m1, hy0, hy4, ia_49, hlt, p0, p1]
      refine Ret.bind (impl_TagLess_c d.tag x _) ?_
      rintro ⟨_, w1⟩ ⟨rfl, E1⟩
      try dsimp only at E1
      have zE1 := E1.size
      try simp only [qz] at zE1
      have F1 : Ext w w1 := xE
      simp only [m2] at hQ
      cases hless : tagLess d.tag x
      · cases hpos : decide (0 < d.tag.t)
        · rw [hpos] at hz
          simp (disch := first | exact xD | fail) [-Option.bind_some, qs, -splice_eq, -stR_cells, qm, hless, hz, hpos, Tag.v, X1, hlt, p0, p1, E1.blk]
          refine hQ _ ⟨by simp [hless, hpos], fun hn2 => by first | (simp [hless, hpos] at hn2; done) | exact xE, xM, fun b' hb2 => ?_⟩
          simp [hless, hpos] at hb2
          subst hb2
          exact ⟨S, cur, hb'.keep xE, fun x hx => .inl hx⟩
        · rw [hpos] at hz
          cases h1 : (k != d.key)
          · cases hcan : ((d.kind == 3) && (s != d.sess))
            · have J := fun w' (h : Ext w w') => impl_Past_join_m (xs := view b d) (ys := past) (by omega) (hD'.ext h) (D2.ext h)
              simp only [hvl] at J
              have hcan' := hcan
              simp only [Bool.and_eq_false_iff] at hcan'
              have hkn : ((d.key.toNat : Nat) : Int) = d.key := Int.toNat_of_nonneg hy0
              have hsl : d.sess.toNat < cur.length := by omega
              have hsl4 : d.sess.toNat < b.vs.length := by have := hok.1; omega
              rcases hcan' with h3 | h4
              · simp (disch := first | exact xD | fail) [-Option.bind_some, qs, -splice_eq, -stR_cells, qm, hless, hz, hpos, h1, h3, Tag.v, nk_ptr, ia_arr (P := P) Tryz.underlying130 (by kernel_rfl : szB P 51 = some 1), X1, hs0, hs4, hlt, p0, p1, E1.blk]
                refine Ret.bind (J _ xE) ?_
                rintro ⟨_, w2⟩ ⟨a1, c1, rfl, o1', E2⟩
                try dsimp only at a1 c1 o1' E2
                have zE2 := E2.size
                try simp only [qz] at zE2
                have o1d := o1'.d
                have Wt := impl_Past_with_m (k := d.key.toNat) (t := d.tag) (w := w2) (by rw [joinT_len _ _ (by omega)]; omega) o1d
                rw [hkn] at Wt
                simp (disch := first | exact xD | fail) [-Option.bind_some, qs, -splice_eq, -stR_cells, qm, hless, hz, hpos, h1, h3, Tag.v, nk_ptr, ia_arr (P := P) Tryz.underlying130 (by kernel_rfl : szB P 51 = some 1), X1, hs0, hs4, hlt, p0, p1, E1.blk, E2.blk]
                refine Ret.bind (Wt) ?_
                rintro ⟨_, w3⟩ ⟨a3, c3, rfl, o3, E3⟩
                try dsimp only at a3 c3 o3 E3
                have zE3 := E3.size
                try simp only [qz] at zE3
                have F3 : Ext w w3 := xE
                simp (disch := first | exact xD | fail) [-Option.bind_some, qs, -splice_eq, -stR_cells, qm, nk_ptr, ia_arr (P := P) Tryz.underlying130 (by kernel_rfl : szB P 51 = some 1), X1, hs0, hs4, hsl, stR_put, hlt, p0, p1, E1.blk, E2.blk, E3.blk]
                have o3d := o3.d
                refine hQ _ ⟨by simp [hless, hpos, h1, hcan], fun hn2 => by first | (simp [hless, hpos, h1, hcan] at hn2; done) | exact xE, Mod.set' (Mod.of F3 _) (.inr (.inl rfl)) _, fun b' hb2 => ?_⟩
                simp [hless, hpos, h1, hcan] at hb2
                subst hb2
                exact ⟨fun x => S x ∨ In w2.heap.size w3.heap.size x, _, Bk.upd hb' F3 hsl4 (by omega) (by have := F3.size; have := E2.size; simp only [World.size_alloc, dw_size] at *; omega) o3d, fun x hx => hx.imp id fun h => by simp only [In] at h; omega⟩
              · cases h3 : (d.kind == 3)
                · simp (disch := first | exact xD | fail) [-Option.bind_some, qs, -splice_eq, -stR_cells, qm, hless, hz, hpos, h1, h3, Tag.v, nk_ptr, ia_arr (P := P) Tryz.underlying130 (by kernel_rfl : szB P 51 = some 1), X1, hs0, hs4, hlt, p0, p1, E1.blk]
                  refine Ret.bind (J _ xE) ?_
                  rintro ⟨_, w2⟩ ⟨a1, c1, rfl, o1', E2⟩
                  try dsimp only at a1 c1 o1' E2
                  have zE2 := E2.size
                  try simp only [qz] at zE2
                  have o1d := o1'.d
                  have Wt := impl_Past_with_m (k := d.key.toNat) (t := d.tag) (w := w2) (by rw [joinT_len _ _ (by omega)]; omega) o1d
                  rw [hkn] at Wt
                  simp (disch := first | exact xD | fail) [-Option.bind_some, qs, -splice_eq, -stR_cells, qm, hless, hz, hpos, h1, h3, Tag.v, nk_ptr, ia_arr (P := P) Tryz.underlying130 (by kernel_rfl : szB P 51 = some 1), X1, hs0, hs4, hlt, p0, p1, E1.blk, E2.blk]
                  refine Ret.bind (Wt) ?_
                  rintro ⟨_, w3⟩ ⟨a3, c3, rfl, o3, E3⟩
                  try dsimp only at a3 c3 o3 E3
                  have zE3 := E3.size
                  try simp only [qz] at zE3
                  have F3 : Ext w w3 := xE
                  simp (disch := first | exact xD | fail) [-Option.bind_some, qs, -splice_eq, -stR_cells, qm, nk_ptr, ia_arr (P := P) Tryz.underlying130 (by kernel_rfl : szB P 51 = some 1), X1, hs0, hs4, hsl, stR_put, hlt, p0, p1, E1.blk, E2.blk, E3.blk]
                  have o3d := o3.d
                  refine hQ _ ⟨by simp [hless, hpos, h1, hcan], fun hn2 => by first | (simp [hless, hpos, h1, hcan] at hn2; done) | exact xE, Mod.set' (Mod.of F3 _) (.inr (.inl rfl)) _, fun b' hb2 => ?_⟩
                  simp [hless, hpos, h1, hcan] at hb2
                  subst hb2
                  exact ⟨fun x => S x ∨ In w2.heap.size w3.heap.size x, _, Bk.upd hb' F3 hsl4 (by omega) (by have := F3.size; have := E2.size; simp only [World.size_alloc, dw_size] at *; omega) o3d, fun x hx => hx.imp id fun h => by simp only [In] at h; omega⟩
                · simp (disch := first | exact xD | fail) [-Option.bind_some, qs, -splice_eq, -stR_cells, qm, hless, hz, hpos, h1, h3, h4, Tag.v, nk_ptr, ia_arr (P := P) Tryz.underlying130 (by kernel_rfl : szB P 51 = some 1), X1, hs0, hs4, hlt, p0, p1, E1.blk]
                  refine Ret.bind (J _ xE) ?_
                  rintro ⟨_, w2⟩ ⟨a1, c1, rfl, o1', E2⟩
                  try dsimp only at a1 c1 o1' E2
                  have zE2 := E2.size
                  try simp only [qz] at zE2
                  have o1d := o1'.d
                  have Wt := impl_Past_with_m (k := d.key.toNat) (t := d.tag) (w := w2) (by rw [joinT_len _ _ (by omega)]; omega) o1d
                  rw [hkn] at Wt
                  simp (disch := first | exact xD | fail) [-Option.bind_some, qs, -splice_eq, -stR_cells, qm, hless, hz, hpos, h1, h3, h4, Tag.v, nk_ptr, ia_arr (P := P) Tryz.underlying130 (by kernel_rfl : szB P 51 = some 1), X1, hs0, hs4, hlt, p0, p1, E1.blk, E2.blk]
                  refine Ret.bind (Wt) ?_
                  rintro ⟨_, w3⟩ ⟨a3, c3, rfl, o3, E3⟩
                  try dsimp only at a3 c3 o3 E3
                  have zE3 := E3.size
                  try simp only [qz] at zE3
                  have F3 : Ext w w3 := xE
                  simp (disch := first | exact xD | fail) [-Option.bind_some, qs, -splice_eq, -stR_cells, qm, nk_ptr, ia_arr (P := P) Tryz.underlying130 (by kernel_rfl : szB P 51 = some 1), X1, hs0, hs4, hsl, stR_put, hlt, p0, p1, E1.blk, E2.blk, E3.blk]
                  have o3d := o3.d
                  refine hQ _ ⟨by simp [hless, hpos, h1, hcan], fun hn2 => by first | (simp [hless, hpos, h1, hcan] at hn2; done) | exact xE, Mod.set' (Mod.of F3 _) (.inr (.inl rfl)) _, fun b' hb2 => ?_⟩
                  simp [hless, hpos, h1, hcan] at hb2
                  subst hb2
                  exact ⟨fun x => S x ∨ In w2.heap.size w3.heap.size x, _, Bk.upd hb' F3 hsl4 (by omega) (by have := F3.size; have := E2.size; simp only [World.size_alloc, dw_size] at *; omega) o3d, fun x hx => hx.imp id fun h => by simp only [In] at h; omega⟩
            · have hcan' := hcan
              simp only [Bool.and_eq_true] at hcan'
              obtain ⟨h3, h4⟩ := hcan'
              simp (disch := first | exact xD | fail) [-Option.bind_some, qs, -splice_eq, -stR_cells, qm, hless, hz, hpos, h1, h3, h4, Tag.v, X1, hlt, p0, p1, E1.blk]
              refine hQ _ ⟨by simp [hless, hpos, h1, hcan], fun hn2 => by first | (simp [hless, hpos, h1, hcan] at hn2; done) | exact xE, xM, fun b' hb2 => ?_⟩
              simp [hless, hpos, h1, hcan] at hb2
          · simp (disch := first | exact xD | fail) [-Option.bind_some, qs, -splice_eq, -stR_cells, qm, hless, hz, hpos, h1, Tag.v, X1, hlt, p0, p1, E1.blk]
            refine hQ _ ⟨by simp [hless, hpos, h1], fun hn2 => by first | (simp [hless, hpos, h1] at hn2; done) | exact xE, xM, fun b' hb2 => ?_⟩
            simp [hless, hpos, h1] at hb2
      · simp (disch := first | exact xD | fail) [-Option.bind_some, qs, -splice_eq, -stR_cells, qm, hless, X1, hlt, p0, p1, E1.blk]
        refine hQ _ ⟨by simp [hless], fun hn2 => by first | (simp [hless] at hn2; done) | exact xE, xM, fun b' hb2 => ?_⟩
        simp [hless] at hb2
  · have hst : hstep b d = if (wfind b.wr d.tag).isSome || decide (d.tag.t ≤ latest 0 (view b d)) then none else some ⟨b.vs, b.wr ++ [(d.tag, d.sess, d.key, view b d)]⟩ := by
      unfold hstep
      rw [hkind]
      rfl
    rw [hst] at hQ
    rcases mfind_rel hrel d.tag with ⟨m1, m2⟩ | ⟨s, k, past, a2, c2, m1, m2, D2⟩
    · simp only [m2] at hQ
      simp (disch := first | exact xD | fail) [-Option.bind_some, qs, -splice_eq, -stR_cells, qm, hkind, nk_ptr, ia_arr (P := P) Tryz.underlying130 (by kernel_rfl : szB P 51 = some 1), X1, Xm, hs0, hs4, q0, q4, lk_lkR tagM, lkR_map, m1, mu_muR tagM, muR_map, size_setM]
      refine Ret.bind (impl_Past_latest_c ((hD.ext xE).rTags)) ?_
      rintro ⟨_, w1⟩ ⟨rfl, E1⟩
      try dsimp only at E1
      have zE1 := E1.size
      try simp only [qz] at zE1
      have F1 : Ext w w1 := xE
      cases hlat : decide (d.tag.t ≤ latest 0 (view b d))
      · simp (disch := first | exact xD | fail) [-Option.bind_some, qs, -splice_eq, -stR_cells, qm, hkind, nk_ptr, ia_arr (P := P) Tryz.underlying130 (by kernel_rfl : szB P 51 = some 1), X1, Xm, hs0, hs4, q0, q4, lk_lkR tagM, lkR_map, m1, mu_muR tagM, muR_map, size_setM, hlat, E1.blk]
        refine hQ _ ⟨by simp [hlat], fun hn2 => by first | (simp [hlat] at hn2; done) | exact xE, ?_, fun b' hb2 => ?_⟩
        · exact (Mod.of F1.dw (fun x => x = g ∨ x = m)).after' (Mod.setM _ m _) (fun x _ h => .inr h)
        · simp [hlat] at hb2
          subst hb2
          have := Bk.wrote hb' F1.dw Xm (t := d.tag) (s := d.sess) (k := d.key) hD'
          rw [hvl] at this
          exact ⟨S, cur, this, fun x hx => .inl hx⟩
      · simp (disch := first | exact xD | fail) [-Option.bind_some, qs, -splice_eq, -stR_cells, qm, hkind, nk_ptr, ia_arr (P := P) Tryz.underlying130 (by kernel_rfl : szB P 51 = some 1), X1, Xm, hs0, hs4, q0, q4, lk_lkR tagM, lkR_map, m1, mu_muR tagM, muR_map, size_setM, hlat, E1.blk]
        refine hQ _ ⟨by simp [hlat], fun hn2 => by first | (simp [hlat] at hn2; done) | exact xE, xM, fun b' hb2 => ?_⟩
        simp [hlat] at hb2
    · simp only [m2] at hQ
      simp (disch := first | exact xD | fail) [-Option.bind_some, qs, -splice_eq, -stR_cells, qm, hkind, nk_ptr, ia_arr (P := P) Tryz.underlying130 (by kernel_rfl : szB P 51 = some 1), X1, Xm, hs0, hs4, q0, q4, lk_lkR tagM, lkR_map, m1, mu_muR tagM, muR_map, size_setM]
      refine hQ _ ⟨by simp, fun hn2 => by first | (simp at hn2; done) | exact xE, xM, fun b' hb2 => ?_⟩
      simp at hb2
theorem formP_all {xs : List Done} (h : formP xs = true) : xs.all opOk = true ∧ xs.length ≤ 80 := by
  simpa only [formP, Bool.and_eq_true, decide_eq_true_eq] using h
theorem impl_bookOf_n {a : Option Addr} {c g m : Nat} {Sx : Nat → Prop} {xs : List Done} {w0 : World} (ha : D tDones Sx w0 [.slice a xs.length c] xs) (hf : xs.all opOk = true) (hg0 : w0.heap.size ≤ g) (hm0 : w0.heap.size ≤ m) :
    ∀ (d k : Nat) (e : Env) (w : World) (S : Nat → Prop) (cur : List Value) (b : Book), k + d = xs.length → e 0 = .slice a xs.length c → e 4 = pt g 0 → e 8 = .slice a xs.length c → e 9 = i64 xs.length → e 10 = i64 k → b.Ok → (∀ x, S x → w0.heap.size ≤ x) → Bk w S g m cur b → Ext w0 w →
    Ret (impl_bookOf_l1 e w) fun r => r.1 = .tuple #[pt g 0, i64 ((k + (hgo b (xs.drop k)).2 : Nat))] ∧ Ext w0 r.2 ∧ (hgo b (xs.drop k)).1.Ok ∧ ∃ S cur, (∀ x, S x → w0.heap.size ≤ x) ∧ Bk r.2 S g m cur (hgo b (xs.drop k)).1 := by
  intro d
  induction d with
  | zero =>
    intro k e w S cur b hd e0 e4 e8 e9 e10 hok hS hb E0
    have zE0 := E0.size
    try simp only [qz] at zE0
    rw [impl_bookOf_l1_eq]
    obtain rfl : k = xs.length := by omega
    rw [List.drop_eq_nil_of_le (by omega)]
    refine Ret.post fun Q hQ => ?_
    simp (disch := first | exact xD | fail) [-Option.bind_some, qs, -splice_eq, -stR_cells, qm, e0, e4, e8, e9, e10, E0.blk]
    exact hQ _ ⟨rfl, E0, hok, S, cur, hS, hb⟩
  | succ d ih =>
    intro k e w S cur b hd e0 e4 e8 e9 e10 hok hS hb E0
    have zE0 := E0.size
    try simp only [qz] at zE0
    rw [impl_bookOf_l1_eq]
    have hlt : k < xs.length := by omega
    obtain ⟨x, hx, hdx⟩ := drop_at hlt
    have hn := ha.n
    have hxo : opOk x = true := List.all_eq_true.1 hf x (List.mem_of_getElem? hx)
    obtain ⟨b1, o1, cs1, rfl, A1, D1, _, l1⟩ := (ha.ext E0).at (by decide) hx
    obtain rfl := D.done.1 D1
    have p0 := A1 0 _ rfl
    have p1 := A1 1 _ rfl
    have p2 := A1 2 _ rfl
    have p3 := A1 3 _ rfl
    have p4 := A1 4 _ rfl
    simp only [LVer_n, LTag_n, LNode_n, Nat.add_zero] at p0 p1 p2 p3 p4
    simp only [LDone_n] at p0 p1 p2 p3 p4
    rw [hdx]
    refine Ret.post fun Q hQ => ?_
    simp (disch := first | exact xD | fail) [-Option.bind_some, qs, -splice_eq, -stR_cells, qm, e0, e4, e8, e9, e10, hlt, ia_28, E0.blk, p0, p1, p2, p3, p4]
    have hE2 : Ext w ((w.alloc (.cells #[i64 0, i64 0, i64 0, i64 0, i64 0] 78 (0, 0))).setRow w.heap.size (doneC x).toArray) := xE
    refine Ret.bind (impl_book_add_m (hb.keep hE2) hok hxo) ?_
    rintro ⟨_, w1⟩ ⟨rfl, hno, M1, hs⟩
    have zM1 := M1.size
    try simp only [qz] at zM1
    dsimp only at M1 hs hno
    have F1 : Ext w0 w1 := Mod.after (E0.tr hE2) M1 (by rintro y hy (h | h) <;> omega)
    cases h : hstep b x with
    | none =>
      rw [hgo_none h] at hQ
      simp (disch := first | exact xD | fail) [-Option.bind_some, qs, -splice_eq, -stR_cells, qm, h, e4, e0, e8, e9, e10, E0.blk, hlt, p0, p1, p2, p3, p4, M1.blk]
      exact hQ _ ⟨rfl, F1, hok, S, cur, hS, (hb.keep hE2).keep (hno h)⟩
    | some b' =>
      obtain ⟨S', cur', hb', hS'⟩ := hs b' h
      rw [hgo_some h] at hQ
      simp (disch := first | exact xD | fail) [-Option.bind_some, qs, -splice_eq, -stR_cells, qm, h, e0, e4, e8, e9, e10, E0.blk, hlt, p0, p1, p2, p3, p4, M1.blk]
      refine Ret.mono (ih (k + 1) _ _ S' cur' b' (by omega) xA xA xA xA xA (hstep_ok hok hxo h) (fun y hy => ?_) hb' F1) (fun r h => hQ r ⟨?_, h.2⟩)
      · have := E0.size
        rcases hS' y hy with h | h
        · exact hS y h
        · simp only [size_setRow, World.size_alloc] at h; omega
      · rw [h.1, show k + 1 + (hgo b' (xs.drop (k + 1))).2 = k + ((hgo b' (xs.drop (k + 1))).2 + 1) by omega]
theorem impl_bookOf_m {a : Option Addr} {n c : Nat} {Sx : Nat → Prop} {xs : List Done} {w : World} (ha : D tDones Sx w [.slice a n c] xs) (hf : formP xs = true) :
    Ret (EV P 96 #[.slice a n c] w) fun r => Ext w r.2 ∧ (hgo book0 xs).1.Ok ∧ ∃ g S m cur, r.1 = .tuple #[pt g 0, i64 (hgo book0 xs).2] ∧ w.heap.size ≤ g ∧ w.heap.size ≤ m ∧ (∀ x, S x → w.heap.size ≤ x) ∧ Bk r.2 S g m cur (hgo book0 xs).1 := by
  obtain ⟨rfl, hm, _⟩ := ha.n
  refine Ret.post fun Q hQ => ?_
  refine Ret.enter plain mixed (impl_bookOf_fn _ _) (by kernel_rfl) (n := 1) (by kernel_rfl) rfl ?_
  simp (disch := first | exact xD | fail) [-Option.bind_some, qs, -splice_eq, -stR_cells, qm]
  refine Ret.bind (impl_bookNew_m) ?_
  rintro ⟨_, w1⟩ ⟨g, S, m, cur, rfl, E1, hg, hm', hS, hb⟩
  have zE1 := E1.size
  try simp only [qz] at zE1
  dsimp only at E1 hb
  simp (disch := first | exact xD | fail) [-Option.bind_some, qs, -splice_eq, -stR_cells, qm, E1.blk, hg]
  refine Ret.mono (impl_bookOf_n ha (formP_all hf).1 hg hm' xs.length 0 _ _ S cur book0 (by omega) rfl rfl rfl rfl rfl book0_ok hS hb E1) ?_
  rintro r ⟨h1, h2, h3, S', cur', h4, h5⟩
  rw [List.drop_zero, Nat.zero_add] at h1
  exact hQ _ ⟨h2, h3, g, S', m, cur', h1, hg, hm', h4, h5⟩
def okP (xs : List Done) : Bool := formP xs && decide ((hgo book0 xs).2 = xs.length)
theorem impl_checked_m {a : Option Addr} {n c : Nat} {Sx : Nat → Prop} {xs : List Done} {w : World} (ha : D tDones Sx w [.slice a n c] xs) :
    Ret (EV P 82 #[.slice a n c] w) fun r => Ext w r.2 ∧ ((okP xs = false ∧ ∃ p, r.1 = .tuple #[p, .bool false]) ∨ (okP xs = true ∧ formP xs = true ∧ (hgo book0 xs).1.Ok ∧ ∃ g S m cur, r.1 = .tuple #[pt g 0, .bool true] ∧ w.heap.size ≤ g ∧ w.heap.size ≤ m ∧ (∀ x, S x → w.heap.size ≤ x) ∧ Bk r.2 S g m cur (hgo book0 xs).1)) := by
  obtain ⟨rfl, hm, _⟩ := ha.n
  refine Ret.post fun Q hQ => ?_
  refine Ret.enter plain mixed (impl_checked_fn _ _) (by kernel_rfl) (n := 1) (by kernel_rfl) rfl ?_
  simp (disch := first | exact xD | fail) [-Option.bind_some, qs, -splice_eq, -stR_cells, qm]
  refine Ret.bind (impl_formed_m ha) ?_
  rintro ⟨_, w1⟩ ⟨rfl, E1⟩
  try dsimp only at E1
  have zE1 := E1.size
  try simp only [qz] at zE1
  cases hf : formP xs
  · simp (disch := first | exact xD | fail) [-Option.bind_some, qs, -splice_eq, -stR_cells, qm, hf, E1.blk]
    exact hQ _ ⟨xE, .inl ⟨by simp [okP, hf], _, rfl⟩⟩
  · simp (disch := first | exact xD | fail) [-Option.bind_some, qs, -splice_eq, -stR_cells, qm, hf, E1.blk]
    refine Ret.bind (impl_bookOf_m (ha.ext xE) hf) ?_
    rintro ⟨_, w2⟩ ⟨E2, hok, g, S, m, cur, rfl, hg, hm', hS, hb⟩
    have zE2 := E2.size
    try simp only [qz] at zE2
    dsimp only at E2 hb
    have hs := E1.size
    have hq : (((hgo book0 xs).2 : Int) == (xs.length : Int)) = decide ((hgo book0 xs).2 = xs.length) := by rw [Bool.eq_iff_iff]; simp only [beq_iff_eq, decide_eq_true_eq]; omega
    cases h : decide ((hgo book0 xs).2 = xs.length)
    · simp (disch := first | exact xD | fail) [-Option.bind_some, qs, -splice_eq, -stR_cells, qm, hq, h, E1.blk, E2.blk, hg]
      exact hQ _ ⟨xE, .inl ⟨by simp [okP, hf, h], _, rfl⟩⟩
    · simp (disch := first | exact xD | fail) [-Option.bind_some, qs, -splice_eq, -stR_cells, qm, hq, h, E1.blk, E2.blk, hg]
      exact hQ _ ⟨xE, .inr ⟨by simp only [okP, hf, h, Bool.and_self], hf, hok, g, S, m, cur, rfl, by omega, by omega, fun x hx => by have := hS x hx; omega, hb⟩⟩
theorem impl_HistOk_m {a : Option Addr} {n c : Nat} {Sx : Nat → Prop} {xs : List Done} {w : World} (ha : D tDones Sx w [.slice a n c] xs) :
    Ret (EV P 59 #[.slice a n c] w) fun r => r.1 = .bool (okP xs) ∧ Ext w r.2 := by
  refine Ret.post fun Q hQ => ?_
  refine Ret.enter plain mixed (impl_HistOk_fn _ _) (by kernel_rfl) (n := 1) (by kernel_rfl) rfl ?_
  simp (disch := first | exact xD | fail) [-Option.bind_some, qs, -splice_eq, -stR_cells, qm]
  refine Ret.bind (impl_checked_m ha) ?_
  rintro ⟨_, w1⟩ ⟨E1, ⟨h, p, rfl⟩ | ⟨h, _, _, g, S, m, cur, rfl, _⟩⟩
  have zE1 := E1.size
  try simp only [qz] at zE1
  · rw [h] at hQ
    simp (disch := first | exact xD | fail) [-Option.bind_some, qs, -splice_eq, -stR_cells, qm, E1.blk]
    exact hQ _ ⟨rfl, E1⟩
  · rw [h] at hQ
    simp (disch := first | exact xD | fail) [-Option.bind_some, qs, -splice_eq, -stR_cells, qm, E1.blk]
    exact hQ _ ⟨rfl, E1⟩
abbrev tPs : Lay (List PlaceD) := LPlaces 53 58 89 45 48
abbrev tSe : Lay SessD := LSess 53
abbrev tSs : Lay (List SessD) := LSesss 53 55
abbrev tWo : Lay WorldD := LWorld 53 58 89 45 48 55 60 78
abbrev PtZ (w : World) (x : WorldD) (s t u v : Value) (S1 S2 S3 S4 : Nat → Prop) : Prop := Parts 53 58 89 45 48 55 60 78 w x s t u v S1 S2 S3 S4
def newPl (me nodes : Int) : PlaceD := ⟨me, 0, chainNewP nodes, [], List.replicate 3 [], false⟩
def sesNew (i : Nat) : SessD := ⟨(i : Int) % 3, List.replicate 4 ⟨0, 0⟩, ⟨0, 0⟩, 0⟩
def plsNew (k : Nat) (nodes : Int) : List PlaceD := (List.range k).map fun i => newPl (i : Nat) nodes
def sessNew (k : Nat) : List SessD := (List.range k).map sesNew
theorem plsNew_len (k : Nat) (nodes : Int) : (plsNew k nodes).length = k := by simp [plsNew]
theorem sessNew_len (k : Nat) : (sessNew k).length = k := by simp [sessNew]
theorem plsNew_succ (k : Nat) (nodes : Int) : plsNew (k + 1) nodes = plsNew k nodes ++ [newPl (k : Nat) nodes] := by simp [plsNew, List.range_succ]
theorem sessNew_succ (k : Nat) : sessNew (k + 1) = sessNew k ++ [sesNew k] := by simp [sessNew, List.range_succ]
theorem newPl_eq {me nodes : Int} (h : placeNewB me nodes = true) : newPl me nodes = placeNewP me nodes := by rw [placeNewP, if_pos h]; rfl
theorem plB {k m : Nat} (hk : k < 3) (hm : m < 4) : placeNewB (k : Int) (1 + (m : Int)) = true := by
  simp only [placeNewB, Bool.and_eq_true, decide_eq_true_eq]; omega
attribute [local irreducible] World.alloc World.setRow Go.Ev.dw
theorem l5New_2 {g4 g5 sN c : Nat} {a : Option Addr} {T1 : Nat → Prop} {ps : List PlaceD} {w0 w1 : World} (hg4 : w0.heap.size ≤ g4) (hg5 : w0.heap.size ≤ g5) (h45 : g4 ≠ g5) (hg4' : g4 < w1.heap.size) (hg5' : g5 < w1.heap.size) (hps : ps.length = 3) (hsN : sN ≤ 4) (E01 : Ext w0 w1)
    (op : O tPs T1 w1 [.slice a 3 c] ps) (hT1 : ∀ b, T1 b → w0.heap.size ≤ b ∧ b < w1.heap.size ∧ b ≠ g4 ∧ b ≠ g5) :
    ∀ (d k : Nat) (e : Env) (W : World) (a1 : Option Addr) (c1 : Nat), k + d = sN → e 1 = i64 sN → e 4 = pt g4 0 → e 5 = pt g5 0 → e 7 = i64 k → hp W g5 = some (.cells #[.slice a 3 c, .slice a1 k c1, .slice none 0 0, .slice none 0 0] 30 (0, 0)) → hp W g4 = some (.cells #[.slice none 0 0, .slice none 0 0, .slice none 0 0, .slice none 0 0] 30 (0, 0)) →
      O tSs (In w1.heap.size W.heap.size) W [.slice a1 k c1] (sessNew k) → (∀ b, T1 b → hp W b = hp w1 b) → Ext w0 W → w1.heap.size ≤ W.heap.size →
      Ret (spec_l5New_l2 e W) fun r => ∃ (cs : List Value), r.1 = .agg cs.toArray ∧ O tWo (In w0.heap.size r.2.heap.size) r.2 cs ⟨ps, sessNew sN, [], []⟩ ∧ Ext w0 r.2 := by
  intro d
  induction d with
  | zero =>
    intro k e W a1 c1 hd e1 e4 e5 e7 X5 X4 os hk E0 hz
    have zE0 := E0.size
    try simp only [qz] at zE0
    rw [spec_l5New_l2_eq]
    obtain rfl : k = sN := by omega
    refine Ret.post fun Q hQ => ?_
    simp (disch := first | exact xD | fail) [-Option.bind_some, qs, -splice_eq, -stR_cells, qm, e1, e4, e5, e7, X4, X5, E0.blk]
    have Pt : PtZ W ⟨ps, sessNew k, [], []⟩ (.slice a 3 c) (.slice a1 k c1) (.slice none 0 0) (.slice none 0 0) T1 (In w1.heap.size W.heap.size) (fun _ => False) (fun _ => False) :=
      ⟨op.keep fun b hb _ => hk b hb, os, O.nil, O.nil, fun b _ h h' => by have := hT1 b h; simp only [In] at h'; omega, fun _ _ _ h => h, fun _ _ _ h => h, fun _ _ _ h => h, fun _ _ _ h => h, fun _ _ _ h => h⟩
    refine hQ _ ⟨_, rfl, (Pt.mk'.keep fun b hb hbl => hp_set_ne ?_).wide ?_, E0.set hg4 _⟩
    · rcases hb with h | h | h | h
      · exact (hT1 b h).2.2.1
      · simp only [In] at h; omega
      · exact h.elim
      · exact h.elim
    · intro b hb hbl
      simp only [In, size_setRow] at hb hbl ⊢
      rcases hb with h | h | h | h
      · have := hT1 b h; omega
      · omega
      · exact h.elim
      · exact h.elim
  | succ d ih =>
    intro k e W a1 c1 hd e1 e4 e5 e7 X5 X4 os hk E0 hz
    have zE0 := E0.size
    try simp only [qz] at zE0
    rw [spec_l5New_l2_eq]
    have hk4 : k < 4 := by omega
    have hkN : k < sN := by omega
    have hrt : (k : Int).tmod 3 = (k : Int) % 3 := Int.tmod_eq_emod_of_nonneg (by omega)
    have y5 := hp_lt X5
    have y4 := hp_lt X4
    refine Ret.post fun Q hQ => ?_
    simp (disch := first | exact xD | fail) [-Option.bind_some, qs, -splice_eq, -stR_cells, qm, e1, e4, e5, e7, X5, hkN, show (k : Int) < sN by omega, bo_rem, hrt, X4, E0.blk]
    refine Ret.bind (spec_l1None_m) ?_
    rintro ⟨_, w2⟩ ⟨a7, c7, rfl, o7, E1⟩
    try dsimp only at a7 c7 o7 E1
    have zE1 := E1.size
    try simp only [qz] at zE1
    simp only [dw_size] at zE1 o7
    have F1 : Ext W w2 := xE
    have N5 := (F1.blk y5).trans X5
    have N4 := (F1.blk y4).trans X4
    simp (disch := first | exact xD | fail) [-Option.bind_some, qs, -splice_eq, -stR_cells, qm, N5, N4, e1, e4, e5, e7, X5, X4, E0.blk, E1.blk]
    refine Ret.bind (O.app (L := tSe) (mx := 2513169434916) (S1 := In W.heap.size w2.heap.size) (x := sesNew k) (cs := [i64 ((k : Int) % 3), .slice a7 4 c7, i64 0, i64 0, i64 0]) el_26 zz_55 rfl (by decide) (os.ext (F1.al _)) (O.sess.2 ⟨a7, c7, rfl, o7.keep fun b hb hbl => hp_alloc_lt hbl⟩) (fun b hb h1 h2 => by simp only [In] at h1 h2; omega) (At.nw rfl) (by rw [sessNew_len]; omega) (by decide) (by decide)) ?_
    rintro ⟨_, w3⟩ ⟨a8, c8, rfl, o8, M8⟩
    have zM8 := M8.size
    try simp only [qz] at zM8
    try dsimp only at o8 M8
    have zM8 := M8.size
    simp only [World.size_alloc] at zM8 o8
    have nI : ∀ b, b < w1.heap.size → ¬ In w1.heap.size W.heap.size b := fun b h h' => by simp only [In] at h'; omega
    have L5 := (M8.blk g5 xB (nI _ hg5')).trans ((hp_alloc_lt (by omega)).trans N5)
    have L4 := (M8.blk g4 xB (nI _ hg4')).trans ((hp_alloc_lt (by omega)).trans N4)
    have F3 : Ext w0 w3 := Mod.after (E0.tr (F1.al _)) M8 (fun b h1 h2 => by have := E01.size; simp only [In] at h2; omega)
    rw [sessNew_len, ← sessNew_succ] at o8
    rw [sessNew_len]
    simp (disch := first | exact xD | fail) [-Option.bind_some, qs, -splice_eq, -stR_cells, qm, L5, e1, e7, e4, e5, X5, X4, E0.blk, E1.blk, M8.blk]
    refine Ret.mono (ih (k + 1) _ _ a8 c8 (by omega) xA xA xA xA (by first | assumption | rfl | (simp (disch := first | exact xD | fail) [-Option.bind_some, qs, -splice_eq, -stR_cells, qm, L5, e1, e4, e5, e7, X5, X4, E0.blk, E1.blk, M8.blk]; done)) ((hp_set_ne h45).trans L4) ((o8.keep fun b hb hbl => hp_set_ne ?_).wide ?_) (fun b hb => (hp_set_ne (hT1 b hb).2.2.2).trans ((M8.blk b (by have := (hT1 b hb).2.1; simp only [World.size_alloc]; omega) (nI _ (hT1 b hb).2.1)).trans ((hp_alloc_lt (by have := (hT1 b hb).2.1; omega)).trans ((F1.blk (by have := (hT1 b hb).2.1; omega)).trans (hk b hb))))) (F3.set hg5 _) (by simp only [size_setRow]; omega)) hQ
    · rcases hb with h | h | h
      · simp only [In] at h; omega
      · simp only [In] at h; omega
      · omega
    · intro b hb hbl
      simp only [In, size_setRow] at hb hbl ⊢
      omega
theorem l5New_1 {g4 g5 sN m : Nat} {w0 : World} (hg4 : w0.heap.size ≤ g4) (hg5 : w0.heap.size ≤ g5) (h45 : g4 < g5) (hm : m < 4) (hsN : sN ≤ 4) :
    ∀ (d k : Nat) (e : Env) (W : World) (a : Option Addr) (c : Nat), k + d = 3 → e 0 = i64 (1 + (m : Int)) → e 1 = i64 sN → e 4 = pt g4 0 → e 5 = pt g5 0 → e 6 = i64 k → hp W g5 = some (.cells #[.slice a k c, .slice none 0 0, .slice none 0 0, .slice none 0 0] 30 (0, 0)) → hp W g4 = some (.cells #[.slice none 0 0, .slice none 0 0, .slice none 0 0, .slice none 0 0] 30 (0, 0)) →
      O tPs (In (g5 + 1) W.heap.size) W [.slice a k c] (plsNew k (1 + (m : Int))) → Ext w0 W →
      Ret (spec_l5New_l1 e W) fun r => ∃ (cs : List Value), r.1 = .agg cs.toArray ∧ O tWo (In w0.heap.size r.2.heap.size) r.2 cs ⟨plsNew 3 (1 + (m : Int)), sessNew sN, [], []⟩ ∧ Ext w0 r.2 := by
  intro d
  induction d with
  | zero =>
    intro k e W a c hd e0 e1 e4 e5 e6 X5 X4 op E0
    have zE0 := E0.size
    try simp only [qz] at zE0
    rw [spec_l5New_l1_eq]
    obtain rfl : k = 3 := by omega
    have y5 := hp_lt X5
    have y4 := hp_lt X4
    refine Ret.post fun Q hQ => ?_
    simp (disch := first | exact xD | fail) [-Option.bind_some, qs, -splice_eq, -stR_cells, qm, e1, e4, e5, e6, e0, X5, X4, E0.blk]
    exact Ret.mono (l5New_2 (g4 := g4) (g5 := g5) (T1 := In (g5 + 1) W.heap.size) hg4 hg5 (by omega) y4 y5 (plsNew_len _ _) hsN E0 op (fun b h => by simp only [In] at h; omega) sN 0 _ W none 0 (by omega) xA xA xA rfl X5 X4 O.nil (fun b _ => rfl) E0 (Nat.le_refl _)) hQ
  | succ d ih =>
    intro k e W a c hd e0 e1 e4 e5 e6 X5 X4 op E0
    have zE0 := E0.size
    try simp only [qz] at zE0
    rw [spec_l5New_l1_eq]
    have hk3 : k < 3 := by omega
    have y5 := hp_lt X5
    have y4 := hp_lt X4
    refine Ret.post fun Q hQ => ?_
    simp (disch := first | exact xD | fail) [-Option.bind_some, qs, -splice_eq, -stR_cells, qm, e0, e1, e4, e5, e6, X5, hk3, show (k : Int) < 3 by omega, X4, E0.blk]
    refine Ret.bind (spec_l4New_n (k : Int) (1 + (m : Int)) (plB hk3 hm)) ?_
    rintro ⟨_, w2⟩ ⟨ds, rfl, o7, E1⟩
    try dsimp only at ds o7 E1
    have zE1 := E1.size
    try simp only [qz] at zE1
    rw [← newPl_eq (plB hk3 hm)] at o7
    simp only [dw_size] at zE1 o7
    have o7' := o7.d
    obtain ⟨ad, cd, ae, ce, af, cf, rfl, _, _, _⟩ := D.place.1 o7'
    have F1 : Ext W w2 := xE
    have N5 := (F1.blk y5).trans X5
    have N4 := (F1.blk y4).trans X4
    have psl := plsNew_len k (1 + (m : Int))
    have pss := plsNew_succ k (1 + (m : Int))
    generalize hnp : newPl (k : Int) (1 + (m : Int)) = np at *
    simp (disch := first | exact xD | fail) [-Option.bind_some, qs, -splice_eq, -stR_cells, qm, N5, N4, e0, e1, e4, e5, e6, X5, X4, E0.blk, E1.blk]
    refine Ret.bind (O.app (L := tPlace) (mx := 1466015503701) (S1 := In W.heap.size w2.heap.size) (x := np) (cs := [i64 np.me, i64 np.clock, .slice ad np.chain.length cd, .slice ae np.log.length ce, .slice af np.got.length cf, .bool np.fell]) el_25 zz_48 rfl (by decide) (op.ext (F1.al _)) (o7.keep fun b hb hbl => hp_alloc_lt hbl) (fun b hb h1 h2 => by simp only [In] at h1 h2; omega) (At.nw rfl) (by omega) (by decide) (by decide)) ?_
    rintro ⟨_, w3⟩ ⟨a8, c8, rfl, o8, M8⟩
    have zM8 := M8.size
    try simp only [qz] at zM8
    try dsimp only at o8 M8
    have zM8 := M8.size
    simp only [World.size_alloc] at zM8 o8
    have nI : ∀ b, b < g5 + 1 → ¬ In (g5 + 1) W.heap.size b := fun b h h' => by simp only [In] at h'; omega
    have L5 := (M8.blk g5 xB (nI _ (by omega))).trans ((hp_alloc_lt (by omega)).trans N5)
    have L4 := (M8.blk g4 xB (nI _ (by omega))).trans ((hp_alloc_lt (by omega)).trans N4)
    have F3 : Ext w0 w3 := Mod.after (E0.tr (F1.al _)) M8 (fun b h1 h2 => by simp only [In] at h2; omega)
    rw [psl, ← pss] at o8
    rw [psl]
    simp (disch := first | exact xD | fail) [-Option.bind_some, qs, -splice_eq, -stR_cells, qm, L5, e1, e6, e0, e4, e5, X5, X4, E0.blk, E1.blk, M8.blk]
    refine Ret.mono (ih (k + 1) _ _ a8 c8 (by omega) xA xA xA xA xA (by first | assumption | rfl | (simp (disch := first | exact xD | fail) [-Option.bind_some, qs, -splice_eq, -stR_cells, qm, L5, e0, e1, e4, e5, e6, X5, X4, E0.blk, E1.blk, M8.blk]; done)) ((hp_set_ne (by omega)).trans L4) ((o8.keep fun b hb hbl => hp_set_ne ?_).wide ?_) (F3.set hg5 _)) hQ
    · rcases hb with h | h | h
      · simp only [In] at h; omega
      · simp only [In] at h; omega
      · omega
    · intro b hb hbl
      simp only [In, size_setRow] at hb hbl ⊢
      omega
theorem l5New_m {m sN : Nat} (hm : m < 4) (hsN : sN ≤ 4) {w : World} :
    Ret (EV P 20 #[i64 (1 + (m : Int)), i64 sN] w) fun r => ∃ (cs : List Value), r.1 = .agg cs.toArray ∧ O tWo (In w.heap.size r.2.heap.size) r.2 cs ⟨plsNew 3 (1 + (m : Int)), sessNew sN, [], []⟩ ∧ Ext w r.2 := by
  refine Ret.post fun Q hQ => ?_
  refine Ret.enter plain mixed (spec_l5New_fn _ _ _) (by kernel_rfl) (n := 2) (by kernel_rfl) rfl ?_
  simp (disch := first | exact xD | fail) [-Option.bind_some, qs, -splice_eq, -stR_cells, qm]
  exact Ret.mono (l5New_1 (g4 := w.heap.size) (g5 := w.heap.size + 1) (w0 := w) (Nat.le_refl _) (by omega) (by omega) hm hsN 3 0 _ _ none 0 (by omega) xA xA xA xA xA (by first | assumption | rfl | (simp (disch := first | exact xD | fail) [-Option.bind_some, qs, -splice_eq, -stR_cells, qm]; done)) (by first | assumption | rfl | (simp (disch := first | exact xD | fail) [-Option.bind_some, qs, -splice_eq, -stR_cells, qm]; done)) O.nil xE) hQ
def worldNewB (nodes sess : Int) : Bool := (decide (1 ≤ nodes) && decide (nodes ≤ 4)) && (decide (0 ≤ sess) && decide (sess ≤ 4))
def worldNewP (nodes sess : Int) : WorldD := if worldNewB nodes sess then ⟨plsNew 3 nodes, sessNew sess.toNat, [], []⟩ else ⟨[], [], [], []⟩
theorem worldZ_O (w : World) : O tWo (fun _ => False) w [.slice none 0 0, .slice none 0 0, .slice none 0 0, .slice none 0 0] ⟨[], [], [], []⟩ := by
  have Pt : PtZ w ⟨[], [], [], []⟩ (.slice none 0 0) (.slice none 0 0) (.slice none 0 0) (.slice none 0 0) (fun _ => False) (fun _ => False) (fun _ => False) (fun _ => False) :=
    ⟨O.nil, O.nil, O.nil, O.nil, fun _ _ _ h => h, fun _ _ _ h => h, fun _ _ _ h => h, fun _ _ _ h => h, fun _ _ _ h => h, fun _ _ _ h => h⟩
  exact Pt.mk'.wide fun b h _ => by rcases h with h | h | h | h <;> exact h
theorem spec_WorldNew_m (nodes sess : Int) {w : World} : Ret (EV P 7 #[i64 nodes, i64 sess] w) fun r => ∃ (cs : List Value), r.1 = .agg cs.toArray ∧ O tWo (In w.heap.size r.2.heap.size) r.2 cs (worldNewP nodes sess) ∧ Ext w r.2 := by
  refine Ret.post fun Q hQ => ?_
  refine Ret.enter plain mixed (spec_WorldNew_fn _ _ _) (by kernel_rfl) (n := 2) (by kernel_rfl) rfl ?_
  simp (disch := first | exact xD | fail) [-Option.bind_some, qs, -splice_eq, -stR_cells, qm]
  refine Ret.bind (spec_l1In_c _ _ _ _) ?_
  rintro _ rfl
  cases h1 : (decide (1 ≤ nodes) && decide (nodes ≤ 4))
  · simp (disch := first | exact xD | fail) [-Option.bind_some, qs, -splice_eq, -stR_cells, qm, h1]
    refine hQ _ ⟨_, rfl, ?_, xE⟩
    rw [worldNewP, if_neg (by simp [worldNewB, h1])]
    exact (worldZ_O _).wide fun b h _ => h.elim
  · simp (disch := first | exact xD | fail) [-Option.bind_some, qs, -splice_eq, -stR_cells, qm, h1]
    refine Ret.bind (spec_l1In_c _ _ _ _) ?_
    rintro _ rfl
    cases h2 : (decide (0 ≤ sess) && decide (sess ≤ 4))
    · simp (disch := first | exact xD | fail) [-Option.bind_some, qs, -splice_eq, -stR_cells, qm, h2]
      refine hQ _ ⟨_, rfl, ?_, xE⟩
      rw [worldNewP, if_neg (by simp [worldNewB, h2])]
      exact (worldZ_O _).wide fun b h _ => h.elim
    · simp (disch := first | exact xD | fail) [-Option.bind_some, qs, -splice_eq, -stR_cells, qm, h2]
      have g1 := h1
      have g2 := h2
      simp only [Bool.and_eq_true, decide_eq_true_eq] at g1 g2
      obtain ⟨m, hm⟩ : ∃ m : Nat, nodes = 1 + (m : Int) := ⟨(nodes - 1).toNat, by omega⟩
      obtain ⟨s, rfl⟩ := Int.eq_ofNat_of_zero_le g2.1
      subst hm
      refine Ret.bind (l5New_m (m := m) (sN := s) (by omega) (by omega)) ?_
      rintro ⟨_, w2⟩ ⟨cs, rfl, o2, E2⟩
      try dsimp only at cs o2 E2
      have zE2 := E2.size
      try simp only [qz] at zE2
      obtain ⟨a, c, a1, c1, a2, c2, a3, c3, _, _, _, _, rfl, _, _⟩ := O.world_un o2
      simp (disch := first | exact xD | fail) [-Option.bind_some, qs, -splice_eq, -stR_cells, qm, E2.blk]
      refine hQ _ ⟨_, rfl, ?_, xE⟩
      rw [worldNewP, if_pos (by simp only [worldNewB, h1, h2, Bool.and_self])]
      exact (o2.keep (by intro b hS hb; (try dsimp only at hS); (try simp only [In, qz] at hS hb); first | rfl | (simp (disch := first | exact xF | fail) only [E2.blk, qk]; done))).wide fun b h _ => by simp only [In, World.size_alloc, size_setRow, dw_size] at h ⊢; omega
end Go.Proofs.YtligcpabhddggaaGreat.X
namespace Go.Proofs.YtligcpabhddggaaGreat.X
open Go Go.Ev Go.RowKit
attribute [local irreducible] World.alloc World.setRow Go.Ev.dw
theorem worldNew_2 {g4 g sN c : Nat} {a : Option Addr} {T1 : Nat → Prop} {ps : List PlaceD} {w0 w1 : World} (hg4 : w0.heap.size ≤ g4) (hg : w0.heap.size ≤ g) (h45 : g4 ≠ g) (hg4' : g4 < w1.heap.size) (hg' : g < w1.heap.size) (hps : ps.length = 3) (hsN : sN ≤ 4)
    (op : O tPs T1 w1 [.slice a 3 c] ps) (hT1 : ∀ b, T1 b → w0.heap.size ≤ b ∧ b < w1.heap.size ∧ b ≠ g ∧ b ≠ g4) :
    ∀ (d k : Nat) (e : Env) (W : World) (a1 : Option Addr) (c1 : Nat) (S1 : Nat → Prop), k + d = sN → e 4 = pt g4 0 → e 5 = pt g 0 → e 24 = i64 sN → e 25 = i64 k → hp W g = some (.cells #[.slice a 3 c, .slice a1 k c1, .slice none 0 0, .slice none 0 0] 30 (0, 0)) → hp W g4 = some (.cells #[.slice none 0 0, .slice none 0 0, .slice none 0 0, .slice none 0 0] 30 (0, 0)) →
      O tSs S1 W [.slice a1 k c1] (sessNew k) → (∀ b, S1 b → w0.heap.size ≤ b ∧ b < W.heap.size ∧ b ≠ g ∧ b ≠ g4 ∧ ¬ T1 b) → (∀ b, T1 b → hp W b = hp w1 b) → Ext w0 W → w1.heap.size ≤ W.heap.size →
      Ret (impl_worldNew_l2 e W) fun r => ∃ (cs : List Value), r.1 = .agg cs.toArray ∧ O tWo (In w0.heap.size r.2.heap.size) r.2 cs ⟨ps, sessNew sN, [], []⟩ ∧ Ext w0 r.2 := by
  intro d
  induction d with
  | zero =>
    intro k e W a1 c1 S1 hd e4 e5 e24 e25 X5 X4 os hS1 hk E0 hz
    have zE0 := E0.size
    try simp only [qz] at zE0
    rw [impl_worldNew_l2_eq]
    obtain rfl : k = sN := by omega
    refine Ret.post fun Q hQ => ?_
    simp (disch := first | exact xD | fail) [-Option.bind_some, qs, -splice_eq, -stR_cells, qm, e4, e5, e24, e25, X4, X5, E0.blk]
    have Pt : PtZ W ⟨ps, sessNew k, [], []⟩ (.slice a 3 c) (.slice a1 k c1) (.slice none 0 0) (.slice none 0 0) T1 S1 (fun _ => False) (fun _ => False) :=
      ⟨op.keep fun b hb _ => hk b hb, os, O.nil, O.nil, fun b _ h h' => (hS1 b h').2.2.2.2 h, fun _ _ _ h => h, fun _ _ _ h => h, fun _ _ _ h => h, fun _ _ _ h => h, fun _ _ _ h => h⟩
    refine hQ _ ⟨_, rfl, (Pt.mk'.keep fun b hb hbl => hp_set_ne ?_).wide ?_, E0.set hg4 _⟩
    · rcases hb with h | h | h | h
      · exact (hT1 b h).2.2.2
      · exact (hS1 b h).2.2.2.1
      · exact h.elim
      · exact h.elim
    · intro b hb hbl
      simp only [In, size_setRow] at hb hbl ⊢
      rcases hb with h | h | h | h
      · have := hT1 b h; omega
      · have := hS1 b h; omega
      · exact h.elim
      · exact h.elim
  | succ d ih =>
    intro k e W a1 c1 S1 hd e4 e5 e24 e25 X5 X4 os hS1 hk E0 hz
    have zE0 := E0.size
    try simp only [qz] at zE0
    rw [impl_worldNew_l2_eq]
    have hk4 : k < 4 := by omega
    have hkN : k < sN := by omega
    have hrt : (k : Int).tmod 3 = (k : Int) % 3 := Int.tmod_eq_emod_of_nonneg (by omega)
    have y5 := hp_lt X5
    have y4 := hp_lt X4
    refine Ret.post fun Q hQ => ?_
    simp (disch := first | exact xD | fail) [-Option.bind_some, qs, -splice_eq, -stR_cells, qm, e4, e5, e24, e25, X5, hkN, show (k : Int) < sN by omega, bo_rem, hrt, X4, E0.blk]
    refine Ret.bind (impl_PastNone_m) ?_
    rintro ⟨_, w2⟩ ⟨a7, c7, rfl, o7, E1⟩
    try dsimp only at a7 c7 o7 E1
    have zE1 := E1.size
    try simp only [qz] at zE1
    simp only [dw_size] at zE1 o7
    have F1 : Ext W w2 := xE
    have N5 := (F1.blk y5).trans X5
    have N4 := (F1.blk y4).trans X4
    simp (disch := first | exact xD | fail) [-Option.bind_some, qs, -splice_eq, -stR_cells, qm, N5, N4, bo_rem, hrt, e4, e5, e24, e25, X5, X4, E0.blk, E1.blk]
    refine Ret.bind (O.app (L := tSe) (mx := 2513169434916) (S1 := In W.heap.size w2.heap.size) (x := sesNew k) (cs := [i64 ((k : Int) % 3), .slice a7 4 c7, i64 0, i64 0, i64 0]) el_26 zz_55 rfl (by decide) (os.ext (F1.al _)) (O.sess.2 ⟨a7, c7, rfl, o7.keep fun b hb hbl => hp_alloc_lt hbl⟩) (fun b hb h1 h2 => by have := hS1 b h1; simp only [In] at h2; omega) (At.nw rfl) (by rw [sessNew_len]; omega) (by decide) (by decide)) ?_
    rintro ⟨_, w3⟩ ⟨a8, c8, rfl, o8, M8⟩
    have zM8 := M8.size
    try simp only [qz] at zM8
    try dsimp only at o8 M8
    have zM8 := M8.size
    simp only [World.size_alloc] at zM8 o8
    have L5 := (M8.blk g xB (fun h => (hS1 _ h).2.2.1 rfl)).trans ((hp_alloc_lt (by omega)).trans N5)
    have L4 := (M8.blk g4 xB (fun h => (hS1 _ h).2.2.2.1 rfl)).trans ((hp_alloc_lt (by omega)).trans N4)
    have F3 : Ext w0 w3 := Mod.after (E0.tr (F1.al _)) M8 (fun b h1 h2 => by have := hS1 b h2; omega)
    rw [sessNew_len, ← sessNew_succ] at o8
    rw [sessNew_len]
    simp (disch := first | exact xD | fail) [-Option.bind_some, qs, -splice_eq, -stR_cells, qm, L5, e25, e4, e5, e24, X5, X4, E0.blk, E1.blk, M8.blk]
    refine Ret.mono (ih (k + 1) _ _ a8 c8 _ (by omega) xA xA xA xA (by first | assumption | rfl | (simp (disch := first | exact xD | fail) [-Option.bind_some, qs, -splice_eq, -stR_cells, qm, L5, e4, e5, e24, e25, X5, X4, E0.blk, E1.blk, M8.blk]; done)) ((hp_set_ne h45).trans L4) (o8.keep fun b hb hbl => hp_set_ne ?_) ?_ (fun b hb => (hp_set_ne (hT1 b hb).2.2.1).trans ((M8.blk b (by have := (hT1 b hb).2.1; simp only [World.size_alloc]; omega) (fun h => (hS1 b h).2.2.2.2 hb)).trans ((hp_alloc_lt (by have := (hT1 b hb).2.1; omega)).trans ((F1.blk (by have := (hT1 b hb).2.1; omega)).trans (hk b hb))))) (F3.set hg _) (by simp only [size_setRow]; omega)) hQ
    · rcases hb with h | h | h
      · exact (hS1 b h).2.2.1
      · simp only [In] at h; omega
      · omega
    · intro b hb
      have hlt := hT1 b
      simp only [In, size_setRow] at hb ⊢
      rcases hb with h | h | h
      · have := hS1 b h
        exact ⟨this.1, by omega, this.2.2⟩
      · exact ⟨by have := E0.size; omega, by omega, by omega, by omega, fun h' => by have := hT1 b h'; omega⟩
      · exact ⟨by have := E0.size; omega, by omega, by omega, by omega, fun h' => by have := hT1 b h'; omega⟩
theorem worldNew_1 {g4 g s sN m : Nat} {w0 : World} (hg4 : w0.heap.size ≤ g4) (hg : w0.heap.size ≤ g) (hs : w0.heap.size ≤ s) (h45 : g4 ≠ g) (hsg : s ≠ g) (hsg4 : s ≠ g4) (hm : m < 4) (hsN : sN ≤ 4) :
    ∀ (d k : Nat) (e : Env) (W : World) (a : Option Addr) (c : Nat) (T : Nat → Prop), k + d = 3 → e 0 = i64 (1 + (m : Int)) → e 1 = i64 sN → e 4 = pt g4 0 → e 5 = pt g 0 → e 12 = i64 k → hp W g = some (.cells #[.slice a k c, .slice (some ⟨s, 0, none⟩) 0 sN, .slice none 0 0, .slice none 0 0] 30 (0, 0)) → hp W g4 = some (.cells #[.slice none 0 0, .slice none 0 0, .slice none 0 0, .slice none 0 0] 30 (0, 0)) →
      O tPs T W [.slice a k c] (plsNew k (1 + (m : Int))) → (∀ b, T b → w0.heap.size ≤ b ∧ b < W.heap.size ∧ b ≠ g ∧ b ≠ g4 ∧ b ≠ s) → O tSs (fun b => b = s) W [.slice (some ⟨s, 0, none⟩) 0 sN] [] → s < W.heap.size → Ext w0 W →
      Ret (impl_worldNew_l1 e W) fun r => ∃ (cs : List Value), r.1 = .agg cs.toArray ∧ O tWo (In w0.heap.size r.2.heap.size) r.2 cs ⟨plsNew 3 (1 + (m : Int)), sessNew sN, [], []⟩ ∧ Ext w0 r.2 := by
  intro d
  induction d with
  | zero =>
    intro k e W a c T hd e0 e1 e4 e5 e12 X5 X4 op hT os hsl E0
    have zE0 := E0.size
    try simp only [qz] at zE0
    rw [impl_worldNew_l1_eq]
    obtain rfl : k = 3 := by omega
    have y5 := hp_lt X5
    have y4 := hp_lt X4
    refine Ret.post fun Q hQ => ?_
    simp (disch := first | exact xD | fail) [-Option.bind_some, qs, -splice_eq, -stR_cells, qm, e1, e4, e5, e12, e0, X5, X4, E0.blk]
    exact Ret.mono (worldNew_2 (g4 := g4) (g := g) (T1 := T) hg4 hg h45 y4 y5 (plsNew_len _ _) hsN op (fun b h => by have := hT b h; exact ⟨this.1, this.2.1, this.2.2.1, this.2.2.2.1⟩) sN 0 _ W _ _ _ (by omega) xA xA xA rfl X5 X4 os (fun b h => by subst h; exact ⟨hs, hsl, hsg, hsg4, fun h => (hT _ h).2.2.2.2 rfl⟩) (fun b _ => rfl) E0 (Nat.le_refl _)) hQ
  | succ d ih =>
    intro k e W a c T hd e0 e1 e4 e5 e12 X5 X4 op hT os hsl E0
    have zE0 := E0.size
    try simp only [qz] at zE0
    rw [impl_worldNew_l1_eq]
    have hk3 : k < 3 := by omega
    have y5 := hp_lt X5
    have y4 := hp_lt X4
    refine Ret.post fun Q hQ => ?_
    simp (disch := first | exact xD | fail) [-Option.bind_some, qs, -splice_eq, -stR_cells, qm, e0, e1, e4, e5, e12, X5, hk3, show (k : Int) < 3 by omega, X4, E0.blk]
    refine Ret.bind (impl_PlaceNew_n (k : Int) (1 + (m : Int))) ?_
    rintro ⟨_, w2⟩ ⟨ds, rfl, o7, E1⟩
    try dsimp only at ds o7 E1
    have zE1 := E1.size
    try simp only [qz] at zE1
    rw [← newPl_eq (plB hk3 hm)] at o7
    simp only [dw_size] at zE1 o7
    have o7' := o7.d
    obtain ⟨ad, cd, ae, ce, af, cf, rfl, _, _, _⟩ := D.place.1 o7'
    have F1 : Ext W w2 := xE
    have N5 := (F1.blk y5).trans X5
    have N4 := (F1.blk y4).trans X4
    have psl := plsNew_len k (1 + (m : Int))
    have pss := plsNew_succ k (1 + (m : Int))
    generalize hnp : newPl (k : Int) (1 + (m : Int)) = np at *
    simp (disch := first | exact xD | fail) [-Option.bind_some, qs, -splice_eq, -stR_cells, qm, N5, N4, e0, e1, e4, e5, e12, X5, X4, E0.blk, E1.blk]
    refine Ret.bind (O.app (L := tPlace) (mx := 1466015503701) (S1 := In W.heap.size w2.heap.size) (x := np) (cs := [i64 np.me, i64 np.clock, .slice ad np.chain.length cd, .slice ae np.log.length ce, .slice af np.got.length cf, .bool np.fell]) el_25 zz_48 rfl (by decide) (op.ext (F1.al _)) (o7.keep fun b hb hbl => hp_alloc_lt hbl) (fun b hb h1 h2 => by have := hT b h1; simp only [In] at h2; omega) (At.nw rfl) (by omega) (by decide) (by decide)) ?_
    rintro ⟨_, w3⟩ ⟨a8, c8, rfl, o8, M8⟩
    have zM8 := M8.size
    try simp only [qz] at zM8
    try dsimp only at o8 M8
    have zM8 := M8.size
    simp only [World.size_alloc] at zM8 o8
    have L5 := (M8.blk g xB (fun h => (hT _ h).2.2.1 rfl)).trans ((hp_alloc_lt (by omega)).trans N5)
    have L4 := (M8.blk g4 xB (fun h => (hT _ h).2.2.2.1 rfl)).trans ((hp_alloc_lt (by omega)).trans N4)
    have F3 : Ext w0 w3 := Mod.after (E0.tr (F1.al _)) M8 (fun b h1 h2 => by have := hT b h2; omega)
    rw [psl, ← pss] at o8
    rw [psl]
    simp (disch := first | exact xD | fail) [-Option.bind_some, qs, -splice_eq, -stR_cells, qm, L5, e1, e12, e0, e4, e5, X5, X4, E0.blk, E1.blk, M8.blk]
    refine Ret.mono (ih (k + 1) _ _ a8 c8 _ (by omega) xA xA xA xA xA (by first | assumption | rfl | (simp (disch := first | exact xD | fail) [-Option.bind_some, qs, -splice_eq, -stR_cells, qm, L5, e0, e1, e4, e5, e12, X5, X4, E0.blk, E1.blk, M8.blk]; done)) ((hp_set_ne h45).trans L4) (o8.keep fun b hb hbl => hp_set_ne ?_) ?_ (os.keep fun b hb hbl => ?_) (by simp only [size_setRow]; omega) (F3.set hg _)) hQ
    · rcases hb with h | h | h
      · exact (hT b h).2.2.1
      · simp only [In] at h; omega
      · omega
    · intro b hb
      have := E0.size
      simp only [In, size_setRow] at hb ⊢
      rcases hb with h | h | h
      · have := hT b h
        exact ⟨this.1, by omega, this.2.2⟩
      · omega
      · omega
    · subst hb
      exact (hp_set_ne hsg).trans ((M8.blk b xB (fun h => (hT _ h).2.2.2.2 rfl)).trans ((hp_alloc_lt (by omega)).trans (F1.blk (by omega))))
theorem worldNew_j {g4 g p s sN m : Nat} {w0 : World} (hg4 : w0.heap.size ≤ g4) (hg : w0.heap.size ≤ g) (hp' : w0.heap.size ≤ p) (hs : w0.heap.size ≤ s) (h45 : g4 ≠ g) (hsg : s ≠ g) (hsg4 : s ≠ g4) (hpg : p ≠ g) (hpg4 : p ≠ g4) (hps : p ≠ s) (hm : m < 4) (hsN : sN ≤ 4) {e : Env} {W : World}
    (e0 : e 0 = i64 (1 + (m : Int))) (e1 : e 1 = i64 sN) (e4 : e 4 = pt g4 0) (e5 : e 5 = pt g 0) (X5 : hp W g = some (.cells #[.slice (some ⟨p, 0, none⟩) 0 3, .slice (some ⟨s, 0, none⟩) 0 sN, .slice none 0 0, .slice none 0 0] 30 (0, 0))) (X4 : hp W g4 = some (.cells #[.slice none 0 0, .slice none 0 0, .slice none 0 0, .slice none 0 0] 30 (0, 0)))
    (op : O tPs (fun b => b = p) W [.slice (some ⟨p, 0, none⟩) 0 3] []) (os : O tSs (fun b => b = s) W [.slice (some ⟨s, 0, none⟩) 0 sN] []) (hpl : p < W.heap.size) (hsl : s < W.heap.size) (E0 : Ext w0 W) :
    Ret (impl_worldNew_j1 e W) fun r => ∃ (cs : List Value), r.1 = .agg cs.toArray ∧ O tWo (In w0.heap.size r.2.heap.size) r.2 cs ⟨plsNew 3 (1 + (m : Int)), sessNew sN, [], []⟩ ∧ Ext w0 r.2 := by
  rw [impl_worldNew_j1_eq]
  refine Ret.post fun Q hQ => ?_
  simp (disch := first | exact xD | fail) [-Option.bind_some, qs, -splice_eq, -stR_cells, qm]
  exact Ret.mono (worldNew_1 hg4 hg hs h45 hsg hsg4 hm hsN 3 0 _ W _ _ _ (by omega) xA xA xA xA rfl X5 X4 op (fun b h => by subst h; exact ⟨hp', hpl, hpg, hpg4, hps⟩) os hsl E0) hQ
theorem worldNew_r {g4 sN m : Nat} {w0 w : World} {e : Env} (hg4 : w0.heap.size ≤ g4) (hm : m < 4) (hsN : sN ≤ 4) (e0 : e 0 = i64 (1 + (m : Int))) (e1 : e 1 = i64 sN) (e4 : e 4 = pt g4 0) (X4 : hp w g4 = some (.cells #[.slice none 0 0, .slice none 0 0, .slice none 0 0, .slice none 0 0] 30 (0, 0))) (E0 : Ext w0 w) :
    Ret (impl_worldNew_a1 e w) fun r => ∃ (cs : List Value), r.1 = .agg cs.toArray ∧ O tWo (In w0.heap.size r.2.heap.size) r.2 cs ⟨plsNew 3 (1 + (m : Int)), sessNew sN, [], []⟩ ∧ Ext w0 r.2 := by
  have y4 := hp_lt X4
  have zE0 := E0.size
  refine Ret.post fun Q hQ => ?_
  refine impl_worldNew_a1_any _ _ ?_
  simp (disch := first | exact xD | fail) [-Option.bind_some, qs, -splice_eq, -stR_cells, qm, e0, e1, e4]
  refine ⟨?_, ?_, ?_, ?_⟩
  · skip
    refine Ret.mono (O.make0 (α := PlaceD) (L := tPlace) (mx := 1466015503701) (n := 3) el_25 zz_48 rfl (by decide) (by decide) (by decide) (by decide)) ?_
    rintro ⟨_, w1⟩ ⟨rfl, o1, z1, E1⟩
    have zE1 := E1.size
    try simp only [qz] at zE1
    try dsimp only at o1 z1 E1
    try simp only [World.size_alloc, dw_size] at z1 o1
    simp (disch := first | exact xD | fail) [-Option.bind_some, qs, -splice_eq, -stR_cells, qm, e0, e1, e4, E1.blk]
    constructor
    · skip
      refine Ret.mono (O.make0 (α := SessD) (L := tSe) (mx := 2513169434916) (n := sN) el_26 zz_55 rfl (by decide) (by omega) (by decide) (by decide)) ?_
      rintro ⟨_, w2⟩ ⟨rfl, o2, z2, E2⟩
      have zE2 := E2.size
      try simp only [qz] at zE2
      try dsimp only at o2 z2 E2
      try simp only [World.size_alloc, dw_size] at z2 o2
      simp (disch := first | exact xD | fail) [-Option.bind_some, qs, -splice_eq, -stR_cells, qm, e0, e1, e4, E1.blk, E2.blk]
      refine Ret.mono (worldNew_j (w0 := w0) (g4 := g4) (g := w2.heap.size) (p := w.heap.size) (s := w1.heap.size) (m := m) (sN := sN) hg4 (by omega) (by omega) (by omega) (by omega) (by omega) (by omega) (by omega) (by omega) (by omega) hm hsN xA xA xA rfl (by first | assumption | rfl | (simp (disch := first | exact xD | fail) [-Option.bind_some, qs, -splice_eq, -stR_cells, qm, E1.blk, E2.blk]; done)) ?_ (o1.keep (by intro b hS hb; (try dsimp only at hS); (try simp only [In, qz] at hS hb); first | rfl | (simp (disch := first | exact xF | fail) only [E1.blk, E2.blk, qk]; done))) (o2.keep (by intro b hS hb; (try dsimp only at hS); (try simp only [In, qz] at hS hb); first | rfl | (simp (disch := first | exact xF | fail) only [E1.blk, E2.blk, qk]; done))) xN xN xE) hQ
      exact (by first | assumption | rfl | (simp (disch := first | exact xD | fail) [-Option.bind_some, qs, X4, E1.blk, E2.blk]; done))
    · skip
      refine Ret.mono (O.make0 (α := SessD) (L := tSe) (mx := 2513169434916) (n := sN) el_26 zz_55 rfl (by decide) (by omega) (by decide) (by decide)) ?_
      rintro ⟨_, w2⟩ ⟨rfl, o2, z2, E2⟩
      have zE2 := E2.size
      try simp only [qz] at zE2
      try dsimp only at o2 z2 E2
      try simp only [World.size_alloc, dw_size] at z2 o2
      have XB : hp w2 (w1.heap.size) = some (.cells #[.slice none 0 0, .slice none 0 0, .slice none 0 0, .slice none 0 0] 30 (0, 0)) := by
        exact (E2.blk (by simp only [World.size_alloc]; omega)).trans (hp_alloc_eq rfl)
      simp (disch := first | exact xD | fail) [-Option.bind_some, qs, -splice_eq, -stR_cells, qm, e0, e1, e4, XB, E1.blk, E2.blk]
      refine Ret.mono (worldNew_j (w0 := w0) (g4 := g4) (g := w1.heap.size) (p := w.heap.size) (s := w1.heap.size + 1) (m := m) (sN := sN) hg4 (by omega) (by omega) (by omega) (by omega) (by omega) (by omega) (by omega) (by omega) (by omega) hm hsN xA xA xA rfl (by first | assumption | rfl | (simp (disch := first | exact xD | fail) [-Option.bind_some, qs, -splice_eq, -stR_cells, qm, XB, E1.blk, E2.blk]; done)) ?_ (o1.keep (by intro b hS hb; (try dsimp only at hS); (try simp only [In, qz] at hS hb); first | rfl | (simp (disch := first | exact xF | fail) only [E1.blk, E2.blk, qk]; done))) (o2.keep (by intro b hS hb; (try dsimp only at hS); (try simp only [In, qz] at hS hb); first | rfl | (simp (disch := first | exact xF | fail) only [E1.blk, E2.blk, qk]; done))) xN xN xE) hQ
      exact (by first | assumption | rfl | (simp (disch := first | exact xD | fail) [-Option.bind_some, qs, X4, E1.blk, E2.blk]; done))
  · skip
    refine Ret.mono (O.make0 (α := SessD) (L := tSe) (mx := 2513169434916) (n := sN) el_26 zz_55 rfl (by decide) (by omega) (by decide) (by decide)) ?_
    rintro ⟨_, w1⟩ ⟨rfl, o1, z1, E1⟩
    have zE1 := E1.size
    try simp only [qz] at zE1
    try dsimp only at o1 z1 E1
    try simp only [World.size_alloc, dw_size] at z1 o1
    simp (disch := first | exact xD | fail) [-Option.bind_some, qs, -splice_eq, -stR_cells, qm, e0, e1, e4, E1.blk]
    constructor
    · skip
      refine Ret.mono (O.make0 (α := PlaceD) (L := tPlace) (mx := 1466015503701) (n := 3) el_25 zz_48 rfl (by decide) (by decide) (by decide) (by decide)) ?_
      rintro ⟨_, w2⟩ ⟨rfl, o2, z2, E2⟩
      have zE2 := E2.size
      try simp only [qz] at zE2
      try dsimp only at o2 z2 E2
      try simp only [World.size_alloc, dw_size] at z2 o2
      simp (disch := first | exact xD | fail) [-Option.bind_some, qs, -splice_eq, -stR_cells, qm, e0, e1, e4, E1.blk, E2.blk]
      refine Ret.mono (worldNew_j (w0 := w0) (g4 := g4) (g := w2.heap.size) (p := w1.heap.size) (s := w.heap.size) (m := m) (sN := sN) hg4 (by omega) (by omega) (by omega) (by omega) (by omega) (by omega) (by omega) (by omega) (by omega) hm hsN xA xA xA rfl (by first | assumption | rfl | (simp (disch := first | exact xD | fail) [-Option.bind_some, qs, -splice_eq, -stR_cells, qm, E1.blk, E2.blk]; done)) ?_ (o2.keep (by intro b hS hb; (try dsimp only at hS); (try simp only [In, qz] at hS hb); first | rfl | (simp (disch := first | exact xF | fail) only [E1.blk, E2.blk, qk]; done))) (o1.keep (by intro b hS hb; (try dsimp only at hS); (try simp only [In, qz] at hS hb); first | rfl | (simp (disch := first | exact xF | fail) only [E1.blk, E2.blk, qk]; done))) xN xN xE) hQ
      exact (by first | assumption | rfl | (simp (disch := first | exact xD | fail) [-Option.bind_some, qs, X4, E1.blk, E2.blk]; done))
    · skip
      refine Ret.mono (O.make0 (α := PlaceD) (L := tPlace) (mx := 1466015503701) (n := 3) el_25 zz_48 rfl (by decide) (by decide) (by decide) (by decide)) ?_
      rintro ⟨_, w2⟩ ⟨rfl, o2, z2, E2⟩
      have zE2 := E2.size
      try simp only [qz] at zE2
      try dsimp only at o2 z2 E2
      try simp only [World.size_alloc, dw_size] at z2 o2
      have XB : hp w2 (w1.heap.size) = some (.cells #[.slice none 0 0, .slice none 0 0, .slice none 0 0, .slice none 0 0] 30 (0, 0)) := by
        exact (E2.blk (by simp only [World.size_alloc]; omega)).trans (hp_alloc_eq rfl)
      simp (disch := first | exact xD | fail) [-Option.bind_some, qs, -splice_eq, -stR_cells, qm, e0, e1, e4, XB, E1.blk, E2.blk]
      refine Ret.mono (worldNew_j (w0 := w0) (g4 := g4) (g := w1.heap.size) (p := w1.heap.size + 1) (s := w.heap.size) (m := m) (sN := sN) hg4 (by omega) (by omega) (by omega) (by omega) (by omega) (by omega) (by omega) (by omega) (by omega) hm hsN xA xA xA rfl (by first | assumption | rfl | (simp (disch := first | exact xD | fail) [-Option.bind_some, qs, -splice_eq, -stR_cells, qm, XB, E1.blk, E2.blk]; done)) ?_ (o2.keep (by intro b hS hb; (try dsimp only at hS); (try simp only [In, qz] at hS hb); first | rfl | (simp (disch := first | exact xF | fail) only [E1.blk, E2.blk, qk]; done))) (o1.keep (by intro b hS hb; (try dsimp only at hS); (try simp only [In, qz] at hS hb); first | rfl | (simp (disch := first | exact xF | fail) only [E1.blk, E2.blk, qk]; done))) xN xN xE) hQ
      exact (by first | assumption | rfl | (simp (disch := first | exact xD | fail) [-Option.bind_some, qs, X4, E1.blk, E2.blk]; done))
  · skip
    refine Ret.mono (O.make0 (α := PlaceD) (L := tPlace) (mx := 1466015503701) (n := 3) el_25 zz_48 rfl (by decide) (by decide) (by decide) (by decide)) ?_
    rintro ⟨_, w1⟩ ⟨rfl, o1, z1, E1⟩
    have zE1 := E1.size
    try simp only [qz] at zE1
    try dsimp only at o1 z1 E1
    try simp only [World.size_alloc, dw_size] at z1 o1
    simp (disch := first | exact xD | fail) [-Option.bind_some, qs, -splice_eq, -stR_cells, qm, e0, e1, e4, E1.blk]
    refine Ret.mono (O.make0 (α := SessD) (L := tSe) (mx := 2513169434916) (n := sN) el_26 zz_55 rfl (by decide) (by omega) (by decide) (by decide)) ?_
    rintro ⟨_, w2⟩ ⟨rfl, o2, z2, E2⟩
    have zE2 := E2.size
    try simp only [qz] at zE2
    try dsimp only at o2 z2 E2
    try simp only [World.size_alloc, dw_size] at z2 o2
    have XB : hp w2 (w.heap.size) = some (.cells #[.slice none 0 0, .slice none 0 0, .slice none 0 0, .slice none 0 0] 30 (0, 0)) := by
      exact (E2.blk (by omega)).trans ((E1.blk (by simp only [World.size_alloc, dw_size]; omega)).trans (hp_alloc_eq (by simp only [dw_size])))
    simp (disch := first | exact xD | fail) [-Option.bind_some, qs, -splice_eq, -stR_cells, qm, e0, e1, e4, XB, E1.blk, E2.blk]
    refine Ret.mono (worldNew_j (w0 := w0) (g4 := g4) (g := w.heap.size) (p := w.heap.size + 1) (s := w1.heap.size) (m := m) (sN := sN) hg4 (by omega) (by omega) (by omega) (by omega) (by omega) (by omega) (by omega) (by omega) (by omega) hm hsN xA xA xA rfl (by first | assumption | rfl | (simp (disch := first | exact xD | fail) [-Option.bind_some, qs, -splice_eq, -stR_cells, qm, XB, E1.blk, E2.blk]; done)) ?_ (o1.keep (by intro b hS hb; (try dsimp only at hS); (try simp only [In, qz] at hS hb); first | rfl | (simp (disch := first | exact xF | fail) only [E1.blk, E2.blk, qk]; done))) (o2.keep (by intro b hS hb; (try dsimp only at hS); (try simp only [In, qz] at hS hb); first | rfl | (simp (disch := first | exact xF | fail) only [E1.blk, E2.blk, qk]; done))) xN xN xE) hQ
    exact (by first | assumption | rfl | (simp (disch := first | exact xD | fail) [-Option.bind_some, qs, X4, E1.blk, E2.blk]; done))
  · skip
    refine Ret.mono (O.make0 (α := SessD) (L := tSe) (mx := 2513169434916) (n := sN) el_26 zz_55 rfl (by decide) (by omega) (by decide) (by decide)) ?_
    rintro ⟨_, w1⟩ ⟨rfl, o1, z1, E1⟩
    have zE1 := E1.size
    try simp only [qz] at zE1
    try dsimp only at o1 z1 E1
    try simp only [World.size_alloc, dw_size] at z1 o1
    simp (disch := first | exact xD | fail) [-Option.bind_some, qs, -splice_eq, -stR_cells, qm, e0, e1, e4, E1.blk]
    refine Ret.mono (O.make0 (α := PlaceD) (L := tPlace) (mx := 1466015503701) (n := 3) el_25 zz_48 rfl (by decide) (by decide) (by decide) (by decide)) ?_
    rintro ⟨_, w2⟩ ⟨rfl, o2, z2, E2⟩
    have zE2 := E2.size
    try simp only [qz] at zE2
    try dsimp only at o2 z2 E2
    try simp only [World.size_alloc, dw_size] at z2 o2
    have XB : hp w2 (w.heap.size) = some (.cells #[.slice none 0 0, .slice none 0 0, .slice none 0 0, .slice none 0 0] 30 (0, 0)) := by
      exact (E2.blk (by omega)).trans ((E1.blk (by simp only [World.size_alloc, dw_size]; omega)).trans (hp_alloc_eq (by simp only [dw_size])))
    simp (disch := first | exact xD | fail) [-Option.bind_some, qs, -splice_eq, -stR_cells, qm, e0, e1, e4, XB, E1.blk, E2.blk]
    refine Ret.mono (worldNew_j (w0 := w0) (g4 := g4) (g := w.heap.size) (p := w1.heap.size) (s := w.heap.size + 1) (m := m) (sN := sN) hg4 (by omega) (by omega) (by omega) (by omega) (by omega) (by omega) (by omega) (by omega) (by omega) hm hsN xA xA xA rfl (by first | assumption | rfl | (simp (disch := first | exact xD | fail) [-Option.bind_some, qs, -splice_eq, -stR_cells, qm, XB, E1.blk, E2.blk]; done)) ?_ (o2.keep (by intro b hS hb; (try dsimp only at hS); (try simp only [In, qz] at hS hb); first | rfl | (simp (disch := first | exact xF | fail) only [E1.blk, E2.blk, qk]; done))) (o1.keep (by intro b hS hb; (try dsimp only at hS); (try simp only [In, qz] at hS hb); first | rfl | (simp (disch := first | exact xF | fail) only [E1.blk, E2.blk, qk]; done))) xN xN xE) hQ
    exact (by first | assumption | rfl | (simp (disch := first | exact xD | fail) [-Option.bind_some, qs, X4, E1.blk, E2.blk]; done))
theorem impl_worldNew_m {m sN : Nat} (hm : m < 4) (hsN : sN ≤ 4) {w : World} :
    Ret (EV P 14 #[i64 (1 + (m : Int)), i64 sN] w) fun r => ∃ (cs : List Value), r.1 = .agg cs.toArray ∧ O tWo (In w.heap.size r.2.heap.size) r.2 cs ⟨plsNew 3 (1 + (m : Int)), sessNew sN, [], []⟩ ∧ Ext w r.2 := by
  refine Ret.post fun Q hQ => ?_
  refine Ret.enter plain mixed (impl_worldNew_fn _ _ _) (by kernel_rfl) (n := 2) (by kernel_rfl) rfl ?_
  simp (disch := first | exact xD | fail) [-Option.bind_some, qs, -splice_eq, -stR_cells, qm]
  exact Ret.mono (worldNew_r (g4 := w.heap.size) (w0 := w) (Nat.le_refl _) hm hsN rfl rfl rfl (by first | assumption | rfl | (simp (disch := first | exact xD | fail) [-Option.bind_some, qs, -splice_eq, -stR_cells, qm]; done)) xE) hQ
theorem impl_worldArgs_c (nodes sess : Int) (w : World) : Ret (EV P 13 #[i64 nodes, i64 sess] w) fun r => r = (.bool (worldNewB nodes sess), w) := by
  refine Ret.post fun Q hQ => ?_
  refine Ret.enter plain mixed (impl_worldArgs_fn _ _ _) (by kernel_rfl) (n := 2) (by kernel_rfl) rfl ?_
  simp (disch := first | exact xD | fail) [-Option.bind_some, qs, -splice_eq, -stR_cells, qm]
  refine Ret.bind (impl_nodesOk_c _ _) ?_
  rintro _ rfl
  unfold worldNewB at hQ
  cases h1 : (decide (1 ≤ nodes) && decide (nodes ≤ 4))
  · simp (disch := first | exact xD | fail) [-Option.bind_some, qs, -splice_eq, -stR_cells, qm, h1]
    exact hQ _ (by rw [h1]; rfl)
  · simp (disch := first | exact xD | fail) [-Option.bind_some, qs, -splice_eq, -stR_cells, qm, h1]
    refine Ret.bind (impl_within_c _ _ _ _) ?_
    rintro _ rfl
    simp (disch := first | exact xD | fail) [-Option.bind_some, qs, -splice_eq, -stR_cells, qm, h1]
    exact hQ _ (by rw [h1]; rfl)
theorem impl_WorldNew_m (nodes sess : Int) {w : World} : Ret (EV P 5 #[i64 nodes, i64 sess] w) fun r => ∃ (cs : List Value), r.1 = .agg cs.toArray ∧ O tWo (In w.heap.size r.2.heap.size) r.2 cs (worldNewP nodes sess) ∧ Ext w r.2 := by
  refine Ret.post fun Q hQ => ?_
  refine Ret.enter plain mixed (impl_WorldNew_fn _ _ _) (by kernel_rfl) (n := 2) (by kernel_rfl) rfl ?_
  simp (disch := first | exact xD | fail) [-Option.bind_some, qs, -splice_eq, -stR_cells, qm]
  refine Ret.bind (impl_worldArgs_c _ _ _) ?_
  rintro _ rfl
  cases h1 : worldNewB nodes sess
  · simp (disch := first | exact xD | fail) [-Option.bind_some, qs, -splice_eq, -stR_cells, qm, h1]
    refine hQ _ ⟨_, rfl, ?_, xE⟩
    rw [worldNewP, if_neg (by simp [h1])]
    exact (worldZ_O _).wide fun b h _ => h.elim
  · simp (disch := first | exact xD | fail) [-Option.bind_some, qs, -splice_eq, -stR_cells, qm, h1]
    have g1 := h1
    simp only [worldNewB, Bool.and_eq_true, decide_eq_true_eq] at g1
    obtain ⟨m, hm⟩ : ∃ m : Nat, nodes = 1 + (m : Int) := ⟨(nodes - 1).toNat, by omega⟩
    obtain ⟨s, rfl⟩ := Int.eq_ofNat_of_zero_le g1.2.1
    subst hm
    refine Ret.bind (impl_worldNew_m (m := m) (sN := s) (by omega) (by omega)) ?_
    rintro ⟨_, w2⟩ ⟨cs, rfl, o2, E2⟩
    try dsimp only at cs o2 E2
    have zE2 := E2.size
    try simp only [qz] at zE2
    obtain ⟨a, c, a1, c1, a2, c2, a3, c3, _, _, _, _, rfl, _, _⟩ := O.world_un o2
    simp (disch := first | exact xD | fail) [-Option.bind_some, qs, -splice_eq, -stR_cells, qm, E2.blk]
    refine hQ _ ⟨_, rfl, ?_, xE⟩
    rw [worldNewP, if_pos h1]
    exact (o2.keep (by intro b hS hb; (try dsimp only at hS); (try simp only [In, qz] at hS hb); first | rfl | (simp (disch := first | exact xF | fail) only [E2.blk, qk]; done))).wide fun b h _ => by simp only [In, World.size_alloc, size_setRow, dw_size] at h ⊢; omega
end Go.Proofs.YtligcpabhddggaaGreat.X
namespace Go.Proofs.YtligcpabhddggaaGreat.X
open Go Go.Ev Go.RowKit
theorem slices_IndexFunc_Sess_n {a : Option Addr} {c : Nat} {S : Nat → Prop} {f : Value} {xs : List SessD} {p : SessD → Bool} {w0 : World} (hf : ∀ x ∈ xs, ∀ cs w, Ext w0 w → D tSe S w cs x → Ret (clo P f #[.agg cs.toArray] w) fun r => r.1 = .bool (p x) ∧ Ext w r.2) :
    ∀ (d k : Nat) (e : Env) (w : World), k + d = xs.length → e 0 = .slice a xs.length c → e 1 = f → e 7 = i64 xs.length → e 8 = i64 k → D tSs S w0 [.slice a xs.length c] xs → Ext w0 w →
    Ret (slices_IndexFunc_Sess_l1 e w) fun r => ∃ i : Int, r.1 = i64 i ∧ decide (0 ≤ i) = (xs.drop k).any p ∧ Ext w0 r.2 := by
  intro d
  induction d with
  | zero =>
    intro k e w hd e0 e1 e7 e8 ha E0
    have zE0 := E0.size
    try simp only [qz] at zE0
    rw [slices_IndexFunc_Sess_l1_eq]
    obtain rfl : k = xs.length := by omega
    rw [List.drop_eq_nil_of_le (by omega)]
    refine Ret.post fun Q hQ => ?_
    simp (disch := first | exact xD | fail) [-Option.bind_some, qs, -splice_eq, -stR_cells, qm, e0, e1, e7, e8, E0.blk]
    exact hQ _ ⟨_, rfl, by simp, E0⟩
  | succ d ih =>
    intro k e w hd e0 e1 e7 e8 ha E0
    have zE0 := E0.size
    try simp only [qz] at zE0
    rw [slices_IndexFunc_Sess_l1_eq]
    have hlt : k < xs.length := by omega
    obtain ⟨x, hx, hdx⟩ := drop_at hlt
    have hn := ha.n
    obtain ⟨b1, o1, cs1, rfl, A1, D1, _, l1⟩ := (ha.ext E0).at (by decide) hx
    have D1' := D1
    obtain ⟨a1, c1, rfl, _⟩ := D.sess.1 D1'
    simp only [LSess_n] at A1
    have p0 := A1 0 _ rfl
    have p1 := A1 1 _ rfl
    have p2 := A1 2 _ rfl
    have p3 := A1 3 _ rfl
    have p4 := A1 4 _ rfl
    simp only [LVer_n, LTag_n, LNode_n, Nat.add_zero] at p0 p1 p2 p3 p4
    rw [hdx, List.any_cons]
    refine Ret.post fun Q hQ => ?_
    simp (disch := first | exact xD | fail) [-Option.bind_some, qs, -splice_eq, -stR_cells, qm, e0, e1, e7, e8, hlt, ia_26, E0.blk, p0, p1, p2, p3, p4]
    refine Ret.bind (hf x (List.mem_of_getElem? hx) _ _ E0 D1) ?_
    rintro ⟨_, w1⟩ ⟨rfl, E1⟩
    try dsimp only at E1
    have zE1 := E1.size
    try simp only [qz] at zE1
    cases ho : p x
    · rw [ho] at hQ
      simp (disch := first | exact xD | fail) [-Option.bind_some, qs, -splice_eq, -stR_cells, qm, e0, e1, e7, e8, E0.blk, hlt, p0, p1, p2, p3, p4, E1.blk]
      exact Ret.mono (ih (k + 1) _ _ (by omega) xA xA xA xA ha xE) (fun r h => hQ r (by simpa using h))
    · rw [ho] at hQ
      simp (disch := first | exact xD | fail) [-Option.bind_some, qs, -splice_eq, -stR_cells, qm, e0, e1, e7, e8, E0.blk, hlt, p0, p1, p2, p3, p4, E1.blk]
      exact hQ _ ⟨_, rfl, by simp, xE⟩
theorem slices_ContainsFunc_Sess_m {a : Option Addr} {n c : Nat} {S : Nat → Prop} {f : Value} {xs : List SessD} {p : SessD → Bool} {w : World} (ha : D tSs S w [.slice a n c] xs) (hf : ∀ x ∈ xs, ∀ cs w', Ext w w' → D tSe S w' cs x → Ret (clo P f #[.agg cs.toArray] w') fun r => r.1 = .bool (p x) ∧ Ext w' r.2) :
    Ret (EV P 24 #[.slice a n c, f] w) fun r => r.1 = .bool (xs.any p) ∧ Ext w r.2 := by
  obtain ⟨rfl, hm, _⟩ := ha.n
  have hi : Ret (EV P 54 #[.slice a xs.length c, f] w) fun r => ∃ i : Int, r.1 = i64 i ∧ decide (0 ≤ i) = xs.any p ∧ Ext w r.2 := by
    refine Ret.enter plain mixed (slices_IndexFunc_Sess_fn _ _ _) (by kernel_rfl) (n := 2) (by kernel_rfl) rfl ?_
    simp (disch := first | exact xD | fail) [-Option.bind_some, qs]
    exact slices_IndexFunc_Sess_n hf xs.length 0 _ w (by omega) rfl rfl rfl rfl ha Ext.rfl
  refine Ret.enter plain mixed (slices_ContainsFunc_Sess_fn _ _ _) (by kernel_rfl) (n := 2) (by kernel_rfl) rfl ?_
  simp (disch := first | exact xD | fail) [-Option.bind_some, qs]
  refine Ret.bind hi ?_
  rintro ⟨_, w1⟩ ⟨i, rfl, h2, hE⟩
  simp (disch := first | exact xD | fail) [-Option.bind_some, qs, h2]
  exact hE
theorem slices_IndexFunc_Node_n {a : Option Addr} {c : Nat} {S : Nat → Prop} {f : Value} {xs : List CNode} {p : CNode → Bool} {w0 : World} (hf : ∀ x ∈ xs, ∀ cs w, Ext w0 w → D (LNode 53 58) S w cs x → Ret (clo P f #[.agg cs.toArray] w) fun r => r.1 = .bool (p x) ∧ Ext w r.2) :
    ∀ (d k : Nat) (e : Env) (w : World), k + d = xs.length → e 0 = .slice a xs.length c → e 1 = f → e 7 = i64 xs.length → e 8 = i64 k → D tNodes S w0 [.slice a xs.length c] xs → Ext w0 w →
    Ret (slices_IndexFunc_Node_l1 e w) fun r => ∃ i : Int, r.1 = i64 i ∧ decide (0 ≤ i) = (xs.drop k).any p ∧ Ext w0 r.2 := by
  intro d
  induction d with
  | zero =>
    intro k e w hd e0 e1 e7 e8 ha E0
    have zE0 := E0.size
    try simp only [qz] at zE0
    rw [slices_IndexFunc_Node_l1_eq]
    obtain rfl : k = xs.length := by omega
    rw [List.drop_eq_nil_of_le (by omega)]
    refine Ret.post fun Q hQ => ?_
    simp (disch := first | exact xD | fail) [-Option.bind_some, qs, -splice_eq, -stR_cells, qm, e0, e1, e7, e8, E0.blk]
    exact hQ _ ⟨_, rfl, by simp, E0⟩
  | succ d ih =>
    intro k e w hd e0 e1 e7 e8 ha E0
    have zE0 := E0.size
    try simp only [qz] at zE0
    rw [slices_IndexFunc_Node_l1_eq]
    have hlt : k < xs.length := by omega
    obtain ⟨x, hx, hdx⟩ := drop_at hlt
    have hn := ha.n
    obtain ⟨b1, o1, cs1, rfl, A1, D1, _, l1⟩ := (ha.ext E0).at (by decide) hx
    have D1' := D1
    obtain ⟨a2, c2, a3, c3, rfl, _, _⟩ := D.node.1 D1'
    simp only [LNode_n] at A1
    have p0 := A1 0 _ rfl
    have p1 := A1 1 _ rfl
    simp only [LVer_n, LTag_n, LNode_n, Nat.add_zero] at p0 p1
    rw [hdx, List.any_cons]
    refine Ret.post fun Q hQ => ?_
    simp (disch := first | exact xD | fail) [-Option.bind_some, qs, -splice_eq, -stR_cells, qm, e0, e1, e7, e8, hlt, ia_42, E0.blk, p0, p1]
    refine Ret.bind (hf x (List.mem_of_getElem? hx) _ _ E0 D1) ?_
    rintro ⟨_, w1⟩ ⟨rfl, E1⟩
    try dsimp only at E1
    have zE1 := E1.size
    try simp only [qz] at zE1
    cases ho : p x
    · rw [ho] at hQ
      simp (disch := first | exact xD | fail) [-Option.bind_some, qs, -splice_eq, -stR_cells, qm, e0, e1, e7, e8, E0.blk, hlt, p0, p1, E1.blk]
      exact Ret.mono (ih (k + 1) _ _ (by omega) xA xA xA xA ha xE) (fun r h => hQ r (by simpa using h))
    · rw [ho] at hQ
      simp (disch := first | exact xD | fail) [-Option.bind_some, qs, -splice_eq, -stR_cells, qm, e0, e1, e7, e8, E0.blk, hlt, p0, p1, E1.blk]
      exact hQ _ ⟨_, rfl, by simp, xE⟩
theorem slices_ContainsFunc_Node_m {a : Option Addr} {n c : Nat} {S : Nat → Prop} {f : Value} {xs : List CNode} {p : CNode → Bool} {w : World} (ha : D tNodes S w [.slice a n c] xs) (hf : ∀ x ∈ xs, ∀ cs w', Ext w w' → D (LNode 53 58) S w' cs x → Ret (clo P f #[.agg cs.toArray] w') fun r => r.1 = .bool (p x) ∧ Ext w' r.2) :
    Ret (EV P 61 #[.slice a n c, f] w) fun r => r.1 = .bool (xs.any p) ∧ Ext w r.2 := by
  obtain ⟨rfl, hm, _⟩ := ha.n
  have hi : Ret (EV P 83 #[.slice a xs.length c, f] w) fun r => ∃ i : Int, r.1 = i64 i ∧ decide (0 ≤ i) = xs.any p ∧ Ext w r.2 := by
    refine Ret.enter plain mixed (slices_IndexFunc_Node_fn _ _ _) (by kernel_rfl) (n := 2) (by kernel_rfl) rfl ?_
    simp (disch := first | exact xD | fail) [-Option.bind_some, qs]
    exact slices_IndexFunc_Node_n hf xs.length 0 _ w (by omega) rfl rfl rfl rfl ha Ext.rfl
  refine Ret.enter plain mixed (slices_ContainsFunc_Node_fn _ _ _) (by kernel_rfl) (n := 2) (by kernel_rfl) rfl ?_
  simp (disch := first | exact xD | fail) [-Option.bind_some, qs]
  refine Ret.bind hi ?_
  rintro ⟨_, w1⟩ ⟨i, rfl, h2, hE⟩
  simp (disch := first | exact xD | fail) [-Option.bind_some, qs, h2]
  exact hE
theorem slices_ContainsFunc_Frame_z {a : Option Addr} {c : Nat} {f : Value} {w : World} : Ret (EV P 27 #[.slice a 0 c, f] w) fun r => r.1 = .bool false ∧ Ext w r.2 := by
  have hi : Ret (EV P 56 #[.slice a 0 c, f] w) fun r => r.1 = i64 (-1) ∧ Ext w r.2 := by
    refine Ret.post fun Q hQ => ?_
    refine Ret.enter plain mixed (slices_IndexFunc_Frame_fn _ _ _) (by kernel_rfl) (n := 2) (by kernel_rfl) rfl ?_
    simp (disch := first | exact xD | fail) [-Option.bind_some, qs, -splice_eq, -stR_cells, qm]
    rw [slices_IndexFunc_Frame_l1_eq]
    simp (disch := first | exact xD | fail) [-Option.bind_some, qs, -splice_eq, -stR_cells, qm]
    exact hQ _ ⟨rfl, xE⟩
  refine Ret.post fun Q hQ => ?_
  refine Ret.enter plain mixed (slices_ContainsFunc_Frame_fn _ _ _) (by kernel_rfl) (n := 2) (by kernel_rfl) rfl ?_
  simp (disch := first | exact xD | fail) [-Option.bind_some, qs, -splice_eq, -stR_cells, qm]
  refine Ret.bind hi ?_
  rintro ⟨_, w1⟩ ⟨rfl, hE⟩
  simp (disch := first | exact xD | fail) [-Option.bind_some, qs, -splice_eq, -stR_cells, qm]
  exact hQ _ ⟨rfl, hE⟩
theorem slices_EqualFunc_Ver_z {a b : Option Addr} {c d : Nat} {f : Value} {w : World} : Ret (EV P 52 #[.slice a 0 c, .slice b 0 d, f] w) fun r => r.1 = .bool true ∧ Ext w r.2 := by
  refine Ret.post fun Q hQ => ?_
  refine Ret.enter plain mixed (slices_EqualFunc_Ver_fn _ _ _ _) (by kernel_rfl) (n := 3) (by kernel_rfl) rfl ?_
  simp (disch := first | exact xD | fail) [-Option.bind_some, qs, -splice_eq, -stR_cells, qm, bne_self_eq_false]
  rw [slices_EqualFunc_Ver_l1_eq]
  simp (disch := first | exact xD | fail) [-Option.bind_some, qs, -splice_eq, -stR_cells, qm]
  exact hQ _ ⟨rfl, xE⟩
theorem impl_beginsWith_z {a b : Option Addr} {c d : Nat} {w : World} : Ret (EV P 23 #[.slice a 0 c, .slice b 0 d] w) fun r => r.1 = .bool true ∧ Ext w r.2 := by
  have hsl : ∀ w', sl P 45 (.slice a 0 c) none (some (i64 0)) none w' = some (.slice a 0 c, w') := fun w' => by
    simpa using sl_h (P := P) el_45 (a := a) (len := 0) (cap := c) (n := 0) (by omega) (by omega) w'
  refine Ret.post fun Q hQ => ?_
  refine Ret.enter plain mixed (impl_beginsWith_fn _ _ _) (by kernel_rfl) (n := 2) (by kernel_rfl) rfl ?_
  simp (disch := first | exact xD | fail) [-Option.bind_some, qs, -splice_eq, -stR_cells, qm, hsl]
  refine Ret.bind (slices_EqualFunc_Ver_z) ?_
  rintro ⟨_, w1⟩ ⟨rfl, E1⟩
  try dsimp only at E1
  have zE1 := E1.size
  try simp only [qz] at zE1
  simp (disch := first | exact xD | fail) [-Option.bind_some, qs, -splice_eq, -stR_cells, qm, E1.blk]
  exact hQ _ ⟨rfl, xE⟩
def sesOk (x : SessD) : Prop := 0 ≤ x.place ∧ x.place ≤ 2 ∧ pastOk x.past = true ∧ x.wait = ⟨0, 0⟩ ∧ x.key = 0
theorem sesNew_ok (i : Nat) : sesOk (sesNew i) := ⟨by show (0 : Int) ≤ (i : Int) % 3; omega, by show (i : Int) % 3 ≤ 2; omega, by show pastOk (List.replicate 4 ⟨0, 0⟩) = true; rfl, rfl, rfl⟩
theorem sessNew_ok {k : Nat} : ∀ x ∈ sessNew k, sesOk x := fun x hx => by
  obtain ⟨i, _, rfl⟩ := List.mem_map.1 hx
  exact sesNew_ok i
theorem impl_Sess_valid_m {S : Nat → Prop} {cs : List Value} {x : SessD} (hx : sesOk x) {w : World} (ha : D tSe S w cs x) : Ret (EV P 26 #[.agg cs.toArray] w) fun r => r.1 = .bool true ∧ Ext w r.2 := by
  obtain ⟨h0, h2, h3, h4, h5⟩ := hx
  obtain ⟨a, c, rfl, hp'⟩ := D.sess.1 ha
  rw [h4, h5]
  have hd : (decide (0 ≤ x.place) && decide (x.place ≤ 2)) = true := by simp [h0, h2]
  refine Ret.post fun Q hQ => ?_
  refine Ret.enter plain mixed (impl_Sess_valid_fn _ _) (by kernel_rfl) (n := 1) (by kernel_rfl) rfl ?_
  simp (disch := first | exact xD | fail) [-Option.bind_some, qs, -splice_eq, -stR_cells, qm]
  refine Ret.bind (impl_placeOk_c _ _) ?_
  rintro _ rfl
  simp (disch := first | exact xD | fail) [-Option.bind_some, qs, -splice_eq, -stR_cells, qm, hd]
  refine Ret.bind (impl_PastOk_c (hp'.ext xE).rTags) ?_
  rintro ⟨_, w1⟩ ⟨rfl, E1⟩
  have zE1 := E1.size
  try simp only [qz] at zE1
  try dsimp only at E1
  rw [h3]
  simp (disch := first | exact xD | fail) [-Option.bind_some, qs, -splice_eq, -stR_cells, qm, E1.blk]
  refine Ret.bind (impl_TagOk_c ⟨0, 0⟩ _) ?_
  rintro ⟨_, w2⟩ ⟨rfl, E2⟩
  have zE2 := E2.size
  try simp only [qz] at zE2
  try dsimp only at E2
  rw [show tagOk ⟨0, 0⟩ = true from rfl]
  simp (disch := first | exact xD | fail) [-Option.bind_some, qs, -splice_eq, -stR_cells, qm, E1.blk, E2.blk]
  exact hQ _ ⟨rfl, xE⟩
theorem impl_WorldOk_1_m {S : Nat → Prop} {cs : List Value} {x : SessD} (hx : sesOk x) {w : World} (ha : D tSe S w cs x) : Ret (clo P (.func (.func 25) #[] #[]) #[.agg cs.toArray] w) fun r => r.1 = .bool false ∧ Ext w r.2 := by
  have := clo_eq (P := P) (g := 25) (by kernel_rfl) [] [] [.agg cs.toArray] w
  rw [show clo P (.func (.func 25) #[] #[]) #[.agg cs.toArray] w = _ by simpa using this]
  have ha0 := ha
  obtain ⟨a, c, rfl, hp'⟩ := D.sess.1 ha0
  refine Ret.post fun Q hQ => ?_
  refine Ret.enter plain mixed (impl_WorldOk_1_fn _ _) (by kernel_rfl) (n := 1) (by kernel_rfl) rfl ?_
  simp (disch := first | exact xD | fail) [-Option.bind_some, qs, -splice_eq, -stR_cells, qm]
  refine Ret.bind (impl_Sess_valid_m hx (ha.ext xE)) ?_
  rintro ⟨_, w1⟩ ⟨rfl, E1⟩
  try dsimp only at E1
  have zE1 := E1.size
  try simp only [qz] at zE1
  simp (disch := first | exact xD | fail) [-Option.bind_some, qs, -splice_eq, -stR_cells, qm, E1.blk]
  exact hQ _ ⟨rfl, xE⟩
theorem plsNew_get {k m : Nat} (h : k < 3) : (plsNew 3 (1 + (m : Int)))[k]? = some (newPl (k : Nat) (1 + (m : Int))) := by
  unfold plsNew
  rw [List.getElem?_map, List.getElem?_range h]; rfl
theorem chainNewP_eq {m : Nat} (h : m < 4) : chainNewP (1 + (m : Int)) = List.replicate (m + 1) nodeZ := by
  unfold chainNewP
  rw [if_pos (by simp only [Bool.and_eq_true, decide_eq_true_eq]; omega)]
  congr 1
  omega
theorem impl_WorldOk_l3_n {g1 m k sN : Nat} {a a1 a2 a3 a6 : Option Addr} {c c1 c2 c3 c6 : Nat} {S1 S6 : Nat → Prop} {w0 : World} {Q : Value × World → Prop} (hm : m < 4) (op : D tPs S1 w0 [.slice a 3 c] (plsNew 3 (1 + (m : Int)))) (og : D tVerSS S6 w0 [.slice a6 3 c6] (List.replicate 3 ([] : List Ver)))
    (X1 : hp w0 g1 = some (.cells #[.slice a 3 c, .slice a1 sN c1, .slice a2 0 c2, .slice a3 0 c3] 30 (0, 0)))
    (next : ∀ (e' : Env) (w' : World), e' 1 = pt g1 0 → e' 50 = .slice a 3 c → e' 51 = i64 3 → e' 52 = i64 ((k : Int) + 1) → Ext w0 w' → Ret (impl_WorldOk_l2 e' w') Q) (hk : k < 3) :
    ∀ (d j : Nat) (e : Env) (w : World), j + d = 3 → e 1 = pt g1 0 → e 50 = .slice a 3 c → e 51 = i64 3 → e 52 = i64 k → e 57 = .slice a6 3 c6 → e 58 = i64 3 → e 59 = i64 j → Ext w0 w → Ret (impl_WorldOk_l3 e w) Q := by
  have y1 := hp_lt X1
  intro d
  induction d with
  | zero =>
    intro j e w hd e1 e50 e51 e52 e57 e58 e59 E0
    have zE0 := E0.size
    try simp only [qz] at zE0
    rw [impl_WorldOk_l3_eq]
    obtain rfl : j = 3 := by omega
    refine Ret.post fun Q hQ => ?_
    simp (disch := first | exact xD | fail) [-Option.bind_some, qs, -splice_eq, -stR_cells, qm, e1, e50, e51, e52, e57, e58, e59, E0.blk]
    exact Ret.mono (next _ _ xA xA xA xA xE) hQ
  | succ d ih =>
    intro j e w hd e1 e50 e51 e52 e57 e58 e59 E0
    have zE0 := E0.size
    try simp only [qz] at zE0
    rw [impl_WorldOk_l3_eq]
    have hj : j < 3 := by omega
    have hjI : (j : Int) < 3 := by omega
    have X1' := (E0.blk y1).trans X1
    obtain ⟨b1, o1, cs1, rfl, A1, D1, _, l1⟩ := (og.ext E0).at (by decide) (show (List.replicate 3 ([] : List Ver))[j]? = some [] by rw [List.getElem?_replicate, if_pos hj])
    obtain ⟨a7, c7, rfl, _⟩ := D1.sl'
    obtain ⟨b2, o2, cs2, rfl, A2, D2, _, l2⟩ := (op.ext E0).at (by decide) (plsNew_get (m := m) hj)
    obtain ⟨p1, q1, p2, q2, p3, q3, rfl, _, _, _⟩ := D.place.1 D2
    have u0 : cellO (hp w b1) (o1 + j) = some (.slice a7 0 c7) := by have := A1 0 _ rfl; simpa only [LList_n, Nat.mul_one, Nat.add_zero, List.length_nil] using this
    simp only [LPlace_n] at A2
    have v3 : cellO (hp w b2) (o2 + j * 6 + 3) = some (.slice p2 0 q2) := A2 3 _ rfl
    refine Ret.post fun Q hQ => ?_
    simp (disch := first | exact xD | fail) [-Option.bind_some, qs, -splice_eq, -stR_cells, qm, e1, e50, e51, e52, e57, e58, e59, X1', hj, hjI, ia_46, ia_25, u0, v3, E0.blk]
    refine Ret.bind (impl_beginsWith_z) ?_
    rintro ⟨_, w2⟩ ⟨rfl, E2⟩
    try dsimp only at E2
    have zE2 := E2.size
    try simp only [qz] at zE2
    simp (disch := first | exact xD | fail) [-Option.bind_some, qs, -splice_eq, -stR_cells, qm, e1, e50, e51, e52, e57, e58, e59, E0.blk, E2.blk]
    exact Ret.mono (ih (j + 1) _ _ (by omega) xA xA xA xA xA xA xA xE) hQ
theorem impl_WorldOk_l2_n {g1 m sN : Nat} {a a1 a2 a3 : Option Addr} {c c1 c2 c3 : Nat} {S1 S2 : Nat → Prop} {w0 : World} (hm : m < 4) (op : D tPs S1 w0 [.slice a 3 c] (plsNew 3 (1 + (m : Int)))) (os : D tSs S2 w0 [.slice a1 sN c1] (sessNew sN))
    (X1 : hp w0 g1 = some (.cells #[.slice a 3 c, .slice a1 sN c1, .slice a2 0 c2, .slice a3 0 c3] 30 (0, 0))) :
    ∀ (d k : Nat) (e : Env) (w : World), k + d = 3 → e 1 = pt g1 0 → e 50 = .slice a 3 c → e 51 = i64 3 → e 52 = i64 k → Ext w0 w → Ret (impl_WorldOk_l2 e w) fun r => r.1 = .bool true ∧ Ext w0 r.2 := by
  have y1 := hp_lt X1
  intro d
  induction d with
  | zero =>
    intro k e w hd e1 e50 e51 e52 E0
    have zE0 := E0.size
    try simp only [qz] at zE0
    rw [impl_WorldOk_l2_eq]
    obtain rfl : k = 3 := by omega
    have X1' := (E0.blk y1).trans X1
    refine Ret.post fun Q hQ => ?_
    simp (disch := first | exact xD | fail) [-Option.bind_some, qs, -splice_eq, -stR_cells, qm, e1, e50, e51, e52, X1', E0.blk]
    refine Ret.bind (slices_ContainsFunc_Sess_m (p := fun _ => false) (os.ext xE) (fun x hx cs w' _ hD => impl_WorldOk_1_m (sessNew_ok x hx) hD)) ?_
    rintro ⟨_, w1⟩ ⟨rfl, E1⟩
    have zE1 := E1.size
    try simp only [qz] at zE1
    try dsimp only at E1
    have X1'' := (E1.blk (by have := hp_lt X1'; omega)).trans X1'
    rw [show (sessNew sN).any (fun _ => false) = false by simp]
    simp (disch := first | exact xD | fail) [-Option.bind_some, qs, -splice_eq, -stR_cells, qm, e1, X1'', e50, e51, e52, E0.blk, E1.blk]
    refine Ret.bind (slices_ContainsFunc_Frame_z) ?_
    rintro ⟨_, w2⟩ ⟨rfl, E2⟩
    try dsimp only at E2
    have zE2 := E2.size
    try simp only [qz] at zE2
    simp (disch := first | exact xD | fail) [-Option.bind_some, qs, -splice_eq, -stR_cells, qm, e1, e50, e51, e52, E0.blk, E1.blk, E2.blk]
    exact hQ _ ⟨rfl, xE⟩
  | succ d ih =>
    intro k e w hd e1 e50 e51 e52 E0
    have zE0 := E0.size
    try simp only [qz] at zE0
    rw [impl_WorldOk_l2_eq]
    have hk : k < 3 := by omega
    have hkI : (k : Int) < 3 := by omega
    obtain ⟨b2, o2, cs2, rfl, A2, D2, _, l2⟩ := (op.ext E0).at (by decide) (plsNew_get (m := m) hk)
    obtain ⟨p1, q1, p2, q2, p3, q3, rfl, _, _, h3⟩ := D.place.1 D2
    simp only [LPlace_n] at A2
    have u0 := A2 0 _ rfl
    have u1 := A2 1 _ rfl
    have u2 := A2 2 _ rfl
    have u3 := A2 3 _ rfl
    have u4 := A2 4 _ rfl
    have u5 := A2 5 _ rfl
    simp only [LVer_n, LTag_n, LNode_n, Nat.add_zero] at u0 u1 u2 u3 u4 u5
    rw [show (newPl (k : Int) (1 + (m : Int))).got = List.replicate 3 [] from rfl, List.length_replicate] at u4 h3
    have hz : ∀ w', Ext w w' → D tVerSS _ w' [.slice p3 3 q3] (List.replicate 3 ([] : List Ver)) := fun w' F => h3.ext F
    refine Ret.post fun Q hQ => ?_
    simp (disch := first | exact xD | fail) [-Option.bind_some, qs, -splice_eq, -stR_cells, qm, e1, e50, e51, e52, hk, hkI, ia_25, E0.blk, u0, u1, u2, u3, u4, u5]
    generalize hW : World.setRow _ _ _ = W
    have FW : Ext w W := by rw [← hW]; exact xE
    have F0 : Ext w0 W := E0.tr FW
    exact Ret.mono (impl_WorldOk_l3_n (g1 := g1) (k := k) (sN := sN) (Q := fun r => r.1 = .bool true ∧ Ext w0 r.2) hm (op.ext F0) (hz W FW) ((F0.blk y1).trans X1) (fun e' w' f1 f50 f51 f52 F => ih (k + 1) e' w' (by omega) f1 f50 f51 f52 (F0.tr F)) hk 3 0 _ W (by omega) xA xA xA xA xA xA xA Ext.rfl) hQ
theorem impl_WorldOk_l1_n {g1 m sN : Nat} {a a1 a2 a3 : Option Addr} {c c1 c2 c3 : Nat} {S1 S2 : Nat → Prop} {w0 : World} (hm : m < 4) (op : O tPs S1 w0 [.slice a 3 c] (plsNew 3 (1 + (m : Int)))) (os : D tSs S2 w0 [.slice a1 sN c1] (sessNew sN))
    (X1 : hp w0 g1 = some (.cells #[.slice a 3 c, .slice a1 sN c1, .slice a2 0 c2, .slice a3 0 c3] 30 (0, 0))) :
    ∀ (d k : Nat) (e : Env) (w : World), k + d = 3 → e 1 = pt g1 0 → e 32 = .slice a 3 c → e 33 = i64 3 → e 34 = i64 k → Ext w0 w → Ret (impl_WorldOk_l1 e w) fun r => r.1 = .bool true ∧ Ext w0 r.2 := by
  have y1 := hp_lt X1
  intro d
  induction d with
  | zero =>
    intro k e w hd e1 e32 e33 e34 E0
    have zE0 := E0.size
    try simp only [qz] at zE0
    rw [impl_WorldOk_l1_eq]
    obtain rfl : k = 3 := by omega
    have X1' := (E0.blk y1).trans X1
    refine Ret.post fun Q hQ => ?_
    simp (disch := first | exact xD | fail) [-Option.bind_some, qs, -splice_eq, -stR_cells, qm, e1, e32, e33, e34, X1', E0.blk]
    exact Ret.mono (impl_WorldOk_l2_n hm op.d os X1 3 0 _ w (by omega) xA xA xA rfl E0) hQ
  | succ d ih =>
    intro k e w hd e1 e32 e33 e34 E0
    have zE0 := E0.size
    try simp only [qz] at zE0
    rw [impl_WorldOk_l1_eq]
    have hk : k < 3 := by omega
    have hkI : (k : Int) < 3 := by omega
    obtain ⟨g, cur, cs, S0, rfl, hSg, hgl, hrow, hle, hx1, hS0, put⟩ := (op.ext E0).row (by decide) (plsNew_get (m := m) hk)
    obtain ⟨p1, q1, p2, q2, p3, q3, T1, T2, T3, rfl, k1, k2, k3, _, _, _⟩ := O.place_un hx1
    simp only [LPlace_n] at hrow hle
    have Ap := at_rowv hrow (by simpa using hle)
    have hok := placeOk_new (plB hk hm)
    rw [← newPl_eq (plB hk hm)] at hok
    generalize hnp : newPl (k : Int) (1 + (m : Int)) = np at *
    have hme : np.me = (k : Int) := hok.2.1
    have u0 := Ap 0 _ rfl
    have u1 := Ap 1 _ rfl
    have u2 := Ap 2 _ rfl
    have u3 := Ap 3 _ rfl
    have u4 := Ap 4 _ rfl
    have u5 := Ap 5 _ rfl
    simp only [LVer_n, LTag_n, LNode_n, Nat.add_zero] at u0 u1 u2 u3 u4 u5
    refine Ret.post fun Q hQ => ?_
    simp (disch := first | exact xD | fail) [-Option.bind_some, qs, -splice_eq, -stR_cells, qm, e1, e32, e33, e34, hk, hkI, ia_25, E0.blk, u0, u1, u2, u3, u4, u5]
    refine Ret.bind (impl_PlaceOk_m (p := np) (hx1.keep (by intro b hS hb; (try dsimp only at hS); (try simp only [In, qz] at hS hb); first | rfl | (simp (disch := first | exact xF | fail) only [E0.blk, qk]; done)))) ?_
    rintro ⟨_, w1⟩ ⟨rfl, E1⟩
    have zE1 := E1.size
    try simp only [qz] at zE1
    try dsimp only at E1
    rw [hok.1]
    have X5 : hp w1 w.heap.size = some (.cells #[i64 np.me, i64 np.clock, .slice p1 np.chain.length q1, .slice p2 np.log.length q2, .slice p3 np.got.length q3, .bool np.fell] 48 (0, 0)) := (E1.blk (by simp only [World.size_alloc, size_setRow]; omega)).trans (by first | assumption | rfl | (simp (disch := first | exact xD | fail) [-Option.bind_some, qs, -splice_eq, -stR_cells, qm, e1, e32, e33, e34, E0.blk, u0, u1, u2, u3, u4, u5, E1.blk]; done))
    simp (disch := first | exact xD | fail) [-Option.bind_some, qs, -splice_eq, -stR_cells, qm, X5, hme, bne_self_eq_false, e1, e32, e33, e34, E0.blk, u0, u1, u2, u3, u4, u5, E1.blk]
    exact Ret.mono (ih (k + 1) _ _ (by omega) xA xA xA xA xE) hQ
theorem impl_WorldOk_z {m sN : Nat} (hm : m < 4) (hsN : sN ≤ 4) {S : Nat → Prop} {cs : List Value} {w : World} (ho : O tWo S w cs ⟨plsNew 3 (1 + (m : Int)), sessNew sN, [], []⟩) : Ret (EV P 8 #[.agg cs.toArray] w) fun r => r.1 = .bool true ∧ Ext w r.2 := by
  obtain ⟨a, c, a1, c1, a2, c2, a3, c3, S1, S2, S3, S4, rfl, Pt, hl⟩ := O.world_un ho
  have o1 := Pt.o1
  have o2 := Pt.o2.d
  have o4 := Pt.o4.d
  simp only [plsNew_len, sessNew_len, List.length_nil] at o1 o2 o4 ⊢
  refine Ret.post fun Q hQ => ?_
  refine Ret.enter plain mixed (impl_WorldOk_fn _ _) (by kernel_rfl) (n := 1) (by kernel_rfl) rfl ?_
  simp (disch := first | exact xD | fail) [-Option.bind_some, qs, -splice_eq, -stR_cells, qm, bne_self_eq_false, show ¬ (4 : Int) < sN by omega]
  refine Ret.bind (impl_formed_m (xs := ([] : List Done)) (o4.ext xE)) ?_
  rintro ⟨_, w1⟩ ⟨rfl, E1⟩
  have zE1 := E1.size
  try simp only [qz] at zE1
  try dsimp only at E1
  rw [show formP ([] : List Done) = true from rfl]
  have X1 : hp w1 w.heap.size = some (.cells #[.slice a 3 c, .slice a1 sN c1, .slice a2 0 c2, .slice a3 0 c3] 30 (0, 0)) := (E1.blk (by simp only [World.size_alloc]; omega)).trans (by first | assumption | rfl | (simp (disch := first | exact xD | fail) [-Option.bind_some, qs, -splice_eq, -stR_cells, qm, E1.blk]; done))
  have F1 : Ext w w1 := xE
  simp (disch := first | exact xD | fail) [-Option.bind_some, qs, -splice_eq, -stR_cells, qm, X1, E1.blk]
  refine Ret.mono (impl_WorldOk_l1_n hm (o1.ext F1) (o2.ext F1) X1 3 0 _ w1 (by omega) xA xA xA xA Ext.rfl) ?_
  rintro r ⟨h1, h2⟩
  exact hQ _ ⟨h1, F1.tr h2⟩
theorem joinZ : joinT (List.replicate 4 (⟨0, 0⟩ : Tag)) (List.replicate 4 (⟨0, 0⟩ : Tag)) = List.replicate 4 ⟨0, 0⟩ := rfl
theorem tagsZ : tagsOf (List.replicate 4 verZ) = List.replicate 4 (⟨0, 0⟩ : Tag) := rfl
theorem underZ : under (List.replicate 4 (⟨0, 0⟩ : Tag)) (List.replicate 4 (⟨0, 0⟩ : Tag)) = true := rfl
theorem node_get {m j : Nat} (h : j < m + 1) : (List.replicate (m + 1) nodeZ)[j]? = some nodeZ := by rw [List.getElem?_replicate, if_pos h]
theorem impl_World_safe_1_m {gL : Nat} {sL : Value} {S : Nat → Prop} {cs : List Value} {x : SessD} (hx : x.past = List.replicate 4 ⟨0, 0⟩) {w : World} (XL : hp w gL = some (.cells #[sL] 51 (0, 0))) (hL : rTags w sL (List.replicate 4 ⟨0, 0⟩)) (ha : D tSe S w cs x) :
    Ret (clo P (.func (.func 60) #[] #[pt gL 0]) #[.agg cs.toArray] w) fun r => r.1 = .bool false ∧ Ext w r.2 := by
  have := clo_eq (P := P) (g := 60) (by kernel_rfl) [] [pt gL 0] [.agg cs.toArray] w
  rw [show clo P (.func (.func 60) #[] #[pt gL 0]) #[.agg cs.toArray] w = _ by simpa using this]
  have ha0 := ha
  obtain ⟨a, c, rfl, hp'⟩ := D.sess.1 ha0
  rw [hx, List.length_replicate] at hp'
  rw [hx, List.length_replicate]
  have yL := hp_lt XL
  refine Ret.post fun Q hQ => ?_
  refine Ret.enter plain mixed (impl_World_safe_1_fn _ _ _) (by kernel_rfl) (n := 2) (by kernel_rfl) rfl ?_
  simp (disch := first | exact xD | fail) [-Option.bind_some, qs, -splice_eq, -stR_cells, qm, XL]
  refine Ret.bind (impl_Past_under_c (xs := List.replicate 4 (⟨0, 0⟩ : Tag)) rfl (hp'.ext xE).rTags (hL.mono (Ext.keep xE))) ?_
  rintro ⟨_, w1⟩ ⟨rfl, E1⟩
  have zE1 := E1.size
  try simp only [qz] at zE1
  try dsimp only at E1
  rw [underZ]
  simp (disch := first | exact xD | fail) [-Option.bind_some, qs, -splice_eq, -stR_cells, qm, E1.blk]
  exact hQ _ ⟨rfl, xE⟩
theorem impl_World_safe_l2_n {m gL k : Nat} {a6 : Option Addr} {c6 : Nat} {S6 : Nat → Prop} {w0 : World} {Q : Value × World → Prop} {W0 W1 W2 : Value} (hgL : w0.heap.size ≤ gL) (hk : k < 3) (hm : m < 4) (hN : D tNodes S6 w0 [.slice a6 (m + 1) c6] (List.replicate (m + 1) nodeZ))
    (next : ∀ (e' : Env) (w' : World) (sL : Value), e' 0 = W0 → e' 3 = pt gL 0 → e' 12 = W1 → e' 13 = W2 → e' 14 = i64 ((k : Int) + 1) → hp w' gL = some (.cells #[sL] 51 (0, 0)) → rTags w' sL (List.replicate 4 ⟨0, 0⟩) → (∀ b ∈ (blkOf sL).toList, b ≠ gL) → Ext w0 w' → Ret (impl_World_safe_l1 e' w') Q) :
    ∀ (d j : Nat) (e : Env) (w : World) (sL : Value), j + d = m + 1 → e 0 = W0 → e 3 = pt gL 0 → e 12 = W1 → e 13 = W2 → e 14 = i64 k → e 20 = .slice a6 (m + 1) c6 → e 21 = i64 ((m + 1 : Nat) : Int) → e 22 = i64 j → hp w gL = some (.cells #[sL] 51 (0, 0)) → rTags w sL (List.replicate 4 ⟨0, 0⟩) → (∀ b ∈ (blkOf sL).toList, b ≠ gL) → Ext w0 w →
      Ret (impl_World_safe_l2 e w) Q := by
  intro d
  induction d with
  | zero =>
    intro j e w sL hd e0 e3 e12 e13 e14 e20 e21 e22 XL hL hne E0
    have zE0 := E0.size
    try simp only [qz] at zE0
    rw [impl_World_safe_l2_eq]
    obtain rfl : j = m + 1 := by omega
    refine Ret.post fun Q hQ => ?_
    simp (disch := first | exact xD | fail) [-Option.bind_some, qs, -splice_eq, -stR_cells, qm, e0, e3, e12, e13, e14, e20, e21, e22, E0.blk]
    exact Ret.mono (next _ _ sL xA xA xA xA xA XL hL hne E0) hQ
  | succ d ih =>
    intro j e w sL hd e0 e3 e12 e13 e14 e20 e21 e22 XL hL hne E0
    have zE0 := E0.size
    try simp only [qz] at zE0
    rw [impl_World_safe_l2_eq]
    have hj : j < m + 1 := by omega
    have hjI : (j : Int) < (m : Int) + 1 := by omega
    have yL := hp_lt XL
    have zE0' := E0.size
    obtain ⟨b1, o1, cs1, rfl, A1, D1, _, l1⟩ := (hN.ext E0).at (by decide) (node_get hj)
    obtain ⟨a2, c2, a3, c3, rfl, hs, _⟩ := D.node.1 D1
    simp only [LNode_n] at A1
    have u0 := A1 0 _ rfl
    have u1 := A1 1 _ rfl
    simp only [LVer_n, LTag_n, LNode_n, Nat.add_zero] at u0 u1
    rw [show nodeZ.store = List.replicate 4 verZ from rfl, List.length_replicate] at u0 hs
    refine Ret.post fun Q hQ => ?_
    simp (disch := first | exact xD | fail) [-Option.bind_some, qs, -splice_eq, -stR_cells, qm, e0, e3, e12, e13, e14, e20, e21, e22, hj, hjI, ia_42, XL, E0.blk, u0, u1]
    refine Ret.bind (impl_Store_tags_c (vs := List.replicate 4 verZ) rfl (hs.ext xE).rVers) ?_
    rintro ⟨_, w1⟩ ⟨s1, rfl, f1, E1⟩
    have zE1 := E1.size
    try simp only [qz] at zE1
    try dsimp only at f1 E1
    have F1 : Ext w w1 := xE
    have XL1 := (F1.blk yL).trans XL
    rw [tagsZ] at f1
    simp (disch := first | exact xD | fail) [-Option.bind_some, qs, -splice_eq, -stR_cells, qm, XL1, e0, e3, e12, e13, e14, e20, e21, e22, E0.blk, u0, u1, E1.blk]
    refine Ret.bind (impl_Past_join_c (xs := List.replicate 4 (⟨0, 0⟩ : Tag)) (ys := List.replicate 4 (⟨0, 0⟩ : Tag)) rfl (hL.mono (Ext.keep F1)) f1.r) ?_
    rintro ⟨_, w2⟩ ⟨s2, rfl, f2, E2⟩
    have zE2 := E2.size
    try simp only [qz] at zE2
    try dsimp only at f2 E2
    rw [joinZ] at f2
    have F2 : Ext w w2 := F1.tr E2
    have XL2 := (F2.blk yL).trans XL
    have hb2 := f2.lt
    have r2 := f2.r
    have r2' := r2
    obtain ⟨aa, ca, hs2, _⟩ := r2'.len
    subst hs2
    have zF1 := F1.size
    rw [List.length_replicate] at r2 hb2 ⊢
    simp (disch := first | exact xD | fail) [-Option.bind_some, qs, -splice_eq, -stR_cells, qm, XL2, e21, e22, e0, e3, e12, e13, e14, e20, E0.blk, u0, u1, E1.blk, E2.blk]
    have hne2 : ∀ b ∈ (blkOf (.slice aa 4 ca)).toList, b ≠ gL := fun b hb => by have := (hb2 b hb).1; omega
    exact Ret.mono (ih (j + 1) _ _ _ (by omega) xA xA xA xA xA xA xA xA (by first | assumption | rfl | (simp (disch := first | exact xD | fail) [-Option.bind_some, qs, -splice_eq, -stR_cells, qm, XL2, e0, e3, e12, e13, e14, e20, e21, e22, E0.blk, u0, u1, E1.blk, E2.blk]; done)) (r2.keep fun b hb => hp_set_ne (hne2 b hb)) hne2 ((E0.tr F2).set hgL _)) hQ
theorem impl_World_safe_l1_n {g1 gL m sN : Nat} {a a1 a2 a3 : Option Addr} {c c1 c2 c3 : Nat} {S1 S2 S4 : Nat → Prop} {w0 : World} (hgL : w0.heap.size ≤ gL) (hm : m < 4) (op : D tPs S1 w0 [.slice a 3 c] (plsNew 3 (1 + (m : Int)))) (os : D tSs S2 w0 [.slice a1 sN c1] (sessNew sN)) (o4 : D tDones S4 w0 [.slice a3 0 c3] [])
    (X1 : hp w0 g1 = some (.cells #[.slice a 3 c, .slice a1 sN c1, .slice a2 0 c2, .slice a3 0 c3] 30 (0, 0))) :
    ∀ (d k : Nat) (e : Env) (w : World) (sL : Value), k + d = 3 → e 0 = pt g1 0 → e 3 = pt gL 0 → e 12 = .slice a 3 c → e 13 = i64 3 → e 14 = i64 k → hp w gL = some (.cells #[sL] 51 (0, 0)) → rTags w sL (List.replicate 4 ⟨0, 0⟩) → (∀ b ∈ (blkOf sL).toList, b ≠ gL) → Ext w0 w →
      Ret (impl_World_safe_l1 e w) fun r => r.1 = .bool true ∧ Ext w0 r.2 := by
  have y1 := hp_lt X1
  intro d
  induction d with
  | zero =>
    intro k e w sL hd e0 e3 e12 e13 e14 XL hL hne E0
    have zE0 := E0.size
    try simp only [qz] at zE0
    rw [impl_World_safe_l1_eq]
    obtain rfl : k = 3 := by omega
    have X1' := (E0.blk y1).trans X1
    have y1' := hp_lt X1'
    have yL := hp_lt XL
    refine Ret.post fun Q hQ => ?_
    simp (disch := first | exact xD | fail) [-Option.bind_some, qs, -splice_eq, -stR_cells, qm, e0, e3, e12, e13, e14, X1', E0.blk]
    refine Ret.bind (impl_HistOk_m (xs := ([] : List Done)) (o4.ext E0)) ?_
    rintro ⟨_, w1⟩ ⟨rfl, E1⟩
    have zE1 := E1.size
    try simp only [qz] at zE1
    try dsimp only at E1
    rw [show okP ([] : List Done) = true from rfl]
    have X1'' := (E1.blk y1').trans X1'
    have XL1 := (E1.blk yL).trans XL
    simp (disch := first | exact xD | fail) [-Option.bind_some, qs, -splice_eq, -stR_cells, qm, e0, e3, X1'', e12, e13, e14, E0.blk, E1.blk]
    refine Ret.bind (slices_ContainsFunc_Sess_m (p := fun _ => false) ((os.ext E0).ext E1) (fun x hx cs w' F hD => impl_World_safe_1_m (sL := sL) (by obtain ⟨i, _, rfl⟩ := List.mem_map.1 hx; rfl) ((F.blk (hp_lt XL1)).trans XL1) (hL.mono (Ext.keep (E1.tr F))) hD)) ?_
    rintro ⟨_, w2⟩ ⟨rfl, E2⟩
    have zE2 := E2.size
    try simp only [qz] at zE2
    try dsimp only at E2
    rw [show (sessNew sN).any (fun _ => false) = false by simp]
    simp (disch := first | exact xD | fail) [-Option.bind_some, qs, -splice_eq, -stR_cells, qm, e0, e3, e12, e13, e14, E0.blk, E1.blk, E2.blk]
    exact hQ _ ⟨rfl, xE⟩
  | succ d ih =>
    intro k e w sL hd e0 e3 e12 e13 e14 XL hL hne E0
    have zE0 := E0.size
    try simp only [qz] at zE0
    rw [impl_World_safe_l1_eq]
    have hk : k < 3 := by omega
    have hkI : (k : Int) < 3 := by omega
    have yL := hp_lt XL
    obtain ⟨b2, o2, cs2, rfl, A2, D2, _, l2⟩ := op.at (by decide) (plsNew_get (m := m) hk)
    obtain ⟨p1, q1, p2, q2, p3, q3, rfl, h1, _, _⟩ := D.place.1 D2
    simp only [LPlace_n] at A2
    have u0 := A2 0 _ rfl
    have u1 := A2 1 _ rfl
    have u2 := A2 2 _ rfl
    have u3 := A2 3 _ rfl
    have u4 := A2 4 _ rfl
    have u5 := A2 5 _ rfl
    simp only [LVer_n, LTag_n, LNode_n, Nat.add_zero] at u0 u1 u2 u3 u4 u5
    rw [show (newPl (k : Int) (1 + (m : Int))).chain = List.replicate (m + 1) nodeZ from chainNewP_eq hm, List.length_replicate] at u2 h1
    refine Ret.post fun Q hQ => ?_
    simp (disch := first | exact xD | fail) [-Option.bind_some, qs, -splice_eq, -stR_cells, qm, e0, e3, e12, e13, e14, hk, hkI, ia_25, E0.blk, u0, u1, u2, u3, u4, u5]
    generalize hW : World.setRow _ _ _ = W
    have FW : Ext w W := by rw [← hW]; exact xE
    have F0 : Ext w0 W := E0.tr FW
    exact Ret.mono (impl_World_safe_l2_n (m := m) (k := k) (gL := gL) (w0 := w0) (Q := fun r => r.1 = .bool true ∧ Ext w0 r.2) hgL hk hm h1 (fun e' w' sL f0 f3 f12 f13 f14 Y r1 r2 F => ih (k + 1) e' w' sL (by omega) f0 f3 f12 f13 f14 Y r1 r2 F) (m + 1) 0 _ W sL (by omega) xA xA xA xA xA xA xA xA ((FW.blk yL).trans XL) (hL.mono (Ext.keep FW)) hne F0) hQ
theorem impl_WorldSafe_z {m sN : Nat} (hm : m < 4) (hsN : sN ≤ 4) {S : Nat → Prop} {cs : List Value} {w : World} (ho : O tWo S w cs ⟨plsNew 3 (1 + (m : Int)), sessNew sN, [], []⟩) : Ret (EV P 9 #[.agg cs.toArray] w) fun r => r.1 = .bool true ∧ Ext w r.2 := by
  have ho0 := ho
  obtain ⟨a, c, a1, c1, a2, c2, a3, c3, S1, S2, S3, S4, rfl, Pt, hl⟩ := O.world_un ho
  have o1 := Pt.o1.d
  have o2 := Pt.o2.d
  have o4 := Pt.o4.d
  simp only [plsNew_len, sessNew_len, List.length_nil] at o1 o2 o4 ho0 ⊢
  refine Ret.post fun Q hQ => ?_
  refine Ret.enter plain mixed (impl_WorldSafe_fn _ _) (by kernel_rfl) (n := 1) (by kernel_rfl) rfl ?_
  simp (disch := first | exact xD | fail) [-Option.bind_some, qs, -splice_eq, -stR_cells, qm]
  refine Ret.bind (impl_WorldOk_z hm hsN (ho0.ext xE)) ?_
  rintro ⟨_, w1⟩ ⟨rfl, E1⟩
  have zE1 := E1.size
  try simp only [qz] at zE1
  try dsimp only at E1
  have X1 : hp w1 w.heap.size = some (.cells #[.slice a 3 c, .slice a1 sN c1, .slice a2 0 c2, .slice a3 0 c3] 30 (0, 0)) := (E1.blk (by simp only [World.size_alloc]; omega)).trans (by first | assumption | rfl | (simp (disch := first | exact xD | fail) [-Option.bind_some, qs, -splice_eq, -stR_cells, qm, E1.blk]; done))
  have F1 : Ext w w1 := xE
  simp (disch := first | exact xD | fail) [-Option.bind_some, qs, -splice_eq, -stR_cells, qm, E1.blk, X1]
  have hs : Ret (EV P 30 #[pt w.heap.size 0] w1) fun r => r.1 = .bool true ∧ Ext w1 r.2 := by
    refine Ret.post fun Q hQ => ?_
    refine Ret.enter plain mixed (impl_World_safe_fn _ _) (by kernel_rfl) (n := 1) (by kernel_rfl) rfl ?_
    simp (disch := first | exact xD | fail) [-Option.bind_some, qs, -splice_eq, -stR_cells, qm, E1.blk, X1]
    refine Ret.bind (impl_PastNone_c _) ?_
    rintro ⟨_, w2⟩ ⟨g, rfl, hg1, Xg, E2⟩
    have zE2 := E2.size
    try simp only [qz] at zE2
    try dsimp only at Xg E2
    have yg := hp_lt Xg
    have N1 := (E2.blk (hp_lt X1)).trans X1
    have hz : rTags w2 (.slice (some ⟨g, 0, none⟩) 4 4) (List.replicate 4 ⟨0, 0⟩) := ⟨⟨some ⟨g, 0, none⟩, 4, rfl, by decide, .inr ⟨g, 0, rfl, fun j v hj => by rw [Xg, cellO_some, ← nth_eq, Nat.zero_add]; exact hj⟩⟩, by decide⟩
    simp (disch := first | exact xD | fail) [-Option.bind_some, qs, -splice_eq, -stR_cells, qm, N1, E1.blk, X1, hg1, E2.blk]
    generalize hW : World.setRow _ _ _ = W
    have FW : Ext w2 W := by rw [← hW]; exact xE
    have F0 : Ext w1 W := E2.tr FW
    have XL : hp W w2.heap.size = some (.cells #[.slice (some ⟨g, 0, none⟩) 4 4] 51 (0, 0)) := by rw [← hW]; exact (by first | assumption | rfl | (simp (disch := first | exact xD | fail) [-Option.bind_some, qs, -splice_eq, -stR_cells, qm, E1.blk, X1, hg1, E2.blk]; done))
    have hb : ∀ b ∈ (blkOf (.slice (some ⟨g, 0, none⟩) 4 4)).toList, b ≠ w2.heap.size := fun b hb => by
      simp only [blkOf, Option.toList_some, List.mem_singleton] at hb
      omega
    have z2 := E2.size
    refine Ret.mono (impl_World_safe_l1_n (w0 := w1) (g1 := w.heap.size) (gL := w2.heap.size) z2 hm (o1.ext F1) (o2.ext F1) (o4.ext F1) X1 3 0 _ W _ (by omega) xA xA xA xA xA XL (hz.mono (Ext.keep FW)) hb F0) hQ
  refine Ret.bind hs ?_
  rintro ⟨_, w2⟩ ⟨rfl, E2⟩
  have zE2 := E2.size
  try simp only [qz] at zE2
  try dsimp only at E2
  simp (disch := first | exact xD | fail) [-Option.bind_some, qs, -splice_eq, -stR_cells, qm, E1.blk, X1, E2.blk]
  exact hQ _ ⟨rfl, F1.tr E2⟩
theorem sameZ : sameV (List.replicate 4 verZ) (List.replicate 4 verZ) = true := sameV_iff.2 rfl
theorem impl_World_alike_1_m {gF cF : Nat} {aF : Option Addr} {SF S : Nat → Prop} {cs : List Value} {x : CNode} (hx : x.store = List.replicate 4 verZ) {w : World} (XF : hp w gF = some (.cells #[.slice aF 4 cF] 86 (0, 0))) (hF : D tVers SF w [.slice aF 4 cF] (List.replicate 4 verZ)) (ha : D (LNode 53 58) S w cs x) :
    Ret (clo P (.func (.func 62) #[] #[pt gF 0]) #[.agg cs.toArray] w) fun r => r.1 = .bool false ∧ Ext w r.2 := by
  have := clo_eq (P := P) (g := 62) (by kernel_rfl) [] [pt gF 0] [.agg cs.toArray] w
  rw [show clo P (.func (.func 62) #[] #[pt gF 0]) #[.agg cs.toArray] w = _ by simpa using this]
  obtain ⟨a2, c2, a3, c3, rfl, hs, _⟩ := D.node.1 ha
  rw [hx, List.length_replicate] at hs
  rw [hx, List.length_replicate]
  have yF := hp_lt XF
  refine Ret.post fun Q hQ => ?_
  refine Ret.enter plain mixed (impl_World_alike_1_fn _ _ _) (by kernel_rfl) (n := 2) (by kernel_rfl) rfl ?_
  simp (disch := first | exact xD | fail) [-Option.bind_some, qs, -splice_eq, -stR_cells, qm, XF]
  refine Ret.bind (impl_Store_same_m (hs.ext xE) (hF.ext xE)) ?_
  rintro ⟨_, w1⟩ ⟨rfl, E1⟩
  have zE1 := E1.size
  try simp only [qz] at zE1
  try dsimp only at E1
  rw [sameZ]
  simp (disch := first | exact xD | fail) [-Option.bind_some, qs, -splice_eq, -stR_cells, qm, E1.blk]
  exact hQ _ ⟨rfl, xE⟩
theorem impl_World_alike_l1_n {gF cF m : Nat} {a aF : Option Addr} {c : Nat} {S1 SF : Nat → Prop} {w0 : World} (hm : m < 4) (op : D tPs S1 w0 [.slice a 3 c] (plsNew 3 (1 + (m : Int)))) (XF : hp w0 gF = some (.cells #[.slice aF 4 cF] 86 (0, 0))) (hF : D tVers SF w0 [.slice aF 4 cF] (List.replicate 4 verZ)) :
    ∀ (d k : Nat) (e : Env) (w : World), k + d = 3 → e 3 = pt gF 0 → e 20 = .slice a 3 c → e 21 = i64 3 → e 22 = i64 k → Ext w0 w →
      Ret (impl_World_alike_l1 e w) fun r => r.1 = .bool true ∧ Ext w0 r.2 := by
  have yF := hp_lt XF
  intro d
  induction d with
  | zero =>
    intro k e w hd e3 e20 e21 e22 E0
    have zE0 := E0.size
    try simp only [qz] at zE0
    rw [impl_World_alike_l1_eq]
    obtain rfl : k = 3 := by omega
    refine Ret.post fun Q hQ => ?_
    simp (disch := first | exact xD | fail) [-Option.bind_some, qs, -splice_eq, -stR_cells, qm, e3, e20, e21, e22, E0.blk]
    exact hQ _ ⟨rfl, xE⟩
  | succ d ih =>
    intro k e w hd e3 e20 e21 e22 E0
    have zE0 := E0.size
    try simp only [qz] at zE0
    rw [impl_World_alike_l1_eq]
    have hk : k < 3 := by omega
    have hkI : (k : Int) < 3 := by omega
    obtain ⟨b2, o2, cs2, rfl, A2, D2, _, l2⟩ := op.at (by decide) (plsNew_get (m := m) hk)
    obtain ⟨p1, q1, p2, q2, p3, q3, rfl, h1, _, _⟩ := D.place.1 D2
    simp only [LPlace_n] at A2
    have u0 := A2 0 _ rfl
    have u1 := A2 1 _ rfl
    have u2 := A2 2 _ rfl
    have u3 := A2 3 _ rfl
    have u4 := A2 4 _ rfl
    have u5 := A2 5 _ rfl
    simp only [LVer_n, LTag_n, LNode_n, Nat.add_zero] at u0 u1 u2 u3 u4 u5
    rw [show (newPl (k : Int) (1 + (m : Int))).chain = List.replicate (m + 1) nodeZ from chainNewP_eq hm, List.length_replicate] at u2 h1
    refine Ret.post fun Q hQ => ?_
    simp (disch := first | exact xD | fail) [-Option.bind_some, qs, -splice_eq, -stR_cells, qm, e3, e20, e21, e22, hk, hkI, ia_25, E0.blk, u0, u1, u2, u3, u4, u5]
    generalize hW : World.setRow _ _ _ = W
    have FW : Ext w W := by rw [← hW]; exact xE
    have F0 : Ext w0 W := E0.tr FW
    refine Ret.bind (slices_ContainsFunc_Node_m (p := fun _ => false) (h1.ext F0) (fun x hx cs w' F hD => impl_World_alike_1_m (by rw [List.eq_of_mem_replicate hx]; rfl) (((F0.tr F).blk yF).trans XF) (hF.ext (F0.tr F)) hD)) ?_
    rintro ⟨_, w2⟩ ⟨rfl, E2⟩
    have zE2 := E2.size
    try simp only [qz] at zE2
    try dsimp only at E2
    rw [show (List.replicate (m + 1) nodeZ).any (fun _ => false) = false by simp]
    simp (disch := first | exact xD | fail) [-Option.bind_some, qs, -splice_eq, -stR_cells, qm, e22, e3, e20, e21, E0.blk, u0, u1, u2, u3, u4, u5, E2.blk]
    exact Ret.mono (ih (k + 1) _ _ (by omega) xA xA xA xA (F0.tr E2)) hQ
theorem impl_WorldSame_z {m sN : Nat} (hm : m < 4) (hsN : sN ≤ 4) {S : Nat → Prop} {cs : List Value} {w : World} (ho : O tWo S w cs ⟨plsNew 3 (1 + (m : Int)), sessNew sN, [], []⟩) : Ret (EV P 10 #[.agg cs.toArray] w) fun r => r.1 = .bool true ∧ Ext w r.2 := by
  have ho0 := ho
  obtain ⟨a, c, a1, c1, a2, c2, a3, c3, S1, S2, S3, S4, rfl, Pt, hl⟩ := O.world_un ho
  have o1 := Pt.o1.d
  simp only [plsNew_len, sessNew_len, List.length_nil] at o1 ho0 ⊢
  refine Ret.post fun Q hQ => ?_
  refine Ret.enter plain mixed (impl_WorldSame_fn _ _) (by kernel_rfl) (n := 1) (by kernel_rfl) rfl ?_
  simp (disch := first | exact xD | fail) [-Option.bind_some, qs, -splice_eq, -stR_cells, qm]
  refine Ret.bind (impl_WorldOk_z hm hsN (ho0.ext xE)) ?_
  rintro ⟨_, w1⟩ ⟨rfl, E1⟩
  have zE1 := E1.size
  try simp only [qz] at zE1
  try dsimp only at E1
  have X1 : hp w1 w.heap.size = some (.cells #[.slice a 3 c, .slice a1 sN c1, .slice a2 0 c2, .slice a3 0 c3] 30 (0, 0)) := (E1.blk (by simp only [World.size_alloc]; omega)).trans (by first | assumption | rfl | (simp (disch := first | exact xD | fail) [-Option.bind_some, qs, -splice_eq, -stR_cells, qm, E1.blk]; done))
  have F1 : Ext w w1 := xE
  simp (disch := first | exact xD | fail) [-Option.bind_some, qs, -splice_eq, -stR_cells, qm, E1.blk, X1]
  have hs : Ret (EV P 31 #[pt w.heap.size 0] w1) fun r => r.1 = .bool true ∧ Ext w1 r.2 := by
    have y1 := hp_lt X1
    have o1' := o1.ext F1
    obtain ⟨b2, o2, cs2, rfl, A2, D2, _, l2⟩ := o1'.at (by decide) (plsNew_get (m := m) (k := 0) (by omega))
    obtain ⟨p1, q1, p2, q2, p3, q3, rfl, h1, _, _⟩ := D.place.1 D2
    simp only [LPlace_n, Nat.zero_mul, Nat.add_zero] at A2
    rw [show (newPl ((0 : Nat) : Int) (1 + (m : Int))).chain = List.replicate (m + 1) nodeZ from chainNewP_eq hm, List.length_replicate] at h1
    have u2 : cellO (hp w1 b2) (o2 + 2) = some (.slice p1 (m + 1) q1) := by
      have := A2 2 _ rfl
      rwa [show (newPl ((0 : Nat) : Int) (1 + (m : Int))).chain = List.replicate (m + 1) nodeZ from chainNewP_eq hm, List.length_replicate] at this
    obtain ⟨b3, o3, cs3, rfl, A3, D3, _, l3⟩ := h1.at (by decide) (node_get (m := m) (j := 0) (by omega))
    obtain ⟨a4, c4, a5, c5, rfl, hs, _⟩ := D.node.1 D3
    simp only [LNode_n, Nat.zero_mul, Nat.add_zero] at A3
    rw [show nodeZ.store = List.replicate 4 verZ from rfl, List.length_replicate] at hs
    have v0 : cellO (hp w1 b3) o3 = some (.slice a4 4 c4) := A3 0 _ rfl
    have hm1 : (0 : Int) < ((m : Int) + 1) := by omega
    have hm1n : 0 < m + 1 := by omega
    refine Ret.post fun Q hQ => ?_
    refine Ret.enter plain mixed (impl_World_alike_fn _ _) (by kernel_rfl) (n := 1) (by kernel_rfl) rfl ?_
    simp (disch := first | exact xD | fail) [-Option.bind_some, qs, -splice_eq, -stR_cells, qm, X1, ia_25, ia_42, u2, v0, hm1, hm1n, E1.blk]
    generalize hW : World.setRow _ _ _ = W
    have FW : Ext w1 W := by rw [← hW]; exact xE
    have XF : hp W w1.heap.size = some (.cells #[.slice a4 4 c4] 86 (0, 0)) := by rw [← hW]; exact (by first | assumption | rfl | (simp (disch := first | exact xD | fail) [-Option.bind_some, qs, -splice_eq, -stR_cells, qm, E1.blk, X1]; done))
    refine Ret.mono (impl_World_alike_l1_n hm (o1'.ext FW) XF (hs.ext FW) 3 0 _ W (by omega) xA xA xA xA Ext.rfl) ?_
    rintro r ⟨h1, h2⟩
    exact hQ _ ⟨h1, FW.tr h2⟩
  refine Ret.bind hs ?_
  rintro ⟨_, w2⟩ ⟨rfl, E2⟩
  have zE2 := E2.size
  try simp only [qz] at zE2
  try dsimp only at E2
  simp (disch := first | exact xD | fail) [-Option.bind_some, qs, -splice_eq, -stR_cells, qm, E1.blk, X1, E2.blk]
  exact hQ _ ⟨rfl, F1.tr E2⟩
theorem laws_cfDone_z {a b : Option Addr} {c d : Nat} {w : World} : Ret (EV P 15 #[.slice a 0 c, .slice b 0 d] w) fun r => r.1 = .bool true ∧ Ext w r.2 := by
  refine Ret.post fun Q hQ => ?_
  refine Ret.enter plain mixed (laws_cfDone_fn _ _ _) (by kernel_rfl) (n := 2) (by kernel_rfl) rfl ?_
  simp (disch := first | exact xD | fail) [-Option.bind_some, qs, -splice_eq, -stR_cells, qm, bne_self_eq_false]
  rw [laws_cfDone_l1_eq]
  simp (disch := first | exact xD | fail) [-Option.bind_some, qs, -splice_eq, -stR_cells, qm]
  exact hQ _ ⟨rfl, xE⟩
theorem laws_cfWorld_l3_n {g2 g3 : Nat} {a a1 a2 a3 : Option Addr} {n n1 c c1 c2 c3 : Nat} {e : Env} {w : World} (e2 : e 2 = pt g2 0) (e9 : e 9 = i64 0) (X2 : hp w g2 = some (.cells #[.slice a n c, .slice a1 n1 c1, .slice a2 0 c2, .slice a3 0 c3] 30 (0, 0))) :
    Ret (laws_cfWorld_l3 e w) fun r => r.1 = .bool true ∧ Ext w r.2 := by
  rw [laws_cfWorld_l3_eq]
  refine Ret.post fun Q hQ => ?_
  simp (disch := first | exact xD | fail) [-Option.bind_some, qs, -splice_eq, -stR_cells, qm, e2, e9, X2]
  exact hQ _ ⟨rfl, xE⟩
theorem laws_cfWorld_l2_n {g2 g3 : Nat} {a a1 a2 a3 b b1 b2 b3 : Option Addr} {n c c1 c2 c3 d1 d2 d3 dd : Nat} {S S' : Nat → Prop} {xs : List SessD} {w0 : World} (ha : D tSs S w0 [.slice a1 xs.length c1] xs) (hb : D tSs S' w0 [.slice b1 xs.length d1] xs)
    (X2 : hp w0 g2 = some (.cells #[.slice a n c, .slice a1 xs.length c1, .slice a2 0 c2, .slice a3 0 c3] 30 (0, 0))) (X3 : hp w0 g3 = some (.cells #[.slice b n dd, .slice b1 xs.length d1, .slice b2 0 d2, .slice b3 0 d3] 30 (0, 0))) :
    ∀ (d k : Nat) (e : Env) (w : World), k + d = xs.length → e 2 = pt g2 0 → e 3 = pt g3 0 → e 6 = i64 k → Ext w0 w → Ret (laws_cfWorld_l2 e w) fun r => r.1 = .bool true ∧ Ext w0 r.2 := by
  have y2 := hp_lt X2
  have y3 := hp_lt X3
  have hn := ha.n
  intro d
  induction d with
  | zero =>
    intro k e w hd e2 e3 e6 E0
    have zE0 := E0.size
    try simp only [qz] at zE0
    rw [laws_cfWorld_l2_eq]
    obtain rfl : k = xs.length := by omega
    have N2 := (E0.blk y2).trans X2
    refine Ret.post fun Q hQ => ?_
    simp (disch := first | exact xD | fail) [-Option.bind_some, qs, -splice_eq, -stR_cells, qm, e2, e3, e6, N2, E0.blk]
    refine Ret.mono (laws_cfWorld_l3_n (g2 := g2) (g3 := g3) xA xA N2) ?_
    rintro r ⟨h1, h2⟩
    exact hQ _ ⟨h1, E0.tr h2⟩
  | succ d ih =>
    intro k e w hd e2 e3 e6 E0
    have zE0 := E0.size
    try simp only [qz] at zE0
    rw [laws_cfWorld_l2_eq]
    have hlt : k < xs.length := by omega
    have hltI : (k : Int) < xs.length := by omega
    obtain ⟨x, hx, hdx⟩ := drop_at hlt
    have N2 := (E0.blk y2).trans X2
    have N3 := (E0.blk y3).trans X3
    obtain ⟨b1', o1, cs1, rfl, A1, D1, _, l1⟩ := ha.at (by decide) hx
    obtain ⟨b2', o2, cs2, rfl, A2, D2, _, l2⟩ := hb.at (by decide) hx
    obtain ⟨a7, c7, rfl, h7⟩ := D.sess.1 D1
    obtain ⟨a8, c8, rfl, h8⟩ := D.sess.1 D2
    simp only [LSess_n] at A1 A2
    have p0 := A1 0 _ rfl
    have p1 := A1 1 _ rfl
    have p2 := A1 2 _ rfl
    have p3 := A1 3 _ rfl
    have p4 := A1 4 _ rfl
    simp only [LVer_n, LTag_n, LNode_n, Nat.add_zero] at p0 p1 p2 p3 p4
    have q0 := A2 0 _ rfl
    have q1 := A2 1 _ rfl
    have q2 := A2 2 _ rfl
    have q3 := A2 3 _ rfl
    have q4 := A2 4 _ rfl
    simp only [LVer_n, LTag_n, LNode_n, Nat.add_zero] at q0 q1 q2 q3 q4
    refine Ret.post fun Q hQ => ?_
    simp (disch := first | exact xD | fail) [-Option.bind_some, qs, -splice_eq, -stR_cells, qm, e2, e3, e6, hlt, hltI, ia_26, N2, N3, bne_self_eq_false, beq_self_eq_true, E0.blk, p0, p1, p2, p3, p4, q0, q1, q2, q3, q4]
    generalize hW : World.setRow _ _ _ = W
    have FW : Ext w W := by rw [← hW]; exact xE
    refine Ret.bind (laws_cfPast_m (h7.ext (E0.tr FW)) (h8.ext (E0.tr FW))) ?_
    rintro ⟨_, w1⟩ ⟨rfl, E1⟩
    have zE1 := E1.size
    try simp only [qz] at zE1
    try dsimp only at E1
    simp (disch := first | exact xD | fail) [-Option.bind_some, qs, -splice_eq, -stR_cells, qm, e6, e2, e3, E0.blk, hlt, p0, p1, p2, p3, p4, q0, q1, q2, q3, q4, E1.blk]
    exact Ret.mono (ih (k + 1) _ _ (by omega) xA xA xA ((E0.tr FW).tr E1)) hQ
theorem laws_cfWorld_l1_n {g2 g3 : Nat} {a a1 a2 a3 b b1 b2 b3 : Option Addr} {c c1 c2 c3 d1 d2 d3 dd : Nat} {S S' T T' : Nat → Prop} {ps : List PlaceD} {xs : List SessD} {w0 : World} (pa : D tPs T w0 [.slice a ps.length c] ps) (pb : D tPs T' w0 [.slice b ps.length dd] ps) (ha : D tSs S w0 [.slice a1 xs.length c1] xs) (hb : D tSs S' w0 [.slice b1 xs.length d1] xs)
    (X2 : hp w0 g2 = some (.cells #[.slice a ps.length c, .slice a1 xs.length c1, .slice a2 0 c2, .slice a3 0 c3] 30 (0, 0))) (X3 : hp w0 g3 = some (.cells #[.slice b ps.length dd, .slice b1 xs.length d1, .slice b2 0 d2, .slice b3 0 d3] 30 (0, 0))) :
    ∀ (d k : Nat) (e : Env) (w : World), k + d = ps.length → e 2 = pt g2 0 → e 3 = pt g3 0 → e 5 = i64 k → Ext w0 w → Ret (laws_cfWorld_l1 e w) fun r => r.1 = .bool true ∧ Ext w0 r.2 := by
  have y2 := hp_lt X2
  have y3 := hp_lt X3
  have hn := pa.n
  intro d
  induction d with
  | zero =>
    intro k e w hd e2 e3 e5 E0
    have zE0 := E0.size
    try simp only [qz] at zE0
    rw [laws_cfWorld_l1_eq]
    obtain rfl : k = ps.length := by omega
    have N2 := (E0.blk y2).trans X2
    refine Ret.post fun Q hQ => ?_
    simp (disch := first | exact xD | fail) [-Option.bind_some, qs, -splice_eq, -stR_cells, qm, e2, e3, e5, N2, E0.blk]
    exact Ret.mono (laws_cfWorld_l2_n ha hb X2 X3 xs.length 0 _ w (by omega) xA xA xA E0) hQ
  | succ d ih =>
    intro k e w hd e2 e3 e5 E0
    have zE0 := E0.size
    try simp only [qz] at zE0
    rw [laws_cfWorld_l1_eq]
    have hlt : k < ps.length := by omega
    have hltI : (k : Int) < ps.length := by omega
    obtain ⟨x, hx, hdx⟩ := drop_at hlt
    have N2 := (E0.blk y2).trans X2
    have N3 := (E0.blk y3).trans X3
    obtain ⟨b1', o1, cs1, rfl, A1, D1, _, l1⟩ := pa.at (by decide) hx
    obtain ⟨b2', o2, cs2, rfl, A2, D2, _, l2⟩ := pb.at (by decide) hx
    have D1' := D1
    have D2' := D2
    obtain ⟨p1, q1, p2, q2, p3, q3, rfl, _, _, _⟩ := D.place.1 D1'
    obtain ⟨r1, s1, r2, s2, r3, s3, rfl, _, _, _⟩ := D.place.1 D2'
    simp only [LPlace_n] at A1 A2
    have p0 := A1 0 _ rfl
    have p1 := A1 1 _ rfl
    have p2 := A1 2 _ rfl
    have p3 := A1 3 _ rfl
    have p4 := A1 4 _ rfl
    have p5 := A1 5 _ rfl
    simp only [LVer_n, LTag_n, LNode_n, Nat.add_zero] at p0 p1 p2 p3 p4 p5
    have q0 := A2 0 _ rfl
    have q1 := A2 1 _ rfl
    have q2 := A2 2 _ rfl
    have q3 := A2 3 _ rfl
    have q4 := A2 4 _ rfl
    have q5 := A2 5 _ rfl
    simp only [LVer_n, LTag_n, LNode_n, Nat.add_zero] at q0 q1 q2 q3 q4 q5
    refine Ret.post fun Q hQ => ?_
    simp (disch := first | exact xD | fail) [-Option.bind_some, qs, -splice_eq, -stR_cells, qm, e2, e3, e5, hlt, hltI, ia_25, N2, N3, E0.blk, p0, p1, p2, p3, p4, p5, q0, q1, q2, q3, q4, q5]
    refine Ret.bind (laws_cfPlace_m (D1.ext (E0.tr xE)) (D2.ext (E0.tr xE))) ?_
    rintro ⟨_, w1⟩ ⟨rfl, E1⟩
    have zE1 := E1.size
    try simp only [qz] at zE1
    try dsimp only at E1
    simp (disch := first | exact xD | fail) [-Option.bind_some, qs, -splice_eq, -stR_cells, qm, e5, e2, e3, E0.blk, hlt, p0, p1, p2, p3, p4, p5, q0, q1, q2, q3, q4, q5, E1.blk]
    exact Ret.mono (ih (k + 1) _ _ (by omega) xA xA xA (E0.tr xE)) hQ
theorem laws_cfWorld_z {S S' : Nat → Prop} {cs ds : List Value} {ps : List PlaceD} {ss : List SessD} {w : World} (ha : D tWo S w cs ⟨ps, ss, [], []⟩) (hb : D tWo S' w ds ⟨ps, ss, [], []⟩) : Ret (EV P 6 #[.agg cs.toArray, .agg ds.toArray] w) fun r => r.1 = .bool true ∧ Ext w r.2 := by
  obtain ⟨a, c, a1, c1, a2, c2, a3, c3, rfl, h1, h2, _, _⟩ := D.world.1 ha
  obtain ⟨b, d, b1, d1, b2, d2, b3, d3, rfl, h3, h4, _, _⟩ := D.world.1 hb
  simp only [List.length_nil] at h1 h2 h3 h4 ⊢
  refine Ret.post fun Q hQ => ?_
  refine Ret.enter plain mixed (laws_cfWorld_fn _ _ _) (by kernel_rfl) (n := 2) (by kernel_rfl) rfl ?_
  simp (disch := first | exact xD | fail) [-Option.bind_some, qs, -splice_eq, -stR_cells, qm, bne_self_eq_false]
  refine Ret.bind laws_cfDone_z ?_
  rintro ⟨_, w1⟩ ⟨rfl, E1⟩
  have zE1 := E1.size
  try simp only [qz] at zE1
  try dsimp only at E1
  have F1 : Ext w w1 := xE
  have X2 : hp w1 w.heap.size = some (.cells #[.slice a ps.length c, .slice a1 ss.length c1, .slice a2 0 c2, .slice a3 0 c3] 30 (0, 0)) := (E1.blk (by simp only [World.size_alloc]; omega)).trans (by first | assumption | rfl | (simp (disch := first | exact xD | fail) [-Option.bind_some, qs, -splice_eq, -stR_cells, qm, E1.blk]; done))
  have X3 : hp w1 (w.heap.size + 1) = some (.cells #[.slice b ps.length d, .slice b1 ss.length d1, .slice b2 0 d2, .slice b3 0 d3] 30 (0, 0)) := (E1.blk (by simp only [World.size_alloc]; omega)).trans (by first | assumption | rfl | (simp (disch := first | exact xD | fail) [-Option.bind_some, qs, -splice_eq, -stR_cells, qm, E1.blk, X2]; done))
  simp (disch := first | exact xD | fail) [-Option.bind_some, qs, -splice_eq, -stR_cells, qm, E1.blk, X2, X3]
  refine Ret.mono (laws_cfWorld_l1_n (h1.ext F1) (h3.ext F1) (h2.ext F1) (h4.ext F1) X2 X3 ps.length 0 _ w1 (by omega) xA xA xA Ext.rfl) ?_
  rintro r ⟨h1, h2⟩
  exact hQ _ ⟨h1, F1.tr h2⟩
end Go.Proofs.YtligcpabhddggaaGreat.X
