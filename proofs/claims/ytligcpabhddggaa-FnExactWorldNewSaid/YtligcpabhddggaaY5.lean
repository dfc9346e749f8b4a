/- A part of the proof: an evaluator of the model, its laws, and contracts of functions; no condition. -/
import Derived.Test.YtligcpabhddggaaEvWp
import Derived.Test.YtligcpabhddggaaY3
set_option linter.unusedVariables false
set_option linter.unusedSimpArgs false
set_option maxRecDepth 100000
set_option maxHeartbeats 1000000
namespace Go.Proofs.Ytligcpabhddggaa.X
open Go Go.Ev Go.RowKit
abbrev PtZ (w : World) (x : WorldD) (s t u v : Value) (S1 S2 S3 S4 : Nat → Prop) : Prop := Parts 54 62 83 44 47 56 64 67 w x s t u v S1 S2 S3 S4
def newPl (me nodes : Int) : PlaceD := ⟨me, 0, chainNewP nodes, [], List.replicate 3 [], false⟩
def sesNew (i : Nat) : SessD := ⟨(i : Int) % 3, List.replicate 4 ⟨0, 0⟩, ⟨0, 0⟩, 0⟩
def plsNew (k : Nat) (nodes : Int) : List PlaceD := (List.range k).map fun i => newPl (i : Nat) nodes
def sessNew (k : Nat) : List SessD := (List.range k).map sesNew
theorem plsNew_len (k : Nat) (nodes : Int) : (plsNew k nodes).length = k := by simp [plsNew]
theorem sessNew_len (k : Nat) : (sessNew k).length = k := by simp [sessNew]
theorem plsNew_succ (k : Nat) (nodes : Int) : plsNew (k + 1) nodes = plsNew k nodes ++ [newPl (k : Nat) nodes] := by simp [plsNew, List.range_succ]
theorem sessNew_succ (k : Nat) : sessNew (k + 1) = sessNew k ++ [sesNew k] := by simp [sessNew, List.range_succ]
theorem newPl_eq {me nodes : Int} (h : placeNewB me nodes = true) : newPl me nodes = placeNewP me nodes := by rw [placeNewP, if_pos h]; rfl
theorem plB {k m : Nat} (hk : k < 3) (hm : m < 4) : placeNewB (k : Int) (1 + (m : Int)) = true := by
  simp only [placeNewB, Bool.and_eq_true, decide_eq_true_eq]; omega
attribute [local irreducible] World.alloc World.setRow Go.Ev.dw
theorem l5New_2 {g4 g5 sN c : Nat} {a : Option Addr} {T1 : Nat → Prop} {ps : List PlaceD} {w0 w1 : World} (hg4 : w0.heap.size ≤ g4) (hg5 : w0.heap.size ≤ g5) (h45 : g4 ≠ g5) (hg4' : g4 < w1.heap.size) (hg5' : g5 < w1.heap.size) (hps : ps.length = 3) (hsN : sN ≤ 4) (E01 : Ext w0 w1)
    (op : O tPs T1 w1 [.slice a 3 c] ps) (hT1 : ∀ b, T1 b → w0.heap.size ≤ b ∧ b < w1.heap.size ∧ b ≠ g4 ∧ b ≠ g5) :
    ∀ (d k : Nat) (e : Env) (W : World) (a1 : Option Addr) (c1 : Nat), k + d = sN → e 1 = i64 sN → e 4 = pt g4 0 → e 5 = pt g5 0 → e 7 = i64 k → hp W g5 = some (.cells #[.slice a 3 c, .slice a1 k c1, .slice none 0 0, .slice none 0 0] 27 (0, 0)) → hp W g4 = some (.cells #[.slice none 0 0, .slice none 0 0, .slice none 0 0, .slice none 0 0] 27 (0, 0)) →
      O tSs (In w1.heap.size W.heap.size) W [.slice a1 k c1] (sessNew k) → (∀ b, T1 b → hp W b = hp w1 b) → Ext w0 W → w1.heap.size ≤ W.heap.size →
      Ret (spec_l5New_l2 e W) fun r => ∃ (cs : List Value), r.1 = .agg cs.toArray ∧ O tWo (In w0.heap.size r.2.heap.size) r.2 cs ⟨ps, sessNew sN, [], []⟩ ∧ Ext w0 r.2 := by
  intro d
  induction d with
  | zero =>
    intro k e W a1 c1 hd e1 e4 e5 e7 X5 X4 os hk E0 hz
    have zE0 := E0.size
    try simp only [qz] at zE0
    rw [spec_l5New_l2_eq]
    obtain rfl : k = sN := by omega
    refine Ret.post fun Q hQ => ?_
    simp (maxSteps := 1000000) (disch := first | assumption | ((try simp only [qz]) <;> omega) | fail) [-Option.bind_some, qs, -splice_eq, -stR_cells, qm, e1, e4, e5, e7, X4, X5, e1, e4, e5, e7, X5, X4, E0.blk]
    have Pt : PtZ W ⟨ps, sessNew k, [], []⟩ (.slice a 3 c) (.slice a1 k c1) (.slice none 0 0) (.slice none 0 0) T1 (In w1.heap.size W.heap.size) (fun _ => False) (fun _ => False) :=
      ⟨op.keep fun b hb _ => hk b hb, os, O.nil, O.nil, fun b _ h h' => by have := hT1 b h; simp only [In] at h'; omega, fun _ _ _ h => h, fun _ _ _ h => h, fun _ _ _ h => h, fun _ _ _ h => h, fun _ _ _ h => h⟩
    refine hQ _ ⟨_, rfl, (Pt.mk'.keep fun b hb hbl => hp_set_ne ?_).wide ?_, E0.set hg4 _⟩
    · rcases hb with h | h | h | h
      · exact (hT1 b h).2.2.1
      · simp only [In] at h; omega
      · exact h.elim
      · exact h.elim
    · intro b hb hbl
      simp only [In, size_setRow] at hb hbl ⊢
      rcases hb with h | h | h | h
      · have := hT1 b h; omega
      · omega
      · exact h.elim
      · exact h.elim
  | succ d ih =>
    intro k e W a1 c1 hd e1 e4 e5 e7 X5 X4 os hk E0 hz
    have zE0 := E0.size
    try simp only [qz] at zE0
    rw [spec_l5New_l2_eq]
    have hk4 : k < 4 := by omega
    have hkN : k < sN := by omega
    have hrt : (k : Int).tmod 3 = (k : Int) % 3 := Int.tmod_eq_emod_of_nonneg (by omega)
    have y5 := hp_lt X5
    have y4 := hp_lt X4
    refine Ret.post fun Q hQ => ?_
    simp (maxSteps := 1000000) (disch := first | assumption | ((try simp only [qz]) <;> omega) | fail) [-Option.bind_some, qs, -splice_eq, -stR_cells, qm, e1, e4, e5, e7, X5, hkN, show (k : Int) < sN by omega, bo_rem, hrt, e1, e4, e5, e7, X5, X4, E0.blk]
    refine Ret.bind (spec_l1None_m) ?_
    rintro ⟨_, w2⟩ ⟨a7, c7, rfl, o7, E1⟩
    try dsimp only at a7 c7 o7 E1
    have zE1 := E1.size
    try simp only [qz] at zE1
    simp only [dw_size] at zE1 o7
    have F1 : Ext W w2 := by (repeat (first | exact Ext.rfl | assumption | (refine Ext.al ?_ _) | (refine Ext.dw ?_) | (refine Ext.set ?_ (by (try simp only [qz]); omega) _) | (refine Ext.tr ?_ (by assumption))))
    have N5 := (F1.blk y5).trans X5
    have N4 := (F1.blk y4).trans X4
    simp (maxSteps := 1000000) (disch := first | assumption | ((try simp only [qz]) <;> omega) | fail) [-Option.bind_some, qs, -splice_eq, -stR_cells, qm, N5, N4, e1, e4, e5, e7, X5, X4, E0.blk, E1.blk]
    refine Ret.bind (O.app (L := tSe) (mx := 2513169434916) (S1 := In W.heap.size w2.heap.size) (x := sesNew k) (cs := [i64 ((k : Int) % 3), .slice a7 4 c7, i64 0, i64 0, i64 0]) el_23 zz_56 rfl (by decide) (os.ext (F1.al _)) (O.sess.2 ⟨a7, c7, rfl, o7.keep fun b hb hbl => hp_alloc_lt hbl⟩) (fun b hb h1 h2 => by simp only [In] at h1 h2; omega) (At.nw rfl) (by rw [sessNew_len]; omega) (by decide) (by decide)) ?_
    rintro ⟨_, w3⟩ ⟨a8, c8, rfl, o8, M8⟩
    have zM8 := M8.size
    try simp only [qz] at zM8
    try dsimp only at o8 M8
    have zM8 := M8.size
    simp only [World.size_alloc] at zM8 o8
    have nI : ∀ b, b < w1.heap.size → ¬ In w1.heap.size W.heap.size b := fun b h h' => by simp only [In] at h'; omega
    have L5 := (M8.blk g5 (by (try simp only [qz]); omega) (nI _ hg5')).trans ((hp_alloc_lt (by omega)).trans N5)
    have L4 := (M8.blk g4 (by (try simp only [qz]); omega) (nI _ hg4')).trans ((hp_alloc_lt (by omega)).trans N4)
    have F3 : Ext w0 w3 := Mod.after (E0.tr (F1.al _)) M8 (fun b h1 h2 => by have := E01.size; simp only [In] at h2; omega)
    rw [sessNew_len, ← sessNew_succ] at o8
    rw [sessNew_len]
    simp (maxSteps := 1000000) (disch := first | assumption | ((try simp only [qz]) <;> omega) | fail) [-Option.bind_some, qs, -splice_eq, -stR_cells, qm, L5, e1, e7, e1, e4, e5, e7, X5, X4, E0.blk, E1.blk, M8.blk]
    refine Ret.mono (ih (k + 1) _ _ a8 c8 (by omega) (by first | omega | assumption | rfl | exact congrArg i64 (by omega) | (simp; done) | (simp; omega)) (by first | omega | assumption | rfl | exact congrArg i64 (by omega) | (simp; done) | (simp; omega)) (by first | omega | assumption | rfl | exact congrArg i64 (by omega) | (simp; done) | (simp; omega)) (by first | omega | assumption | rfl | exact congrArg i64 (by omega) | (simp; done) | (simp; omega)) (by first | assumption | rfl | (simp (maxSteps := 1000000) (disch := first | assumption | ((try simp only [qz]) <;> omega) | fail) [-Option.bind_some, qs, -splice_eq, -stR_cells, qm, L5, e1, e4, e5, e7, X5, X4, E0.blk, E1.blk, M8.blk]; done)) ((hp_set_ne h45).trans L4) ((o8.keep fun b hb hbl => hp_set_ne ?_).wide ?_) (fun b hb => (hp_set_ne (hT1 b hb).2.2.2).trans ((M8.blk b (by have := (hT1 b hb).2.1; simp only [World.size_alloc]; omega) (nI _ (hT1 b hb).2.1)).trans ((hp_alloc_lt (by have := (hT1 b hb).2.1; omega)).trans ((F1.blk (by have := (hT1 b hb).2.1; omega)).trans (hk b hb))))) (F3.set hg5 _) (by simp only [size_setRow]; omega)) hQ
    · rcases hb with h | h | h
      · simp only [In] at h; omega
      · simp only [In] at h; omega
      · omega
    · intro b hb hbl
      simp only [In, size_setRow] at hb hbl ⊢
      omega
theorem l5New_1 {g4 g5 sN m : Nat} {w0 : World} (hg4 : w0.heap.size ≤ g4) (hg5 : w0.heap.size ≤ g5) (h45 : g4 < g5) (hm : m < 4) (hsN : sN ≤ 4) :
    ∀ (d k : Nat) (e : Env) (W : World) (a : Option Addr) (c : Nat), k + d = 3 → e 0 = i64 (1 + (m : Int)) → e 1 = i64 sN → e 4 = pt g4 0 → e 5 = pt g5 0 → e 6 = i64 k → hp W g5 = some (.cells #[.slice a k c, .slice none 0 0, .slice none 0 0, .slice none 0 0] 27 (0, 0)) → hp W g4 = some (.cells #[.slice none 0 0, .slice none 0 0, .slice none 0 0, .slice none 0 0] 27 (0, 0)) →
      O tPs (In (g5 + 1) W.heap.size) W [.slice a k c] (plsNew k (1 + (m : Int))) → Ext w0 W →
      Ret (spec_l5New_l1 e W) fun r => ∃ (cs : List Value), r.1 = .agg cs.toArray ∧ O tWo (In w0.heap.size r.2.heap.size) r.2 cs ⟨plsNew 3 (1 + (m : Int)), sessNew sN, [], []⟩ ∧ Ext w0 r.2 := by
  intro d
  induction d with
  | zero =>
    intro k e W a c hd e0 e1 e4 e5 e6 X5 X4 op E0
    have zE0 := E0.size
    try simp only [qz] at zE0
    rw [spec_l5New_l1_eq]
    obtain rfl : k = 3 := by omega
    have y5 := hp_lt X5
    have y4 := hp_lt X4
    refine Ret.post fun Q hQ => ?_
    simp (maxSteps := 1000000) (disch := first | assumption | ((try simp only [qz]) <;> omega) | fail) [-Option.bind_some, qs, -splice_eq, -stR_cells, qm, e1, e4, e5, e6, e0, e1, e4, e5, e6, X5, X4, E0.blk]
    exact Ret.mono (l5New_2 (g4 := g4) (g5 := g5) (T1 := In (g5 + 1) W.heap.size) hg4 hg5 (by omega) y4 y5 (plsNew_len _ _) hsN E0 op (fun b h => by simp only [In] at h; omega) sN 0 _ W none 0 (by omega) (by first | omega | assumption | rfl | exact congrArg i64 (by omega) | (simp; done) | (simp; omega)) (by first | omega | assumption | rfl | exact congrArg i64 (by omega) | (simp; done) | (simp; omega)) (by first | omega | assumption | rfl | exact congrArg i64 (by omega) | (simp; done) | (simp; omega)) rfl X5 X4 O.nil (fun b _ => rfl) E0 (Nat.le_refl _)) hQ
  | succ d ih =>
    intro k e W a c hd e0 e1 e4 e5 e6 X5 X4 op E0
    have zE0 := E0.size
    try simp only [qz] at zE0
    rw [spec_l5New_l1_eq]
    have hk3 : k < 3 := by omega
    have y5 := hp_lt X5
    have y4 := hp_lt X4
    refine Ret.post fun Q hQ => ?_
    simp (maxSteps := 1000000) (disch := first | assumption | ((try simp only [qz]) <;> omega) | fail) [-Option.bind_some, qs, -splice_eq, -stR_cells, qm, e0, e1, e4, e5, e6, X5, hk3, show (k : Int) < 3 by omega, e0, e1, e4, e5, e6, X5, X4, E0.blk]
    refine Ret.bind (spec_l4New_n (k : Int) (1 + (m : Int)) (plB hk3 hm)) ?_
    rintro ⟨_, w2⟩ ⟨ds, rfl, o7, E1⟩
    try dsimp only at ds o7 E1
    have zE1 := E1.size
    try simp only [qz] at zE1
    rw [← newPl_eq (plB hk3 hm)] at o7
    simp only [dw_size] at zE1 o7
    have o7' := o7.d
    obtain ⟨ad, cd, ae, ce, af, cf, rfl, _, _, _⟩ := D.place.1 o7'
    have F1 : Ext W w2 := by (repeat (first | exact Ext.rfl | assumption | (refine Ext.al ?_ _) | (refine Ext.dw ?_) | (refine Ext.set ?_ (by (try simp only [qz]); omega) _) | (refine Ext.tr ?_ (by assumption))))
    have N5 := (F1.blk y5).trans X5
    have N4 := (F1.blk y4).trans X4
    have psl := plsNew_len k (1 + (m : Int))
    have pss := plsNew_succ k (1 + (m : Int))
    generalize hnp : newPl (k : Int) (1 + (m : Int)) = np at *
    simp (maxSteps := 1000000) (disch := first | assumption | ((try simp only [qz]) <;> omega) | fail) [-Option.bind_some, qs, -splice_eq, -stR_cells, qm, N5, N4, e0, e1, e4, e5, e6, X5, X4, E0.blk, E1.blk]
    refine Ret.bind (O.app (L := tPlace) (mx := 1466015503701) (S1 := In W.heap.size w2.heap.size) (x := np) (cs := [i64 np.me, i64 np.clock, .slice ad np.chain.length cd, .slice ae np.log.length ce, .slice af np.got.length cf, .bool np.fell]) el_22 zz_47 rfl (by decide) (op.ext (F1.al _)) (o7.keep fun b hb hbl => hp_alloc_lt hbl) (fun b hb h1 h2 => by simp only [In] at h1 h2; omega) (At.nw rfl) (by omega) (by decide) (by decide)) ?_
    rintro ⟨_, w3⟩ ⟨a8, c8, rfl, o8, M8⟩
    have zM8 := M8.size
    try simp only [qz] at zM8
    try dsimp only at o8 M8
    have zM8 := M8.size
    simp only [World.size_alloc] at zM8 o8
    have nI : ∀ b, b < g5 + 1 → ¬ In (g5 + 1) W.heap.size b := fun b h h' => by simp only [In] at h'; omega
    have L5 := (M8.blk g5 (by (try simp only [qz]); omega) (nI _ (by omega))).trans ((hp_alloc_lt (by omega)).trans N5)
    have L4 := (M8.blk g4 (by (try simp only [qz]); omega) (nI _ (by omega))).trans ((hp_alloc_lt (by omega)).trans N4)
    have F3 : Ext w0 w3 := Mod.after (E0.tr (F1.al _)) M8 (fun b h1 h2 => by simp only [In] at h2; omega)
    rw [psl, ← pss] at o8
    rw [psl]
    simp (maxSteps := 1000000) (disch := first | assumption | ((try simp only [qz]) <;> omega) | fail) [-Option.bind_some, qs, -splice_eq, -stR_cells, qm, L5, e1, e6, e0, e1, e4, e5, e6, X5, X4, E0.blk, E1.blk, M8.blk]
    refine Ret.mono (ih (k + 1) _ _ a8 c8 (by omega) (by first | omega | assumption | rfl | exact congrArg i64 (by omega) | (simp; done) | (simp; omega)) (by first | omega | assumption | rfl | exact congrArg i64 (by omega) | (simp; done) | (simp; omega)) (by first | omega | assumption | rfl | exact congrArg i64 (by omega) | (simp; done) | (simp; omega)) (by first | omega | assumption | rfl | exact congrArg i64 (by omega) | (simp; done) | (simp; omega)) (by first | omega | assumption | rfl | exact congrArg i64 (by omega) | (simp; done) | (simp; omega)) (by first | assumption | rfl | (simp (maxSteps := 1000000) (disch := first | assumption | ((try simp only [qz]) <;> omega) | fail) [-Option.bind_some, qs, -splice_eq, -stR_cells, qm, L5, e0, e1, e4, e5, e6, X5, X4, E0.blk, E1.blk, M8.blk]; done)) ((hp_set_ne (by omega)).trans L4) ((o8.keep fun b hb hbl => hp_set_ne ?_).wide ?_) (F3.set hg5 _)) hQ
    · rcases hb with h | h | h
      · simp only [In] at h; omega
      · simp only [In] at h; omega
      · omega
    · intro b hb hbl
      simp only [In, size_setRow] at hb hbl ⊢
      omega
theorem l5New_m {m sN : Nat} (hm : m < 4) (hsN : sN ≤ 4) {w : World} :
    Ret (EV P 10 #[i64 (1 + (m : Int)), i64 sN] w) fun r => ∃ (cs : List Value), r.1 = .agg cs.toArray ∧ O tWo (In w.heap.size r.2.heap.size) r.2 cs ⟨plsNew 3 (1 + (m : Int)), sessNew sN, [], []⟩ ∧ Ext w r.2 := by
  refine Ret.post fun Q hQ => ?_
  refine Ret.enter plain mixed (spec_l5New_fn _ _ _) (by kernel_rfl) (n := 2) (by kernel_rfl) rfl ?_
  simp (maxSteps := 1000000) (disch := first | assumption | ((try simp only [qz]) <;> omega) | fail) [-Option.bind_some, qs, -splice_eq, -stR_cells, qm]
  exact Ret.mono (l5New_1 (g4 := w.heap.size) (g5 := w.heap.size + 1) (w0 := w) (Nat.le_refl _) (by omega) (by omega) hm hsN 3 0 _ _ none 0 (by omega) (by first | omega | assumption | rfl | exact congrArg i64 (by omega) | (simp; done) | (simp; omega)) (by first | omega | assumption | rfl | exact congrArg i64 (by omega) | (simp; done) | (simp; omega)) (by first | omega | assumption | rfl | exact congrArg i64 (by omega) | (simp; done) | (simp; omega)) (by first | omega | assumption | rfl | exact congrArg i64 (by omega) | (simp; done) | (simp; omega)) (by first | omega | assumption | rfl | exact congrArg i64 (by omega) | (simp; done) | (simp; omega)) (by first | assumption | rfl | (simp (maxSteps := 1000000) (disch := first | assumption | ((try simp only [qz]) <;> omega) | fail) [-Option.bind_some, qs, -splice_eq, -stR_cells, qm]; done)) (by first | assumption | rfl | (simp (maxSteps := 1000000) (disch := first | assumption | ((try simp only [qz]) <;> omega) | fail) [-Option.bind_some, qs, -splice_eq, -stR_cells, qm]; done)) O.nil (by (repeat (first | exact Ext.rfl | assumption | (refine Ext.al ?_ _) | (refine Ext.dw ?_) | (refine Ext.set ?_ (by (try simp only [qz]); omega) _) | (refine Ext.tr ?_ (by assumption)))))) hQ
def worldNewB (nodes sess : Int) : Bool := (decide (1 ≤ nodes) && decide (nodes ≤ 4)) && (decide (0 ≤ sess) && decide (sess ≤ 4))
def worldNewP (nodes sess : Int) : WorldD := if worldNewB nodes sess then ⟨plsNew 3 nodes, sessNew sess.toNat, [], []⟩ else ⟨[], [], [], []⟩
theorem worldZ_O (w : World) : O tWo (fun _ => False) w [.slice none 0 0, .slice none 0 0, .slice none 0 0, .slice none 0 0] ⟨[], [], [], []⟩ := by
  have Pt : PtZ w ⟨[], [], [], []⟩ (.slice none 0 0) (.slice none 0 0) (.slice none 0 0) (.slice none 0 0) (fun _ => False) (fun _ => False) (fun _ => False) (fun _ => False) :=
    ⟨O.nil, O.nil, O.nil, O.nil, fun _ _ _ h => h, fun _ _ _ h => h, fun _ _ _ h => h, fun _ _ _ h => h, fun _ _ _ h => h, fun _ _ _ h => h⟩
  exact Pt.mk'.wide fun b h _ => by rcases h with h | h | h | h <;> exact h
theorem spec_WorldNew_m (nodes sess : Int) {w : World} : Ret (EV P 4 #[i64 nodes, i64 sess] w) fun r => ∃ (cs : List Value), r.1 = .agg cs.toArray ∧ O tWo (In w.heap.size r.2.heap.size) r.2 cs (worldNewP nodes sess) ∧ Ext w r.2 := by
  refine Ret.post fun Q hQ => ?_
  refine Ret.enter plain mixed (spec_WorldNew_fn _ _ _) (by kernel_rfl) (n := 2) (by kernel_rfl) rfl ?_
  simp (maxSteps := 1000000) (disch := first | assumption | ((try simp only [qz]) <;> omega) | fail) [-Option.bind_some, qs, -splice_eq, -stR_cells, qm]
  refine Ret.bind (spec_l1In_c _ _ _ _) ?_
  rintro _ rfl
  cases h1 : (decide (1 ≤ nodes) && decide (nodes ≤ 4))
  · simp (maxSteps := 1000000) (disch := first | assumption | ((try simp only [qz]) <;> omega) | fail) [-Option.bind_some, qs, -splice_eq, -stR_cells, qm, h1]
    refine hQ _ ⟨_, rfl, ?_, by (repeat (first | exact Ext.rfl | assumption | (refine Ext.al ?_ _) | (refine Ext.dw ?_) | (refine Ext.set ?_ (by (try simp only [qz]); omega) _) | (refine Ext.tr ?_ (by assumption))))⟩
    rw [worldNewP, if_neg (by simp [worldNewB, h1])]
    exact (worldZ_O _).wide fun b h _ => h.elim
  · simp (maxSteps := 1000000) (disch := first | assumption | ((try simp only [qz]) <;> omega) | fail) [-Option.bind_some, qs, -splice_eq, -stR_cells, qm, h1]
    refine Ret.bind (spec_l1In_c _ _ _ _) ?_
    rintro _ rfl
    cases h2 : (decide (0 ≤ sess) && decide (sess ≤ 4))
    · simp (maxSteps := 1000000) (disch := first | assumption | ((try simp only [qz]) <;> omega) | fail) [-Option.bind_some, qs, -splice_eq, -stR_cells, qm, h2]
      refine hQ _ ⟨_, rfl, ?_, by (repeat (first | exact Ext.rfl | assumption | (refine Ext.al ?_ _) | (refine Ext.dw ?_) | (refine Ext.set ?_ (by (try simp only [qz]); omega) _) | (refine Ext.tr ?_ (by assumption))))⟩
      rw [worldNewP, if_neg (by simp [worldNewB, h2])]
      exact (worldZ_O _).wide fun b h _ => h.elim
    · simp (maxSteps := 1000000) (disch := first | assumption | ((try simp only [qz]) <;> omega) | fail) [-Option.bind_some, qs, -splice_eq, -stR_cells, qm, h2]
      have g1 := h1
      have g2 := h2
      simp only [Bool.and_eq_true, decide_eq_true_eq] at g1 g2
      obtain ⟨m, hm⟩ : ∃ m : Nat, nodes = 1 + (m : Int) := ⟨(nodes - 1).toNat, by omega⟩
      obtain ⟨s, rfl⟩ := Int.eq_ofNat_of_zero_le g2.1
      subst hm
      refine Ret.bind (l5New_m (m := m) (sN := s) (by omega) (by omega)) ?_
      rintro ⟨_, w2⟩ ⟨cs, rfl, o2, E2⟩
      try dsimp only at cs o2 E2
      have zE2 := E2.size
      try simp only [qz] at zE2
      obtain ⟨a, c, a1, c1, a2, c2, a3, c3, _, _, _, _, rfl, _, _⟩ := O.world_un o2
      simp (maxSteps := 1000000) (disch := first | assumption | ((try simp only [qz]) <;> omega) | fail) [-Option.bind_some, qs, -splice_eq, -stR_cells, qm, E2.blk]
      refine hQ _ ⟨_, rfl, ?_, by (repeat (first | exact Ext.rfl | assumption | (refine Ext.al ?_ _) | (refine Ext.dw ?_) | (refine Ext.set ?_ (by (try simp only [qz]); omega) _) | (refine Ext.tr ?_ (by assumption))))⟩
      rw [worldNewP, if_pos (by simp only [worldNewB, h1, h2, Bool.and_self])]
      exact (o2.keep (by intro b hS hb; (try dsimp only at hS); (try simp only [In, qz] at hS hb); first | rfl | (simp (disch := first | assumption | ((try simp only [qz, In]) <;> omega) | fail) only [E2.blk, qk]; done))).wide fun b h _ => by simp only [In, World.size_alloc, size_setRow, dw_size] at h ⊢; omega
end Go.Proofs.Ytligcpabhddggaa.X
set_option linter.unusedVariables false
set_option linter.unusedSimpArgs false
set_option maxRecDepth 100000
set_option maxHeartbeats 1000000
namespace Go.Proofs.Ytligcpabhddggaa.X
open Go Go.Ev Go.RowKit
attribute [local irreducible] World.alloc World.setRow Go.Ev.dw
theorem worldNew_2 {g4 g sN c : Nat} {a : Option Addr} {T1 : Nat → Prop} {ps : List PlaceD} {w0 w1 : World} (hg4 : w0.heap.size ≤ g4) (hg : w0.heap.size ≤ g) (h45 : g4 ≠ g) (hg4' : g4 < w1.heap.size) (hg' : g < w1.heap.size) (hps : ps.length = 3) (hsN : sN ≤ 4)
    (op : O tPs T1 w1 [.slice a 3 c] ps) (hT1 : ∀ b, T1 b → w0.heap.size ≤ b ∧ b < w1.heap.size ∧ b ≠ g ∧ b ≠ g4) :
    ∀ (d k : Nat) (e : Env) (W : World) (a1 : Option Addr) (c1 : Nat) (S1 : Nat → Prop), k + d = sN → e 4 = pt g4 0 → e 5 = pt g 0 → e 24 = i64 sN → e 25 = i64 k → hp W g = some (.cells #[.slice a 3 c, .slice a1 k c1, .slice none 0 0, .slice none 0 0] 27 (0, 0)) → hp W g4 = some (.cells #[.slice none 0 0, .slice none 0 0, .slice none 0 0, .slice none 0 0] 27 (0, 0)) →
      O tSs S1 W [.slice a1 k c1] (sessNew k) → (∀ b, S1 b → w0.heap.size ≤ b ∧ b < W.heap.size ∧ b ≠ g ∧ b ≠ g4 ∧ ¬ T1 b) → (∀ b, T1 b → hp W b = hp w1 b) → Ext w0 W → w1.heap.size ≤ W.heap.size →
      Ret (impl_worldNew_l2 e W) fun r => ∃ (cs : List Value), r.1 = .agg cs.toArray ∧ O tWo (In w0.heap.size r.2.heap.size) r.2 cs ⟨ps, sessNew sN, [], []⟩ ∧ Ext w0 r.2 := by
  intro d
  induction d with
  | zero =>
    intro k e W a1 c1 S1 hd e4 e5 e24 e25 X5 X4 os hS1 hk E0 hz
    have zE0 := E0.size
    try simp only [qz] at zE0
    rw [impl_worldNew_l2_eq]
    obtain rfl : k = sN := by omega
    refine Ret.post fun Q hQ => ?_
    simp (maxSteps := 1000000) (disch := first | assumption | ((try simp only [qz]) <;> omega) | fail) [-Option.bind_some, qs, -splice_eq, -stR_cells, qm, e4, e5, e24, e25, X4, X5, e4, e5, e24, e25, X5, X4, E0.blk]
    have Pt : PtZ W ⟨ps, sessNew k, [], []⟩ (.slice a 3 c) (.slice a1 k c1) (.slice none 0 0) (.slice none 0 0) T1 S1 (fun _ => False) (fun _ => False) :=
      ⟨op.keep fun b hb _ => hk b hb, os, O.nil, O.nil, fun b _ h h' => (hS1 b h').2.2.2.2 h, fun _ _ _ h => h, fun _ _ _ h => h, fun _ _ _ h => h, fun _ _ _ h => h, fun _ _ _ h => h⟩
    refine hQ _ ⟨_, rfl, (Pt.mk'.keep fun b hb hbl => hp_set_ne ?_).wide ?_, E0.set hg4 _⟩
    · rcases hb with h | h | h | h
      · exact (hT1 b h).2.2.2
      · exact (hS1 b h).2.2.2.1
      · exact h.elim
      · exact h.elim
    · intro b hb hbl
      simp only [In, size_setRow] at hb hbl ⊢
      rcases hb with h | h | h | h
      · have := hT1 b h; omega
      · have := hS1 b h; omega
      · exact h.elim
      · exact h.elim
  | succ d ih =>
    intro k e W a1 c1 S1 hd e4 e5 e24 e25 X5 X4 os hS1 hk E0 hz
    have zE0 := E0.size
    try simp only [qz] at zE0
    rw [impl_worldNew_l2_eq]
    have hk4 : k < 4 := by omega
    have hkN : k < sN := by omega
    have hrt : (k : Int).tmod 3 = (k : Int) % 3 := Int.tmod_eq_emod_of_nonneg (by omega)
    have y5 := hp_lt X5
    have y4 := hp_lt X4
    refine Ret.post fun Q hQ => ?_
    simp (maxSteps := 1000000) (disch := first | assumption | ((try simp only [qz]) <;> omega) | fail) [-Option.bind_some, qs, -splice_eq, -stR_cells, qm, e4, e5, e24, e25, X5, hkN, show (k : Int) < sN by omega, bo_rem, hrt, e4, e5, e24, e25, X5, X4, E0.blk]
    refine Ret.bind (impl_PastNone_m) ?_
    rintro ⟨_, w2⟩ ⟨a7, c7, rfl, o7, E1⟩
    try dsimp only at a7 c7 o7 E1
    have zE1 := E1.size
    try simp only [qz] at zE1
    simp only [dw_size] at zE1 o7
    have F1 : Ext W w2 := by (repeat (first | exact Ext.rfl | assumption | (refine Ext.al ?_ _) | (refine Ext.dw ?_) | (refine Ext.set ?_ (by (try simp only [qz]); omega) _) | (refine Ext.tr ?_ (by assumption))))
    have N5 := (F1.blk y5).trans X5
    have N4 := (F1.blk y4).trans X4
    simp (maxSteps := 1000000) (disch := first | assumption | ((try simp only [qz]) <;> omega) | fail) [-Option.bind_some, qs, -splice_eq, -stR_cells, qm, N5, N4, bo_rem, hrt, e4, e5, e24, e25, X5, X4, E0.blk, E1.blk]
    refine Ret.bind (O.app (L := tSe) (mx := 2513169434916) (S1 := In W.heap.size w2.heap.size) (x := sesNew k) (cs := [i64 ((k : Int) % 3), .slice a7 4 c7, i64 0, i64 0, i64 0]) el_23 zz_56 rfl (by decide) (os.ext (F1.al _)) (O.sess.2 ⟨a7, c7, rfl, o7.keep fun b hb hbl => hp_alloc_lt hbl⟩) (fun b hb h1 h2 => by have := hS1 b h1; simp only [In] at h2; omega) (At.nw rfl) (by rw [sessNew_len]; omega) (by decide) (by decide)) ?_
    rintro ⟨_, w3⟩ ⟨a8, c8, rfl, o8, M8⟩
    have zM8 := M8.size
    try simp only [qz] at zM8
    try dsimp only at o8 M8
    have zM8 := M8.size
    simp only [World.size_alloc] at zM8 o8
    have L5 := (M8.blk g (by (try simp only [qz]); omega) (fun h => (hS1 _ h).2.2.1 rfl)).trans ((hp_alloc_lt (by omega)).trans N5)
    have L4 := (M8.blk g4 (by (try simp only [qz]); omega) (fun h => (hS1 _ h).2.2.2.1 rfl)).trans ((hp_alloc_lt (by omega)).trans N4)
    have F3 : Ext w0 w3 := Mod.after (E0.tr (F1.al _)) M8 (fun b h1 h2 => by have := hS1 b h2; omega)
    rw [sessNew_len, ← sessNew_succ] at o8
    rw [sessNew_len]
    simp (maxSteps := 1000000) (disch := first | assumption | ((try simp only [qz]) <;> omega) | fail) [-Option.bind_some, qs, -splice_eq, -stR_cells, qm, L5, e25, e4, e5, e24, e25, X5, X4, E0.blk, E1.blk, M8.blk]
    refine Ret.mono (ih (k + 1) _ _ a8 c8 _ (by omega) (by first | omega | assumption | rfl | exact congrArg i64 (by omega) | (simp; done) | (simp; omega)) (by first | omega | assumption | rfl | exact congrArg i64 (by omega) | (simp; done) | (simp; omega)) (by first | omega | assumption | rfl | exact congrArg i64 (by omega) | (simp; done) | (simp; omega)) (by first | omega | assumption | rfl | exact congrArg i64 (by omega) | (simp; done) | (simp; omega)) (by first | assumption | rfl | (simp (maxSteps := 1000000) (disch := first | assumption | ((try simp only [qz]) <;> omega) | fail) [-Option.bind_some, qs, -splice_eq, -stR_cells, qm, L5, e4, e5, e24, e25, X5, X4, E0.blk, E1.blk, M8.blk]; done)) ((hp_set_ne h45).trans L4) (o8.keep fun b hb hbl => hp_set_ne ?_) ?_ (fun b hb => (hp_set_ne (hT1 b hb).2.2.1).trans ((M8.blk b (by have := (hT1 b hb).2.1; simp only [World.size_alloc]; omega) (fun h => (hS1 b h).2.2.2.2 hb)).trans ((hp_alloc_lt (by have := (hT1 b hb).2.1; omega)).trans ((F1.blk (by have := (hT1 b hb).2.1; omega)).trans (hk b hb))))) (F3.set hg _) (by simp only [size_setRow]; omega)) hQ
    · rcases hb with h | h | h
      · exact (hS1 b h).2.2.1
      · simp only [In] at h; omega
      · omega
    · intro b hb
      have hlt := hT1 b
      simp only [In, size_setRow] at hb ⊢
      rcases hb with h | h | h
      · have := hS1 b h
        exact ⟨this.1, by omega, this.2.2⟩
      · exact ⟨by have := E0.size; omega, by omega, by omega, by omega, fun h' => by have := hT1 b h'; omega⟩
      · exact ⟨by have := E0.size; omega, by omega, by omega, by omega, fun h' => by have := hT1 b h'; omega⟩
theorem worldNew_1 {g4 g s sN m : Nat} {w0 : World} (hg4 : w0.heap.size ≤ g4) (hg : w0.heap.size ≤ g) (hs : w0.heap.size ≤ s) (h45 : g4 ≠ g) (hsg : s ≠ g) (hsg4 : s ≠ g4) (hm : m < 4) (hsN : sN ≤ 4) :
    ∀ (d k : Nat) (e : Env) (W : World) (a : Option Addr) (c : Nat) (T : Nat → Prop), k + d = 3 → e 0 = i64 (1 + (m : Int)) → e 1 = i64 sN → e 4 = pt g4 0 → e 5 = pt g 0 → e 12 = i64 k → hp W g = some (.cells #[.slice a k c, .slice (some ⟨s, 0, none⟩) 0 sN, .slice none 0 0, .slice none 0 0] 27 (0, 0)) → hp W g4 = some (.cells #[.slice none 0 0, .slice none 0 0, .slice none 0 0, .slice none 0 0] 27 (0, 0)) →
      O tPs T W [.slice a k c] (plsNew k (1 + (m : Int))) → (∀ b, T b → w0.heap.size ≤ b ∧ b < W.heap.size ∧ b ≠ g ∧ b ≠ g4 ∧ b ≠ s) → O tSs (fun b => b = s) W [.slice (some ⟨s, 0, none⟩) 0 sN] [] → s < W.heap.size → Ext w0 W →
      Ret (impl_worldNew_l1 e W) fun r => ∃ (cs : List Value), r.1 = .agg cs.toArray ∧ O tWo (In w0.heap.size r.2.heap.size) r.2 cs ⟨plsNew 3 (1 + (m : Int)), sessNew sN, [], []⟩ ∧ Ext w0 r.2 := by
  intro d
  induction d with
  | zero =>
    intro k e W a c T hd e0 e1 e4 e5 e12 X5 X4 op hT os hsl E0
    have zE0 := E0.size
    try simp only [qz] at zE0
    rw [impl_worldNew_l1_eq]
    obtain rfl : k = 3 := by omega
    have y5 := hp_lt X5
    have y4 := hp_lt X4
    refine Ret.post fun Q hQ => ?_
    simp (maxSteps := 1000000) (disch := first | assumption | ((try simp only [qz]) <;> omega) | fail) [-Option.bind_some, qs, -splice_eq, -stR_cells, qm, e1, e4, e5, e12, e0, e1, e4, e5, e12, X5, X4, E0.blk]
    exact Ret.mono (worldNew_2 (g4 := g4) (g := g) (T1 := T) hg4 hg h45 y4 y5 (plsNew_len _ _) hsN op (fun b h => by have := hT b h; exact ⟨this.1, this.2.1, this.2.2.1, this.2.2.2.1⟩) sN 0 _ W _ _ _ (by omega) (by first | omega | assumption | rfl | exact congrArg i64 (by omega) | (simp; done) | (simp; omega)) (by first | omega | assumption | rfl | exact congrArg i64 (by omega) | (simp; done) | (simp; omega)) (by first | omega | assumption | rfl | exact congrArg i64 (by omega) | (simp; done) | (simp; omega)) rfl X5 X4 os (fun b h => by subst h; exact ⟨hs, hsl, hsg, hsg4, fun h => (hT _ h).2.2.2.2 rfl⟩) (fun b _ => rfl) E0 (Nat.le_refl _)) hQ
  | succ d ih =>
    intro k e W a c T hd e0 e1 e4 e5 e12 X5 X4 op hT os hsl E0
    have zE0 := E0.size
    try simp only [qz] at zE0
    rw [impl_worldNew_l1_eq]
    have hk3 : k < 3 := by omega
    have y5 := hp_lt X5
    have y4 := hp_lt X4
    refine Ret.post fun Q hQ => ?_
    simp (maxSteps := 1000000) (disch := first | assumption | ((try simp only [qz]) <;> omega) | fail) [-Option.bind_some, qs, -splice_eq, -stR_cells, qm, e0, e1, e4, e5, e12, X5, hk3, show (k : Int) < 3 by omega, e0, e1, e4, e5, e12, X5, X4, E0.blk]
    refine Ret.bind (impl_PlaceNew_n (k : Int) (1 + (m : Int))) ?_
    rintro ⟨_, w2⟩ ⟨ds, rfl, o7, E1⟩
    try dsimp only at ds o7 E1
    have zE1 := E1.size
    try simp only [qz] at zE1
    rw [← newPl_eq (plB hk3 hm)] at o7
    simp only [dw_size] at zE1 o7
    have o7' := o7.d
    obtain ⟨ad, cd, ae, ce, af, cf, rfl, _, _, _⟩ := D.place.1 o7'
    have F1 : Ext W w2 := by (repeat (first | exact Ext.rfl | assumption | (refine Ext.al ?_ _) | (refine Ext.dw ?_) | (refine Ext.set ?_ (by (try simp only [qz]); omega) _) | (refine Ext.tr ?_ (by assumption))))
    have N5 := (F1.blk y5).trans X5
    have N4 := (F1.blk y4).trans X4
    have psl := plsNew_len k (1 + (m : Int))
    have pss := plsNew_succ k (1 + (m : Int))
    generalize hnp : newPl (k : Int) (1 + (m : Int)) = np at *
    simp (maxSteps := 1000000) (disch := first | assumption | ((try simp only [qz]) <;> omega) | fail) [-Option.bind_some, qs, -splice_eq, -stR_cells, qm, N5, N4, e0, e1, e4, e5, e12, X5, X4, E0.blk, E1.blk]
    refine Ret.bind (O.app (L := tPlace) (mx := 1466015503701) (S1 := In W.heap.size w2.heap.size) (x := np) (cs := [i64 np.me, i64 np.clock, .slice ad np.chain.length cd, .slice ae np.log.length ce, .slice af np.got.length cf, .bool np.fell]) el_22 zz_47 rfl (by decide) (op.ext (F1.al _)) (o7.keep fun b hb hbl => hp_alloc_lt hbl) (fun b hb h1 h2 => by have := hT b h1; simp only [In] at h2; omega) (At.nw rfl) (by omega) (by decide) (by decide)) ?_
    rintro ⟨_, w3⟩ ⟨a8, c8, rfl, o8, M8⟩
    have zM8 := M8.size
    try simp only [qz] at zM8
    try dsimp only at o8 M8
    have zM8 := M8.size
    simp only [World.size_alloc] at zM8 o8
    have L5 := (M8.blk g (by (try simp only [qz]); omega) (fun h => (hT _ h).2.2.1 rfl)).trans ((hp_alloc_lt (by omega)).trans N5)
    have L4 := (M8.blk g4 (by (try simp only [qz]); omega) (fun h => (hT _ h).2.2.2.1 rfl)).trans ((hp_alloc_lt (by omega)).trans N4)
    have F3 : Ext w0 w3 := Mod.after (E0.tr (F1.al _)) M8 (fun b h1 h2 => by have := hT b h2; omega)
    rw [psl, ← pss] at o8
    rw [psl]
    simp (maxSteps := 1000000) (disch := first | assumption | ((try simp only [qz]) <;> omega) | fail) [-Option.bind_some, qs, -splice_eq, -stR_cells, qm, L5, e1, e12, e0, e1, e4, e5, e12, X5, X4, E0.blk, E1.blk, M8.blk]
    refine Ret.mono (ih (k + 1) _ _ a8 c8 _ (by omega) (by first | omega | assumption | rfl | exact congrArg i64 (by omega) | (simp; done) | (simp; omega)) (by first | omega | assumption | rfl | exact congrArg i64 (by omega) | (simp; done) | (simp; omega)) (by first | omega | assumption | rfl | exact congrArg i64 (by omega) | (simp; done) | (simp; omega)) (by first | omega | assumption | rfl | exact congrArg i64 (by omega) | (simp; done) | (simp; omega)) (by first | omega | assumption | rfl | exact congrArg i64 (by omega) | (simp; done) | (simp; omega)) (by first | assumption | rfl | (simp (maxSteps := 1000000) (disch := first | assumption | ((try simp only [qz]) <;> omega) | fail) [-Option.bind_some, qs, -splice_eq, -stR_cells, qm, L5, e0, e1, e4, e5, e12, X5, X4, E0.blk, E1.blk, M8.blk]; done)) ((hp_set_ne h45).trans L4) (o8.keep fun b hb hbl => hp_set_ne ?_) ?_ (os.keep fun b hb hbl => ?_) (by simp only [size_setRow]; omega) (F3.set hg _)) hQ
    · rcases hb with h | h | h
      · exact (hT b h).2.2.1
      · simp only [In] at h; omega
      · omega
    · intro b hb
      have := E0.size
      simp only [In, size_setRow] at hb ⊢
      rcases hb with h | h | h
      · have := hT b h
        exact ⟨this.1, by omega, this.2.2⟩
      · omega
      · omega
    · subst hb
      exact (hp_set_ne hsg).trans ((M8.blk b (by (try simp only [qz]); omega) (fun h => (hT _ h).2.2.2.2 rfl)).trans ((hp_alloc_lt (by omega)).trans (F1.blk (by omega))))
theorem worldNew_j {g4 g p s sN m : Nat} {w0 : World} (hg4 : w0.heap.size ≤ g4) (hg : w0.heap.size ≤ g) (hp' : w0.heap.size ≤ p) (hs : w0.heap.size ≤ s) (h45 : g4 ≠ g) (hsg : s ≠ g) (hsg4 : s ≠ g4) (hpg : p ≠ g) (hpg4 : p ≠ g4) (hps : p ≠ s) (hm : m < 4) (hsN : sN ≤ 4) {e : Env} {W : World}
    (e0 : e 0 = i64 (1 + (m : Int))) (e1 : e 1 = i64 sN) (e4 : e 4 = pt g4 0) (e5 : e 5 = pt g 0) (X5 : hp W g = some (.cells #[.slice (some ⟨p, 0, none⟩) 0 3, .slice (some ⟨s, 0, none⟩) 0 sN, .slice none 0 0, .slice none 0 0] 27 (0, 0))) (X4 : hp W g4 = some (.cells #[.slice none 0 0, .slice none 0 0, .slice none 0 0, .slice none 0 0] 27 (0, 0)))
    (op : O tPs (fun b => b = p) W [.slice (some ⟨p, 0, none⟩) 0 3] []) (os : O tSs (fun b => b = s) W [.slice (some ⟨s, 0, none⟩) 0 sN] []) (hpl : p < W.heap.size) (hsl : s < W.heap.size) (E0 : Ext w0 W) :
    Ret (impl_worldNew_j1 e W) fun r => ∃ (cs : List Value), r.1 = .agg cs.toArray ∧ O tWo (In w0.heap.size r.2.heap.size) r.2 cs ⟨plsNew 3 (1 + (m : Int)), sessNew sN, [], []⟩ ∧ Ext w0 r.2 := by
  rw [impl_worldNew_j1_eq]
  refine Ret.post fun Q hQ => ?_
  simp (maxSteps := 1000000) (disch := first | assumption | ((try simp only [qz]) <;> omega) | fail) [-Option.bind_some, qs, -splice_eq, -stR_cells, qm]
  exact Ret.mono (worldNew_1 hg4 hg hs h45 hsg hsg4 hm hsN 3 0 _ W _ _ _ (by omega) (by first | omega | assumption | rfl | exact congrArg i64 (by omega) | (simp; done) | (simp; omega)) (by first | omega | assumption | rfl | exact congrArg i64 (by omega) | (simp; done) | (simp; omega)) (by first | omega | assumption | rfl | exact congrArg i64 (by omega) | (simp; done) | (simp; omega)) (by first | omega | assumption | rfl | exact congrArg i64 (by omega) | (simp; done) | (simp; omega)) rfl X5 X4 op (fun b h => by subst h; exact ⟨hp', hpl, hpg, hpg4, hps⟩) os hsl E0) hQ
theorem worldNew_r {g4 sN m : Nat} {w0 w : World} {e : Env} (hg4 : w0.heap.size ≤ g4) (hm : m < 4) (hsN : sN ≤ 4) (e0 : e 0 = i64 (1 + (m : Int))) (e1 : e 1 = i64 sN) (e4 : e 4 = pt g4 0) (X4 : hp w g4 = some (.cells #[.slice none 0 0, .slice none 0 0, .slice none 0 0, .slice none 0 0] 27 (0, 0))) (E0 : Ext w0 w) :
    Ret (impl_worldNew_a1 e w) fun r => ∃ (cs : List Value), r.1 = .agg cs.toArray ∧ O tWo (In w0.heap.size r.2.heap.size) r.2 cs ⟨plsNew 3 (1 + (m : Int)), sessNew sN, [], []⟩ ∧ Ext w0 r.2 := by
  have y4 := hp_lt X4
  have zE0 := E0.size
  refine Ret.post fun Q hQ => ?_
  refine impl_worldNew_a1_any _ _ ?_
  simp (maxSteps := 1000000) (disch := first | assumption | ((try simp only [qz]) <;> omega) | fail) [-Option.bind_some, qs, -splice_eq, -stR_cells, qm, e0, e1, e4]
  refine ⟨?_, ?_, ?_, ?_⟩
  · skip
    refine Ret.mono (O.make0 (α := PlaceD) (L := tPlace) (mx := 1466015503701) (n := 3) el_22 zz_47 rfl (by decide) (by decide) (by decide) (by decide)) ?_
    rintro ⟨_, w1⟩ ⟨rfl, o1, z1, E1⟩
    have zE1 := E1.size
    try simp only [qz] at zE1
    try dsimp only at o1 z1 E1
    try simp only [World.size_alloc, dw_size] at z1 o1
    simp (maxSteps := 1000000) (disch := first | assumption | ((try simp only [qz]) <;> omega) | fail) [-Option.bind_some, qs, -splice_eq, -stR_cells, qm, e0, e1, e4, E1.blk]
    constructor
    · skip
      refine Ret.mono (O.make0 (α := SessD) (L := tSe) (mx := 2513169434916) (n := sN) el_23 zz_56 rfl (by decide) (by omega) (by decide) (by decide)) ?_
      rintro ⟨_, w2⟩ ⟨rfl, o2, z2, E2⟩
      have zE2 := E2.size
      try simp only [qz] at zE2
      try dsimp only at o2 z2 E2
      try simp only [World.size_alloc, dw_size] at z2 o2
      simp (maxSteps := 1000000) (disch := first | assumption | ((try simp only [qz]) <;> omega) | fail) [-Option.bind_some, qs, -splice_eq, -stR_cells, qm, e0, e1, e4, E1.blk, E2.blk]
      refine Ret.mono (worldNew_j (w0 := w0) (g4 := g4) (g := w2.heap.size) (p := w.heap.size) (s := w1.heap.size) (m := m) (sN := sN) hg4 (by omega) (by omega) (by omega) (by omega) (by omega) (by omega) (by omega) (by omega) (by omega) hm hsN (by first | omega | assumption | rfl | exact congrArg i64 (by omega) | (simp; done) | (simp; omega)) (by first | omega | assumption | rfl | exact congrArg i64 (by omega) | (simp; done) | (simp; omega)) (by first | omega | assumption | rfl | exact congrArg i64 (by omega) | (simp; done) | (simp; omega)) rfl (by first | assumption | rfl | (simp (maxSteps := 1000000) (disch := first | assumption | ((try simp only [qz]) <;> omega) | fail) [-Option.bind_some, qs, -splice_eq, -stR_cells, qm, E1.blk, E2.blk]; done)) ?_ (o1.keep (by intro b hS hb; (try dsimp only at hS); (try simp only [In, qz] at hS hb); first | rfl | (simp (disch := first | assumption | ((try simp only [qz, In]) <;> omega) | fail) only [E1.blk, E2.blk, qk]; done))) (o2.keep (by intro b hS hb; (try dsimp only at hS); (try simp only [In, qz] at hS hb); first | rfl | (simp (disch := first | assumption | ((try simp only [qz, In]) <;> omega) | fail) only [E1.blk, E2.blk, qk]; done))) (by (try simp only [In, qz] at *); omega) (by (try simp only [In, qz] at *); omega) (by (repeat (first | exact Ext.rfl | assumption | (refine Ext.al ?_ _) | (refine Ext.dw ?_) | (refine Ext.set ?_ (by (try simp only [qz]); omega) _) | (refine Ext.tr ?_ (by assumption)))))) hQ
      exact (by first | assumption | rfl | (simp (maxSteps := 1000000) (disch := first | assumption | ((try simp only [qz]) <;> omega) | fail) [-Option.bind_some, qs, X4, E1.blk, E2.blk]; done))
    · skip
      refine Ret.mono (O.make0 (α := SessD) (L := tSe) (mx := 2513169434916) (n := sN) el_23 zz_56 rfl (by decide) (by omega) (by decide) (by decide)) ?_
      rintro ⟨_, w2⟩ ⟨rfl, o2, z2, E2⟩
      have zE2 := E2.size
      try simp only [qz] at zE2
      try dsimp only at o2 z2 E2
      try simp only [World.size_alloc, dw_size] at z2 o2
      have XB : hp w2 (w1.heap.size) = some (.cells #[.slice none 0 0, .slice none 0 0, .slice none 0 0, .slice none 0 0] 27 (0, 0)) := by
        exact (E2.blk (by simp only [World.size_alloc]; omega)).trans (hp_alloc_eq rfl)
      simp (maxSteps := 1000000) (disch := first | assumption | ((try simp only [qz]) <;> omega) | fail) [-Option.bind_some, qs, -splice_eq, -stR_cells, qm, e0, e1, e4, XB, E1.blk, E2.blk]
      refine Ret.mono (worldNew_j (w0 := w0) (g4 := g4) (g := w1.heap.size) (p := w.heap.size) (s := w1.heap.size + 1) (m := m) (sN := sN) hg4 (by omega) (by omega) (by omega) (by omega) (by omega) (by omega) (by omega) (by omega) (by omega) hm hsN (by first | omega | assumption | rfl | exact congrArg i64 (by omega) | (simp; done) | (simp; omega)) (by first | omega | assumption | rfl | exact congrArg i64 (by omega) | (simp; done) | (simp; omega)) (by first | omega | assumption | rfl | exact congrArg i64 (by omega) | (simp; done) | (simp; omega)) rfl (by first | assumption | rfl | (simp (maxSteps := 1000000) (disch := first | assumption | ((try simp only [qz]) <;> omega) | fail) [-Option.bind_some, qs, -splice_eq, -stR_cells, qm, XB, E1.blk, E2.blk]; done)) ?_ (o1.keep (by intro b hS hb; (try dsimp only at hS); (try simp only [In, qz] at hS hb); first | rfl | (simp (disch := first | assumption | ((try simp only [qz, In]) <;> omega) | fail) only [E1.blk, E2.blk, qk]; done))) (o2.keep (by intro b hS hb; (try dsimp only at hS); (try simp only [In, qz] at hS hb); first | rfl | (simp (disch := first | assumption | ((try simp only [qz, In]) <;> omega) | fail) only [E1.blk, E2.blk, qk]; done))) (by (try simp only [In, qz] at *); omega) (by (try simp only [In, qz] at *); omega) (by (repeat (first | exact Ext.rfl | assumption | (refine Ext.al ?_ _) | (refine Ext.dw ?_) | (refine Ext.set ?_ (by (try simp only [qz]); omega) _) | (refine Ext.tr ?_ (by assumption)))))) hQ
      exact (by first | assumption | rfl | (simp (maxSteps := 1000000) (disch := first | assumption | ((try simp only [qz]) <;> omega) | fail) [-Option.bind_some, qs, X4, E1.blk, E2.blk]; done))
  · skip
    refine Ret.mono (O.make0 (α := SessD) (L := tSe) (mx := 2513169434916) (n := sN) el_23 zz_56 rfl (by decide) (by omega) (by decide) (by decide)) ?_
    rintro ⟨_, w1⟩ ⟨rfl, o1, z1, E1⟩
    have zE1 := E1.size
    try simp only [qz] at zE1
    try dsimp only at o1 z1 E1
    try simp only [World.size_alloc, dw_size] at z1 o1
    simp (maxSteps := 1000000) (disch := first | assumption | ((try simp only [qz]) <;> omega) | fail) [-Option.bind_some, qs, -splice_eq, -stR_cells, qm, e0, e1, e4, E1.blk]
    constructor
    · skip
      refine Ret.mono (O.make0 (α := PlaceD) (L := tPlace) (mx := 1466015503701) (n := 3) el_22 zz_47 rfl (by decide) (by decide) (by decide) (by decide)) ?_
      rintro ⟨_, w2⟩ ⟨rfl, o2, z2, E2⟩
      have zE2 := E2.size
      try simp only [qz] at zE2
      try dsimp only at o2 z2 E2
      try simp only [World.size_alloc, dw_size] at z2 o2
      simp (maxSteps := 1000000) (disch := first | assumption | ((try simp only [qz]) <;> omega) | fail) [-Option.bind_some, qs, -splice_eq, -stR_cells, qm, e0, e1, e4, E1.blk, E2.blk]
      refine Ret.mono (worldNew_j (w0 := w0) (g4 := g4) (g := w2.heap.size) (p := w1.heap.size) (s := w.heap.size) (m := m) (sN := sN) hg4 (by omega) (by omega) (by omega) (by omega) (by omega) (by omega) (by omega) (by omega) (by omega) hm hsN (by first | omega | assumption | rfl | exact congrArg i64 (by omega) | (simp; done) | (simp; omega)) (by first | omega | assumption | rfl | exact congrArg i64 (by omega) | (simp; done) | (simp; omega)) (by first | omega | assumption | rfl | exact congrArg i64 (by omega) | (simp; done) | (simp; omega)) rfl (by first | assumption | rfl | (simp (maxSteps := 1000000) (disch := first | assumption | ((try simp only [qz]) <;> omega) | fail) [-Option.bind_some, qs, -splice_eq, -stR_cells, qm, E1.blk, E2.blk]; done)) ?_ (o2.keep (by intro b hS hb; (try dsimp only at hS); (try simp only [In, qz] at hS hb); first | rfl | (simp (disch := first | assumption | ((try simp only [qz, In]) <;> omega) | fail) only [E1.blk, E2.blk, qk]; done))) (o1.keep (by intro b hS hb; (try dsimp only at hS); (try simp only [In, qz] at hS hb); first | rfl | (simp (disch := first | assumption | ((try simp only [qz, In]) <;> omega) | fail) only [E1.blk, E2.blk, qk]; done))) (by (try simp only [In, qz] at *); omega) (by (try simp only [In, qz] at *); omega) (by (repeat (first | exact Ext.rfl | assumption | (refine Ext.al ?_ _) | (refine Ext.dw ?_) | (refine Ext.set ?_ (by (try simp only [qz]); omega) _) | (refine Ext.tr ?_ (by assumption)))))) hQ
      exact (by first | assumption | rfl | (simp (maxSteps := 1000000) (disch := first | assumption | ((try simp only [qz]) <;> omega) | fail) [-Option.bind_some, qs, X4, E1.blk, E2.blk]; done))
    · skip
      refine Ret.mono (O.make0 (α := PlaceD) (L := tPlace) (mx := 1466015503701) (n := 3) el_22 zz_47 rfl (by decide) (by decide) (by decide) (by decide)) ?_
      rintro ⟨_, w2⟩ ⟨rfl, o2, z2, E2⟩
      have zE2 := E2.size
      try simp only [qz] at zE2
      try dsimp only at o2 z2 E2
      try simp only [World.size_alloc, dw_size] at z2 o2
      have XB : hp w2 (w1.heap.size) = some (.cells #[.slice none 0 0, .slice none 0 0, .slice none 0 0, .slice none 0 0] 27 (0, 0)) := by
        exact (E2.blk (by simp only [World.size_alloc]; omega)).trans (hp_alloc_eq rfl)
      simp (maxSteps := 1000000) (disch := first | assumption | ((try simp only [qz]) <;> omega) | fail) [-Option.bind_some, qs, -splice_eq, -stR_cells, qm, e0, e1, e4, XB, E1.blk, E2.blk]
      refine Ret.mono (worldNew_j (w0 := w0) (g4 := g4) (g := w1.heap.size) (p := w1.heap.size + 1) (s := w.heap.size) (m := m) (sN := sN) hg4 (by omega) (by omega) (by omega) (by omega) (by omega) (by omega) (by omega) (by omega) (by omega) hm hsN (by first | omega | assumption | rfl | exact congrArg i64 (by omega) | (simp; done) | (simp; omega)) (by first | omega | assumption | rfl | exact congrArg i64 (by omega) | (simp; done) | (simp; omega)) (by first | omega | assumption | rfl | exact congrArg i64 (by omega) | (simp; done) | (simp; omega)) rfl (by first | assumption | rfl | (simp (maxSteps := 1000000) (disch := first | assumption | ((try simp only [qz]) <;> omega) | fail) [-Option.bind_some, qs, -splice_eq, -stR_cells, qm, XB, E1.blk, E2.blk]; done)) ?_ (o2.keep (by intro b hS hb; (try dsimp only at hS); (try simp only [In, qz] at hS hb); first | rfl | (simp (disch := first | assumption | ((try simp only [qz, In]) <;> omega) | fail) only [E1.blk, E2.blk, qk]; done))) (o1.keep (by intro b hS hb; (try dsimp only at hS); (try simp only [In, qz] at hS hb); first | rfl | (simp (disch := first | assumption | ((try simp only [qz, In]) <;> omega) | fail) only [E1.blk, E2.blk, qk]; done))) (by (try simp only [In, qz] at *); omega) (by (try simp only [In, qz] at *); omega) (by (repeat (first | exact Ext.rfl | assumption | (refine Ext.al ?_ _) | (refine Ext.dw ?_) | (refine Ext.set ?_ (by (try simp only [qz]); omega) _) | (refine Ext.tr ?_ (by assumption)))))) hQ
      exact (by first | assumption | rfl | (simp (maxSteps := 1000000) (disch := first | assumption | ((try simp only [qz]) <;> omega) | fail) [-Option.bind_some, qs, X4, E1.blk, E2.blk]; done))
  · skip
    refine Ret.mono (O.make0 (α := PlaceD) (L := tPlace) (mx := 1466015503701) (n := 3) el_22 zz_47 rfl (by decide) (by decide) (by decide) (by decide)) ?_
    rintro ⟨_, w1⟩ ⟨rfl, o1, z1, E1⟩
    have zE1 := E1.size
    try simp only [qz] at zE1
    try dsimp only at o1 z1 E1
    try simp only [World.size_alloc, dw_size] at z1 o1
    simp (maxSteps := 1000000) (disch := first | assumption | ((try simp only [qz]) <;> omega) | fail) [-Option.bind_some, qs, -splice_eq, -stR_cells, qm, e0, e1, e4, E1.blk]
    refine Ret.mono (O.make0 (α := SessD) (L := tSe) (mx := 2513169434916) (n := sN) el_23 zz_56 rfl (by decide) (by omega) (by decide) (by decide)) ?_
    rintro ⟨_, w2⟩ ⟨rfl, o2, z2, E2⟩
    have zE2 := E2.size
    try simp only [qz] at zE2
    try dsimp only at o2 z2 E2
    try simp only [World.size_alloc, dw_size] at z2 o2
    have XB : hp w2 (w.heap.size) = some (.cells #[.slice none 0 0, .slice none 0 0, .slice none 0 0, .slice none 0 0] 27 (0, 0)) := by
      exact (E2.blk (by omega)).trans ((E1.blk (by simp only [World.size_alloc, dw_size]; omega)).trans (hp_alloc_eq (by simp only [dw_size])))
    simp (maxSteps := 1000000) (disch := first | assumption | ((try simp only [qz]) <;> omega) | fail) [-Option.bind_some, qs, -splice_eq, -stR_cells, qm, e0, e1, e4, XB, E1.blk, E2.blk]
    refine Ret.mono (worldNew_j (w0 := w0) (g4 := g4) (g := w.heap.size) (p := w.heap.size + 1) (s := w1.heap.size) (m := m) (sN := sN) hg4 (by omega) (by omega) (by omega) (by omega) (by omega) (by omega) (by omega) (by omega) (by omega) hm hsN (by first | omega | assumption | rfl | exact congrArg i64 (by omega) | (simp; done) | (simp; omega)) (by first | omega | assumption | rfl | exact congrArg i64 (by omega) | (simp; done) | (simp; omega)) (by first | omega | assumption | rfl | exact congrArg i64 (by omega) | (simp; done) | (simp; omega)) rfl (by first | assumption | rfl | (simp (maxSteps := 1000000) (disch := first | assumption | ((try simp only [qz]) <;> omega) | fail) [-Option.bind_some, qs, -splice_eq, -stR_cells, qm, XB, E1.blk, E2.blk]; done)) ?_ (o1.keep (by intro b hS hb; (try dsimp only at hS); (try simp only [In, qz] at hS hb); first | rfl | (simp (disch := first | assumption | ((try simp only [qz, In]) <;> omega) | fail) only [E1.blk, E2.blk, qk]; done))) (o2.keep (by intro b hS hb; (try dsimp only at hS); (try simp only [In, qz] at hS hb); first | rfl | (simp (disch := first | assumption | ((try simp only [qz, In]) <;> omega) | fail) only [E1.blk, E2.blk, qk]; done))) (by (try simp only [In, qz] at *); omega) (by (try simp only [In, qz] at *); omega) (by (repeat (first | exact Ext.rfl | assumption | (refine Ext.al ?_ _) | (refine Ext.dw ?_) | (refine Ext.set ?_ (by (try simp only [qz]); omega) _) | (refine Ext.tr ?_ (by assumption)))))) hQ
    exact (by first | assumption | rfl | (simp (maxSteps := 1000000) (disch := first | assumption | ((try simp only [qz]) <;> omega) | fail) [-Option.bind_some, qs, X4, E1.blk, E2.blk]; done))
  · skip
    refine Ret.mono (O.make0 (α := SessD) (L := tSe) (mx := 2513169434916) (n := sN) el_23 zz_56 rfl (by decide) (by omega) (by decide) (by decide)) ?_
    rintro ⟨_, w1⟩ ⟨rfl, o1, z1, E1⟩
    have zE1 := E1.size
    try simp only [qz] at zE1
    try dsimp only at o1 z1 E1
    try simp only [World.size_alloc, dw_size] at z1 o1
    simp (maxSteps := 1000000) (disch := first | assumption | ((try simp only [qz]) <;> omega) | fail) [-Option.bind_some, qs, -splice_eq, -stR_cells, qm, e0, e1, e4, E1.blk]
    refine Ret.mono (O.make0 (α := PlaceD) (L := tPlace) (mx := 1466015503701) (n := 3) el_22 zz_47 rfl (by decide) (by decide) (by decide) (by decide)) ?_
    rintro ⟨_, w2⟩ ⟨rfl, o2, z2, E2⟩
    have zE2 := E2.size
    try simp only [qz] at zE2
    try dsimp only at o2 z2 E2
    try simp only [World.size_alloc, dw_size] at z2 o2
    have XB : hp w2 (w.heap.size) = some (.cells #[.slice none 0 0, .slice none 0 0, .slice none 0 0, .slice none 0 0] 27 (0, 0)) := by
      exact (E2.blk (by omega)).trans ((E1.blk (by simp only [World.size_alloc, dw_size]; omega)).trans (hp_alloc_eq (by simp only [dw_size])))
    simp (maxSteps := 1000000) (disch := first | assumption | ((try simp only [qz]) <;> omega) | fail) [-Option.bind_some, qs, -splice_eq, -stR_cells, qm, e0, e1, e4, XB, E1.blk, E2.blk]
    refine Ret.mono (worldNew_j (w0 := w0) (g4 := g4) (g := w.heap.size) (p := w1.heap.size) (s := w.heap.size + 1) (m := m) (sN := sN) hg4 (by omega) (by omega) (by omega) (by omega) (by omega) (by omega) (by omega) (by omega) (by omega) hm hsN (by first | omega | assumption | rfl | exact congrArg i64 (by omega) | (simp; done) | (simp; omega)) (by first | omega | assumption | rfl | exact congrArg i64 (by omega) | (simp; done) | (simp; omega)) (by first | omega | assumption | rfl | exact congrArg i64 (by omega) | (simp; done) | (simp; omega)) rfl (by first | assumption | rfl | (simp (maxSteps := 1000000) (disch := first | assumption | ((try simp only [qz]) <;> omega) | fail) [-Option.bind_some, qs, -splice_eq, -stR_cells, qm, XB, E1.blk, E2.blk]; done)) ?_ (o2.keep (by intro b hS hb; (try dsimp only at hS); (try simp only [In, qz] at hS hb); first | rfl | (simp (disch := first | assumption | ((try simp only [qz, In]) <;> omega) | fail) only [E1.blk, E2.blk, qk]; done))) (o1.keep (by intro b hS hb; (try dsimp only at hS); (try simp only [In, qz] at hS hb); first | rfl | (simp (disch := first | assumption | ((try simp only [qz, In]) <;> omega) | fail) only [E1.blk, E2.blk, qk]; done))) (by (try simp only [In, qz] at *); omega) (by (try simp only [In, qz] at *); omega) (by (repeat (first | exact Ext.rfl | assumption | (refine Ext.al ?_ _) | (refine Ext.dw ?_) | (refine Ext.set ?_ (by (try simp only [qz]); omega) _) | (refine Ext.tr ?_ (by assumption)))))) hQ
    exact (by first | assumption | rfl | (simp (maxSteps := 1000000) (disch := first | assumption | ((try simp only [qz]) <;> omega) | fail) [-Option.bind_some, qs, X4, E1.blk, E2.blk]; done))
theorem impl_worldNew_m {m sN : Nat} (hm : m < 4) (hsN : sN ≤ 4) {w : World} :
    Ret (EV P 12 #[i64 (1 + (m : Int)), i64 sN] w) fun r => ∃ (cs : List Value), r.1 = .agg cs.toArray ∧ O tWo (In w.heap.size r.2.heap.size) r.2 cs ⟨plsNew 3 (1 + (m : Int)), sessNew sN, [], []⟩ ∧ Ext w r.2 := by
  refine Ret.post fun Q hQ => ?_
  refine Ret.enter plain mixed (impl_worldNew_fn _ _ _) (by kernel_rfl) (n := 2) (by kernel_rfl) rfl ?_
  simp (maxSteps := 1000000) (disch := first | assumption | ((try simp only [qz]) <;> omega) | fail) [-Option.bind_some, qs, -splice_eq, -stR_cells, qm]
  exact Ret.mono (worldNew_r (g4 := w.heap.size) (w0 := w) (Nat.le_refl _) hm hsN rfl rfl rfl (by first | assumption | rfl | (simp (maxSteps := 1000000) (disch := first | assumption | ((try simp only [qz]) <;> omega) | fail) [-Option.bind_some, qs, -splice_eq, -stR_cells, qm]; done)) (by (repeat (first | exact Ext.rfl | assumption | (refine Ext.al ?_ _) | (refine Ext.dw ?_) | (refine Ext.set ?_ (by (try simp only [qz]); omega) _) | (refine Ext.tr ?_ (by assumption)))))) hQ
theorem impl_worldArgs_c (nodes sess : Int) (w : World) : Ret (EV P 11 #[i64 nodes, i64 sess] w) fun r => r = (.bool (worldNewB nodes sess), w) := by
  refine Ret.post fun Q hQ => ?_
  refine Ret.enter plain mixed (impl_worldArgs_fn _ _ _) (by kernel_rfl) (n := 2) (by kernel_rfl) rfl ?_
  simp (maxSteps := 1000000) (disch := first | assumption | ((try simp only [qz]) <;> omega) | fail) [-Option.bind_some, qs, -splice_eq, -stR_cells, qm]
  refine Ret.bind (impl_nodesOk_c _ _) ?_
  rintro _ rfl
  unfold worldNewB at hQ
  cases h1 : (decide (1 ≤ nodes) && decide (nodes ≤ 4))
  · simp (maxSteps := 1000000) (disch := first | assumption | ((try simp only [qz]) <;> omega) | fail) [-Option.bind_some, qs, -splice_eq, -stR_cells, qm, h1]
    exact hQ _ (by rw [h1]; rfl)
  · simp (maxSteps := 1000000) (disch := first | assumption | ((try simp only [qz]) <;> omega) | fail) [-Option.bind_some, qs, -splice_eq, -stR_cells, qm, h1]
    refine Ret.bind (impl_within_c _ _ _ _) ?_
    rintro _ rfl
    simp (maxSteps := 1000000) (disch := first | assumption | ((try simp only [qz]) <;> omega) | fail) [-Option.bind_some, qs, -splice_eq, -stR_cells, qm, h1]
    exact hQ _ (by rw [h1]; rfl)
theorem impl_WorldNew_m (nodes sess : Int) {w : World} : Ret (EV P 5 #[i64 nodes, i64 sess] w) fun r => ∃ (cs : List Value), r.1 = .agg cs.toArray ∧ O tWo (In w.heap.size r.2.heap.size) r.2 cs (worldNewP nodes sess) ∧ Ext w r.2 := by
  refine Ret.post fun Q hQ => ?_
  refine Ret.enter plain mixed (impl_WorldNew_fn _ _ _) (by kernel_rfl) (n := 2) (by kernel_rfl) rfl ?_
  simp (maxSteps := 1000000) (disch := first | assumption | ((try simp only [qz]) <;> omega) | fail) [-Option.bind_some, qs, -splice_eq, -stR_cells, qm]
  refine Ret.bind (impl_worldArgs_c _ _ _) ?_
  rintro _ rfl
  cases h1 : worldNewB nodes sess
  · simp (maxSteps := 1000000) (disch := first | assumption | ((try simp only [qz]) <;> omega) | fail) [-Option.bind_some, qs, -splice_eq, -stR_cells, qm, h1]
    refine hQ _ ⟨_, rfl, ?_, by (repeat (first | exact Ext.rfl | assumption | (refine Ext.al ?_ _) | (refine Ext.dw ?_) | (refine Ext.set ?_ (by (try simp only [qz]); omega) _) | (refine Ext.tr ?_ (by assumption))))⟩
    rw [worldNewP, if_neg (by simp [h1])]
    exact (worldZ_O _).wide fun b h _ => h.elim
  · simp (maxSteps := 1000000) (disch := first | assumption | ((try simp only [qz]) <;> omega) | fail) [-Option.bind_some, qs, -splice_eq, -stR_cells, qm, h1]
    have g1 := h1
    simp only [worldNewB, Bool.and_eq_true, decide_eq_true_eq] at g1
    obtain ⟨m, hm⟩ : ∃ m : Nat, nodes = 1 + (m : Int) := ⟨(nodes - 1).toNat, by omega⟩
    obtain ⟨s, rfl⟩ := Int.eq_ofNat_of_zero_le g1.2.1
    subst hm
    refine Ret.bind (impl_worldNew_m (m := m) (sN := s) (by omega) (by omega)) ?_
    rintro ⟨_, w2⟩ ⟨cs, rfl, o2, E2⟩
    try dsimp only at cs o2 E2
    have zE2 := E2.size
    try simp only [qz] at zE2
    obtain ⟨a, c, a1, c1, a2, c2, a3, c3, _, _, _, _, rfl, _, _⟩ := O.world_un o2
    simp (maxSteps := 1000000) (disch := first | assumption | ((try simp only [qz]) <;> omega) | fail) [-Option.bind_some, qs, -splice_eq, -stR_cells, qm, E2.blk]
    refine hQ _ ⟨_, rfl, ?_, by (repeat (first | exact Ext.rfl | assumption | (refine Ext.al ?_ _) | (refine Ext.dw ?_) | (refine Ext.set ?_ (by (try simp only [qz]); omega) _) | (refine Ext.tr ?_ (by assumption))))⟩
    rw [worldNewP, if_pos h1]
    exact (o2.keep (by intro b hS hb; (try dsimp only at hS); (try simp only [In, qz] at hS hb); first | rfl | (simp (disch := first | assumption | ((try simp only [qz, In]) <;> omega) | fail) only [E2.blk, qk]; done))).wide fun b h _ => by simp only [In, World.size_alloc, size_setRow, dw_size] at h ⊢; omega
end Go.Proofs.Ytligcpabhddggaa.X
