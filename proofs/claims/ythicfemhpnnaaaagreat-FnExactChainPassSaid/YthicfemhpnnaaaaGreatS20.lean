/- A part of the proof: an evaluator of the model, its laws, and contracts of functions; no condition. -/
import Derived.Test.YthicfemhpnnaaaaGreatEvO
import Derived.Test.YthicfemhpnnaaaaGreatS13
set_option linter.unusedVariables false
set_option linter.unusedSimpArgs false
set_option maxRecDepth 100000
set_option maxHeartbeats 1000000
namespace Go.Proofs.YthicfemhpnnaaaaGreat.X
open Go Go.Ev Go.RowKit
theorem impl_tried_n {a : Option Addr} {n c : Nat} {f : Value} {S : Nat → Prop} {ns ys : List CNode} {q : Bool} {w : World} (ha : D tNodes S w [.slice a n c] ns)
    (hf : ∀ (S : Nat → Prop) (g : Nat) (w' : World) (a : Option Addr) (c : Nat), O tNodes S w' [.slice a ns.length c] ns → hp w' g = some (.cells #[.slice a ns.length c] 25 (0, 0)) → ¬ S g → w.heap.size ≤ g → Ext w w' → (∀ b, S b → w.heap.size ≤ b) →
      Ret (clo P f #[pt g 0] w') fun r => r.1 = .bool q ∧ ∃ a' c', hp r.2 g = some (.cells #[.slice a' ys.length c'] 25 (0, 0)) ∧ O tNodes (fun b => S b ∨ In w'.heap.size r.2.heap.size b) r.2 [.slice a' ys.length c'] ys ∧ Mod (fun b => S b ∨ b = g) w' r.2) :
    Ret (EV P 29 #[.agg #[.slice a n c], f] w) fun r => ∃ a' c', r.1 = .tuple #[.agg #[.slice a' ys.length c'], .bool q] ∧ O tNodes (In w.heap.size r.2.heap.size) r.2 [.slice a' ys.length c'] ys ∧ Ext w r.2 := by
  obtain ⟨rfl, hm, _⟩ := ha.n
  refine Ret.post fun Q hQ => ?_
  refine Ret.enter plain mixed (impl_tried_fn _ _ _) (by kernel_rfl) (n := 2) (by kernel_rfl) rfl ?_
  simp (maxSteps := 1000000) (disch := first | assumption | omega | (simp only [World.size_alloc, size_setRow, dw_size]; done) | (simp only [World.size_alloc, size_setRow, dw_size] <;> omega) | (simp only [List.length_set, Array.length_toList, List.length_cons, List.length_nil, List.length_append, bts_size] <;> omega) | (simp only [List.all_cons, List.all_nil, Value.oneCell', Bool.and_self, Bool.and_true]; done)) [-Option.bind_some, hp_alloc_lt, hp_alloc_eq, hp_set_ne, wrap_small, ups_ap_cons, ups_ap_nil, upd_same, upd_other, env0_ap0, env0_aps, xt_a, xt_b, xt_c, -splice_eq, -stR_cells, stR_box, stR_boxA, stR_row, stR_row0, stR_row1, stR_rowA, stR_rowA0, splice_rowv, splice_rowv0, splice_rowv1, splice_z, splice_n, splice_s, nth_rowv, nth_rowv0, nth_rowv1, rowv_len]
  refine Ret.bind (impl_Chain_copied_n (ha.ext (by (repeat (first | exact Ext.rfl | assumption | (refine Ext.al ?_ _) | (refine Ext.dw ?_) | (refine Ext.set ?_ (by first | omega | (simp only [World.size_alloc, size_setRow, dw_size]; omega)) _) | (refine Ext.tr ?_ (by assumption))))))) ?_
  rintro ⟨_, w1⟩ ⟨a1, c1, rfl, o1, E1⟩
  try dsimp only at a1 c1 o1 E1
  have zE1 := E1.size
  try simp only [World.size_alloc, size_setRow, dw_size] at zE1
  simp (maxSteps := 1000000) (disch := first | assumption | omega | (simp only [World.size_alloc, size_setRow, dw_size]; done) | (simp only [World.size_alloc, size_setRow, dw_size] <;> omega) | (simp only [List.length_set, Array.length_toList, List.length_cons, List.length_nil, List.length_append, bts_size] <;> omega) | (simp only [List.all_cons, List.all_nil, Value.oneCell', Bool.and_self, Bool.and_true]; done)) [-Option.bind_some, hp_alloc_lt, hp_alloc_eq, hp_set_ne, wrap_small, ups_ap_cons, ups_ap_nil, upd_same, upd_other, env0_ap0, env0_aps, xt_a, xt_b, xt_c, -splice_eq, -stR_cells, stR_box, stR_boxA, stR_row, stR_row0, stR_row1, stR_rowA, stR_rowA0, splice_rowv, splice_rowv0, splice_rowv1, splice_z, splice_n, splice_s, nth_rowv, nth_rowv0, nth_rowv1, rowv_len, E1.blk]
  have F1 : Ext w w1 := by (repeat (first | exact Ext.rfl | assumption | (refine Ext.al ?_ _) | (refine Ext.dw ?_) | (refine Ext.set ?_ (by first | omega | (simp only [World.size_alloc, size_setRow, dw_size]; omega)) _) | (refine Ext.tr ?_ (by assumption))))
  refine Ret.bind (hf _ w1.heap.size _ a1 c1 (o1.keep (by intro b hS hb; (try dsimp only at hS); (try simp only [In, World.size_alloc, size_setRow, dw_size] at hS hb); first | rfl | (simp (disch := first | assumption | omega | (simp only [World.size_alloc, size_setRow, dw_size]; omega) | (simp only [World.size_alloc, size_setRow, dw_size, In]; omega)) only [E1.blk, hp_alloc_lt, hp_set_ne, hp_dw]; done))) (by first | assumption | rfl | (simp (maxSteps := 1000000) (disch := first | assumption | omega | (simp only [World.size_alloc, size_setRow, dw_size]; done) | (simp only [World.size_alloc, size_setRow, dw_size] <;> omega) | (simp only [List.length_set, Array.length_toList, List.length_cons, List.length_nil, List.length_append, bts_size] <;> omega) | (simp only [List.all_cons, List.all_nil, Value.oneCell', Bool.and_self, Bool.and_true]; done)) [-Option.bind_some, hp_alloc_lt, hp_alloc_eq, hp_set_ne, wrap_small, ups_ap_cons, ups_ap_nil, upd_same, upd_other, env0_ap0, env0_aps, xt_a, xt_b, xt_c, -splice_eq, -stR_cells, stR_box, stR_boxA, stR_row, stR_row0, stR_row1, stR_rowA, stR_rowA0, splice_rowv, splice_rowv0, splice_rowv1, splice_z, splice_n, splice_s, nth_rowv, nth_rowv0, nth_rowv1, rowv_len, E1.blk]; done)) (by (try simp only [In, World.size_alloc, size_setRow, dw_size] at *); omega) (by omega) (by (repeat (first | exact Ext.rfl | assumption | (refine Ext.al ?_ _) | (refine Ext.dw ?_) | (refine Ext.set ?_ (by first | omega | (simp only [World.size_alloc, size_setRow, dw_size]; omega)) _) | (refine Ext.tr ?_ (by assumption))))) (fun b h => by simp only [In, World.size_alloc, dw_size] at h; omega)) ?_
  rintro ⟨_, w2⟩ ⟨rfl, a2, c2, X2, o2, M2⟩
  have zM2 := M2.size
  try simp only [World.size_alloc, size_setRow, dw_size] at zM2
  try dsimp only at o2 M2 X2
  have zM2 := M2.size
  simp only [World.size_alloc, size_setRow] at zM2
  have Y1 : hp w2 (w.heap.size + 1) = some (.cells #[.slice none 0 0] 25 (0, 0)) := (M2.blk (w.heap.size + 1) (by (try simp only [In, World.size_alloc, size_setRow, dw_size] at *); omega) (by (try simp only [In, World.size_alloc, size_setRow, dw_size] at *); omega)).trans (by first | assumption | rfl | (simp (maxSteps := 1000000) (disch := first | assumption | omega | (simp only [World.size_alloc, size_setRow, dw_size]; done) | (simp only [World.size_alloc, size_setRow, dw_size] <;> omega) | (simp only [List.length_set, Array.length_toList, List.length_cons, List.length_nil, List.length_append, bts_size] <;> omega) | (simp only [List.all_cons, List.all_nil, Value.oneCell', Bool.and_self, Bool.and_true]; done)) [-Option.bind_some, hp_alloc_lt, hp_alloc_eq, hp_set_ne, wrap_small, ups_ap_cons, ups_ap_nil, upd_same, upd_other, env0_ap0, env0_aps, xt_a, xt_b, xt_c, -splice_eq, -stR_cells, stR_box, stR_boxA, stR_row, stR_row0, stR_row1, stR_rowA, stR_rowA0, splice_rowv, splice_rowv0, splice_rowv1, splice_z, splice_n, splice_s, nth_rowv, nth_rowv0, nth_rowv1, rowv_len, E1.blk, X2, M2.blk]; done))
  simp (maxSteps := 1000000) (disch := first | assumption | omega | (simp only [World.size_alloc, size_setRow, dw_size]; done) | (simp only [World.size_alloc, size_setRow, dw_size] <;> omega) | (simp only [List.length_set, Array.length_toList, List.length_cons, List.length_nil, List.length_append, bts_size] <;> omega) | (simp only [List.all_cons, List.all_nil, Value.oneCell', Bool.and_self, Bool.and_true]; done)) [-Option.bind_some, hp_alloc_lt, hp_alloc_eq, hp_set_ne, wrap_small, ups_ap_cons, ups_ap_nil, upd_same, upd_other, env0_ap0, env0_aps, xt_a, xt_b, xt_c, -splice_eq, -stR_cells, stR_box, stR_boxA, stR_row, stR_row0, stR_row1, stR_rowA, stR_rowA0, splice_rowv, splice_rowv0, splice_rowv1, splice_z, splice_n, splice_s, nth_rowv, nth_rowv0, nth_rowv1, rowv_len, X2, Y1, E1.blk, X2, M2.blk]
  have E3 : Ext w w2 := Mod.after (by (repeat (first | exact Ext.rfl | assumption | (refine Ext.al ?_ _) | (refine Ext.dw ?_) | (refine Ext.set ?_ (by first | omega | (simp only [World.size_alloc, size_setRow, dw_size]; omega)) _) | (refine Ext.tr ?_ (by assumption))))) M2 (by intro x hx h; simp only [In, World.size_alloc, size_setRow, dw_size] at *; omega)
  have zE3 := E3.size
  try simp only [World.size_alloc, size_setRow, dw_size] at zE3
  refine hQ _ ⟨a2, c2, rfl, (o2.keep ?_).wide ?_, by (repeat (first | exact Ext.rfl | assumption | (refine Ext.al ?_ _) | (refine Ext.dw ?_) | (refine Ext.set ?_ (by first | omega | (simp only [World.size_alloc, size_setRow, dw_size]; omega)) _) | (refine Ext.tr ?_ (by assumption))))⟩
  · intro b hS hb
    simp only [In, World.size_alloc, size_setRow, dw_size] at *
    rw [hp_set_ne (by omega)]
  · intro b h1 h2
    simp only [In, World.size_alloc, size_setRow, dw_size] at *
    omega
theorem wtL_app {α : Type} {M : Mk α} : ∀ (l m : List α), M.wtL (l ++ m) = M.wtL l + M.wtL m
  | [], m => by simp [Mk.wtL]
  | x :: l, m => by
    have := wtL_app (M := M) l m
    rw [List.cons_append, Mk.wtL, this, Mk.wtL]
    omega
end Go.Proofs.YthicfemhpnnaaaaGreat.X
set_option linter.unusedVariables false
set_option linter.unusedSimpArgs false
set_option maxRecDepth 100000
namespace Go.Proofs.YthicfemhpnnaaaaGreat.X
open Go Go.Ev Go.RowKit
theorem tmod_nat (a b : Nat) : (a : Int).tmod (b : Int) = ((a % b : Nat) : Int) := by
  rw [Int.tmod_eq_emod_of_nonneg (by omega)]; rfl
theorem tdiv_nat (a b : Nat) : (a : Int).tdiv (b : Int) = ((a / b : Nat) : Int) := by
  rw [Int.tdiv_eq_ediv_of_nonneg (by omega)]; rfl
end Go.Proofs.YthicfemhpnnaaaaGreat.X
set_option linter.unusedVariables false
set_option linter.unusedSimpArgs false
set_option maxRecDepth 100000
set_option maxHeartbeats 1000000
namespace Go.Proofs.YthicfemhpnnaaaaGreat.X
open Go Go.Ev Go.RowKit
/-- A reader in block g, at place p; what it reads lies below B. -/
def R (w : World) (B g p : Nat) : Prop := ∃ s ns, rRd 99 w g s p ∧ rBytes w s ns ∧ ns.length ≤ 1000000000000 ∧ (∀ x ∈ rowB s ns, x < B) ∧ B ≤ g
theorem R.lt {w : World} {B g p : Nat} (h : R w B g p) : B ≤ g ∧ g < w.heap.size := by
  obtain ⟨s, ns, h1, h2, h3, h4, h5⟩ := h
  exact ⟨h5, hp_lt h1⟩
theorem R.keep {w w' : World} {B g p : Nat} (h : R w B g p) (k : ∀ b, b < B ∨ b = g → b < w.heap.size → hp w' b = hp w b) : R w' B g p := by
  obtain ⟨s, ns, h1, h2, h3, h4, h5⟩ := h
  refine ⟨s, ns, (k g (.inr rfl) (hp_lt h1)).trans h1, ?_, h3, h4, h5⟩
  obtain ⟨a, c, q1, q2, q3, q4, q5⟩ := h2
  refine ⟨a, c, q1, q2, q3, q4, ?_⟩
  cases ns with
  | nil => exact .inl rfl
  | cons n ns =>
    rcases q5 with q5 | ⟨d, o, q6, q7⟩
    · cases q5
    · subst q1; subst q6
      have hd := h4 d (by simp [rowB, blkOf])
      exact .inr ⟨d, o, rfl, q7.same (k d (.inl hd) (At.lt (l := ns.map (Value.int .u8)) q7))⟩
theorem R.ext {w w' : World} {B g p : Nat} (h : R w B g p) (k : Ext w w') : R w' B g p := h.keep fun b _ hb => k.blk hb
end Go.Proofs.YthicfemhpnnaaaaGreat.X
set_option linter.unusedVariables false
set_option linter.unusedSimpArgs false
set_option maxRecDepth 100000
set_option maxHeartbeats 1000000
namespace Go.Proofs.YthicfemhpnnaaaaGreat.X
open Go Go.Ev Go.RowKit
def addNode (n : CNode) (v : Ver) (last : Bool) : CNode := ⟨n.store.set v.key.toNat v, if last then n.wait else n.wait ++ [v]⟩
def addAt (ns : List CNode) (i : Nat) (v : Ver) : List CNode := match ns[i]? with
  | some n => (match n.store[v.key.toNat]? with
    | some u => if tagLess u.tag v.tag then ns.set i (addNode n v (decide (ns.length ≤ i + 1))) else ns
    | none => ns)
  | none => ns
theorem spec_l3Add_n {a : Option Addr} {n c i : Nat} {S S1 : Nat → Prop} {ns : List CNode} {cs : List Value} {v : Ver} {x : CNode} {w : World} (ho : O tNodes S w [.slice a n c] ns) (hv : D tVer S1 w cs v) (hd : ∀ b, b < w.heap.size → S1 b → ¬ S b)
    (hx : ns[i]? = some x) (h0 : 0 ≤ v.key) (h1 : v.key.toNat < x.store.length) (h6 : x.wait.length ≤ 1000000) (h4 : ns.length ≤ 1000000) :
    Ret (EV P 56 #[.agg #[.slice a n c], i64 i, .agg cs.toArray] w) fun r => r.1 = .agg #[.slice a ns.length c] ∧ O tNodes (fun b => S b ∨ In w.heap.size r.2.heap.size b) r.2 [.slice a ns.length c] (addAt ns i v) ∧ Mod S w r.2 := by
  obtain ⟨rfl, hm, _⟩ := ho.n
  have ho' := ho
  obtain ⟨av, cv, rfl, hv1, hv2⟩ := D.ver.1 hv
  obtain ⟨u, hu, _⟩ := drop_at h1
  have hlt : i < ns.length := (List.getElem?_eq_some_iff.1 hx).1
  obtain ⟨g, cur, ds, S2, rfl, hSg, hgl, hg, hle, hx1, hS2, put⟩ := ho.row (by decide) hx
  obtain ⟨a2, c2, a3, c3, Ss, Sw, rfl, o2, o3, hSs, hSw⟩ := O.node_un hx1
  simp only [LNode_n] at hg hle put
  have o2' := o2
  obtain ⟨g2, cur2, ds2, S3, rfl, hSg2, hgl2, hg2, hle2, hx2, hS3, put2⟩ := o2.row (by decide) hu
  obtain ⟨au, cu, rfl, hu1, hu2⟩ := O.ver.1 hx2
  simp only [LVer_n] at hg2 hle2 put2
  have hk : v.key < x.store.length := by omega
  have hne : g2 ≠ g := (hS2 g2 (hSs g2 hSg2).1).2.1
  refine Ret.post fun Q hQ => ?_
  refine Ret.enter plain mixed (spec_l3Add_fn _ _ _ _) (by kernel_rfl) (n := 3) (by kernel_rfl) rfl ?_
  simp (maxSteps := 1000000) (disch := first | assumption | omega | (simp only [World.size_alloc, size_setRow, dw_size]; done) | (simp only [World.size_alloc, size_setRow, dw_size] <;> omega) | (simp only [List.length_set, Array.length_toList, List.length_cons, List.length_nil, List.length_append, bts_size] <;> omega) | (simp only [List.all_cons, List.all_nil, Value.oneCell', Bool.and_self, Bool.and_true]; done)) [-Option.bind_some, hp_alloc_lt, hp_alloc_eq, hp_set_ne, wrap_small, ups_ap_cons, ups_ap_nil, upd_same, upd_other, env0_ap0, env0_aps, xt_a, xt_b, xt_c, -splice_eq, -stR_cells, stR_box, stR_boxA, stR_row, stR_row0, stR_row1, stR_rowA, stR_rowA0, splice_rowv, splice_rowv0, splice_rowv1, splice_z, splice_n, splice_s, nth_rowv, nth_rowv0, nth_rowv1, rowv_len, ia_23, ia_32, hg, hg2, hk, hlt, hlt, hg, hg2]
  refine Ret.bind (spec_l1Less_c u.tag v.tag _) ?_
  rintro ⟨_, w1⟩ ⟨rfl, E1⟩
  try dsimp only at E1
  have zE1 := E1.size
  try simp only [World.size_alloc, size_setRow, dw_size] at zE1
  cases hl : tagLess u.tag v.tag
  · have e : addAt ns i v = ns := by rw [addAt, hx]; simp [hu, hl]
    rw [e] at hQ
    simp (maxSteps := 1000000) (disch := first | assumption | omega | (simp only [World.size_alloc, size_setRow, dw_size]; done) | (simp only [World.size_alloc, size_setRow, dw_size] <;> omega) | (simp only [List.length_set, Array.length_toList, List.length_cons, List.length_nil, List.length_append, bts_size] <;> omega) | (simp only [List.all_cons, List.all_nil, Value.oneCell', Bool.and_self, Bool.and_true]; done)) [-Option.bind_some, hp_alloc_lt, hp_alloc_eq, hp_set_ne, wrap_small, ups_ap_cons, ups_ap_nil, upd_same, upd_other, env0_ap0, env0_aps, xt_a, xt_b, xt_c, -splice_eq, -stR_cells, stR_box, stR_boxA, stR_row, stR_row0, stR_row1, stR_rowA, stR_rowA0, splice_rowv, splice_rowv0, splice_rowv1, splice_z, splice_n, splice_s, nth_rowv, nth_rowv0, nth_rowv1, rowv_len, hlt, hg, hg2, E1.blk]
    exact hQ _ ⟨rfl, (ho'.keep (by intro b hS hb; (try dsimp only at hS); (try simp only [In, World.size_alloc, size_setRow, dw_size] at hS hb); first | rfl | (simp (disch := first | assumption | omega | (simp only [World.size_alloc, size_setRow, dw_size]; omega) | (simp only [World.size_alloc, size_setRow, dw_size, In]; omega)) only [E1.blk, hp_alloc_lt, hp_set_ne, hp_dw]; done))).wide (fun b h _ => .inl h), by (repeat (first | exact Mod.rfl | assumption | (refine Mod.al ?_ _) | (refine Mod.dw' ?_) | (refine Mod.set' ?_ (by first | (left; omega) | (left; simp only [World.size_alloc, size_setRow, dw_size]; omega) | (right; assumption) | (right; simp; done)) _) | (refine Mod.ex ?_ (by assumption))))⟩
  · have e : addAt ns i v = ns.set i (addNode x v (decide (ns.length ≤ i + 1))) := by rw [addAt, hx]; simp [hu, hl]
    rw [e] at hQ
    have hst : storeAdd x.store v = x.store.set v.key.toNat v := storeAdd_t hu hl
    simp (maxSteps := 1000000) (disch := first | assumption | omega | (simp only [World.size_alloc, size_setRow, dw_size]; done) | (simp only [World.size_alloc, size_setRow, dw_size] <;> omega) | (simp only [List.length_set, Array.length_toList, List.length_cons, List.length_nil, List.length_append, bts_size] <;> omega) | (simp only [List.all_cons, List.all_nil, Value.oneCell', Bool.and_self, Bool.and_true]; done)) [-Option.bind_some, hp_alloc_lt, hp_alloc_eq, hp_set_ne, wrap_small, ups_ap_cons, ups_ap_nil, upd_same, upd_other, env0_ap0, env0_aps, xt_a, xt_b, xt_c, -splice_eq, -stR_cells, stR_box, stR_boxA, stR_row, stR_row0, stR_row1, stR_rowA, stR_rowA0, splice_rowv, splice_rowv0, splice_rowv1, splice_z, splice_n, splice_s, nth_rowv, nth_rowv0, nth_rowv1, rowv_len, ia_23, ia_32, hg, hg2, hk, hlt, hlt, hg, hg2, E1.blk]
    refine Ret.bind (spec_l2Add_n (o2'.keep (by intro b hS hb; (try dsimp only at hS); (try simp only [In, World.size_alloc, size_setRow, dw_size] at hS hb); first | rfl | (simp (disch := first | assumption | omega | (simp only [World.size_alloc, size_setRow, dw_size]; omega) | (simp only [World.size_alloc, size_setRow, dw_size, In]; omega)) only [E1.blk, hp_alloc_lt, hp_set_ne, hp_dw]; done))) (hv.ext (by (repeat (first | exact Ext.rfl | assumption | (refine Ext.al ?_ _) | (refine Ext.dw ?_) | (refine Ext.set ?_ (by first | omega | (simp only [World.size_alloc, size_setRow, dw_size]; omega)) _) | (refine Ext.tr ?_ (by assumption)))))) h0 h1) ?_
    rintro ⟨_, w2⟩ ⟨rfl, o4, M2⟩
    have zM2 := M2.size
    try simp only [World.size_alloc, size_setRow, dw_size] at zM2
    try dsimp only at o4 M2
    have zM2 := M2.size
    simp only [World.size_alloc, dw_size] at zM2
    have nS : ∀ b, w.heap.size ≤ b → ¬ Ss b := fun b hb h => by have := (hSs b h).2.2; omega
    have G2 : hp w2 g = hp w g := (M2.blk g (by (try simp only [In, World.size_alloc, size_setRow, dw_size] at *); omega) (fun h => (hS2 g (hSs g h).1).2.1 rfl)).trans (by first | assumption | rfl | (simp (maxSteps := 1000000) (disch := first | assumption | omega | (simp only [World.size_alloc, size_setRow, dw_size]; done) | (simp only [World.size_alloc, size_setRow, dw_size] <;> omega) | (simp only [List.length_set, Array.length_toList, List.length_cons, List.length_nil, List.length_append, bts_size] <;> omega) | (simp only [List.all_cons, List.all_nil, Value.oneCell', Bool.and_self, Bool.and_true]; done)) [-Option.bind_some, hp_alloc_lt, hp_alloc_eq, hp_set_ne, wrap_small, ups_ap_cons, ups_ap_nil, upd_same, upd_other, env0_ap0, env0_aps, xt_a, xt_b, xt_c, hlt, hg, hg2, E1.blk, M2.blk]; done))
    have Y1 : hp w2 w.heap.size = some (.cells #[.slice (some ⟨g, 0, none⟩) ns.length c] 25 (0, 0)) := (M2.blk w.heap.size (by (try simp only [In, World.size_alloc, size_setRow, dw_size] at *); omega) (nS _ (by omega))).trans (by first | assumption | rfl | (simp (maxSteps := 1000000) (disch := first | assumption | omega | (simp only [World.size_alloc, size_setRow, dw_size]; done) | (simp only [World.size_alloc, size_setRow, dw_size] <;> omega) | (simp only [List.length_set, Array.length_toList, List.length_cons, List.length_nil, List.length_append, bts_size] <;> omega) | (simp only [List.all_cons, List.all_nil, Value.oneCell', Bool.and_self, Bool.and_true]; done)) [-Option.bind_some, hp_alloc_lt, hp_alloc_eq, hp_set_ne, wrap_small, ups_ap_cons, ups_ap_nil, upd_same, upd_other, env0_ap0, env0_aps, xt_a, xt_b, xt_c, -splice_eq, -stR_cells, stR_box, stR_boxA, stR_row, stR_row0, stR_row1, stR_rowA, stR_rowA0, splice_rowv, splice_rowv0, splice_rowv1, splice_z, splice_n, splice_s, nth_rowv, nth_rowv0, nth_rowv1, rowv_len, hlt, hg, hg2, E1.blk, M2.blk]; done))
    have Y2 : hp w2 (w.heap.size + 1) = some (.cells #[i64 v.key, i64 v.tag.t, i64 v.tag.p, .slice av v.past.length cv, .string v.text, .bool v.gone] 45 (0, 0)) := (M2.blk (w.heap.size + 1) (by (try simp only [In, World.size_alloc, size_setRow, dw_size] at *); omega) (nS _ (by omega))).trans (by first | assumption | rfl | (simp (maxSteps := 1000000) (disch := first | assumption | omega | (simp only [World.size_alloc, size_setRow, dw_size]; done) | (simp only [World.size_alloc, size_setRow, dw_size] <;> omega) | (simp only [List.length_set, Array.length_toList, List.length_cons, List.length_nil, List.length_append, bts_size] <;> omega) | (simp only [List.all_cons, List.all_nil, Value.oneCell', Bool.and_self, Bool.and_true]; done)) [-Option.bind_some, hp_alloc_lt, hp_alloc_eq, hp_set_ne, wrap_small, ups_ap_cons, ups_ap_nil, upd_same, upd_other, env0_ap0, env0_aps, xt_a, xt_b, xt_c, -splice_eq, -stR_cells, stR_box, stR_boxA, stR_row, stR_row0, stR_row1, stR_rowA, stR_rowA0, splice_rowv, splice_rowv0, splice_rowv1, splice_z, splice_n, splice_s, nth_rowv, nth_rowv0, nth_rowv1, rowv_len, hlt, hg, hg2, E1.blk, M2.blk]; done))
    have Y3 : hp w2 (w.heap.size + 1 + 1) = some (.cells #[.slice none 0 0] 25 (0, 0)) := (M2.blk (w.heap.size + 1 + 1) (by (try simp only [In, World.size_alloc, size_setRow, dw_size] at *); omega) (nS _ (by omega))).trans (by first | assumption | rfl | (simp (maxSteps := 1000000) (disch := first | assumption | omega | (simp only [World.size_alloc, size_setRow, dw_size]; done) | (simp only [World.size_alloc, size_setRow, dw_size] <;> omega) | (simp only [List.length_set, Array.length_toList, List.length_cons, List.length_nil, List.length_append, bts_size] <;> omega) | (simp only [List.all_cons, List.all_nil, Value.oneCell', Bool.and_self, Bool.and_true]; done)) [-Option.bind_some, hp_alloc_lt, hp_alloc_eq, hp_set_ne, wrap_small, ups_ap_cons, ups_ap_nil, upd_same, upd_other, env0_ap0, env0_aps, xt_a, xt_b, xt_c, -splice_eq, -stR_cells, stR_box, stR_boxA, stR_row, stR_row0, stR_row1, stR_rowA, stR_rowA0, splice_rowv, splice_rowv0, splice_rowv1, splice_z, splice_n, splice_s, nth_rowv, nth_rowv0, nth_rowv1, rowv_len, hlt, hg, hg2, E1.blk, M2.blk]; done))
    have hw : IntKind.i64.wrap ((ns.length : Int) - 1) = (ns.length : Int) - 1 := w64 (by omega) (by omega)
    have MA : Mod S w w2 := Mod.after' (Mod.of (by (repeat (first | exact Ext.rfl | assumption | (refine Ext.al ?_ _) | (refine Ext.dw ?_) | (refine Ext.set ?_ (by first | omega | (simp only [World.size_alloc, size_setRow, dw_size]; omega)) _) | (refine Ext.tr ?_ (by assumption))))) S) M2 (fun x _ h => (hS2 x (hSs x h).1).1)
    rw [hst] at o4
    by_cases hlast : i + 1 < ns.length
    · simp (maxSteps := 1000000) (disch := first | assumption | omega | (simp only [World.size_alloc, size_setRow, dw_size]; done) | (simp only [World.size_alloc, size_setRow, dw_size] <;> omega) | (simp only [List.length_set, Array.length_toList, List.length_cons, List.length_nil, List.length_append, bts_size] <;> omega) | (simp only [List.all_cons, List.all_nil, Value.oneCell', Bool.and_self, Bool.and_true]; done)) [-Option.bind_some, hp_alloc_lt, hp_alloc_eq, hp_set_ne, wrap_small, ups_ap_cons, ups_ap_nil, upd_same, upd_other, env0_ap0, env0_aps, xt_a, xt_b, xt_c, -splice_eq, -stR_cells, stR_box, stR_boxA, stR_row, stR_row0, stR_row1, stR_rowA, stR_rowA0, splice_rowv, splice_rowv0, splice_rowv1, splice_z, splice_n, splice_s, nth_rowv, nth_rowv0, nth_rowv1, rowv_len, ia_23, ia_32, Y1, Y2, Y3, G2, hg, hk, hlt, hw, show (i : Int) < (ns.length : Int) - 1 by omega, hlt, hg, hg2, E1.blk, M2.blk]
      have hg2' : hp (w2.setRow g (rowv cur (i * 2) [.slice (some ⟨g2, 0, none⟩) x.store.length c2, .slice a3 x.wait.length c3]).toArray) g = some (.cells (rowv cur (i * 2) [.slice (some ⟨g2, 0, none⟩) x.store.length c2, .slice a3 x.wait.length c3]).toArray 36 (0, 0)) := (by first | assumption | rfl | (simp (maxSteps := 1000000) (disch := first | assumption | omega | (simp only [World.size_alloc, size_setRow, dw_size]; done) | (simp only [World.size_alloc, size_setRow, dw_size] <;> omega) | (simp only [List.length_set, Array.length_toList, List.length_cons, List.length_nil, List.length_append, bts_size] <;> omega) | (simp only [List.all_cons, List.all_nil, Value.oneCell', Bool.and_self, Bool.and_true]; done)) [-Option.bind_some, hp_alloc_lt, hp_alloc_eq, hp_set_ne, wrap_small, ups_ap_cons, ups_ap_nil, upd_same, upd_other, env0_ap0, env0_aps, xt_a, xt_b, xt_c, -splice_eq, -stR_cells, stR_box, stR_boxA, stR_row, stR_row0, stR_row1, stR_rowA, stR_rowA0, splice_rowv, splice_rowv0, splice_rowv1, splice_z, splice_n, splice_s, nth_rowv, nth_rowv0, nth_rowv1, rowv_len, G2, hg, hlt, hg, hg2, E1.blk, M2.blk]; done))
      have hvk : D tVer S1 (dw (w2.setRow g (rowv cur (i * 2) [.slice (some ⟨g2, 0, none⟩) x.store.length c2, .slice a3 x.wait.length c3]).toArray)) [i64 v.key, i64 v.tag.t, i64 v.tag.p, .slice av v.past.length cv, .string v.text, .bool v.gone] v := by
        refine hv.keep fun b hb hbl => ?_
        have q1 : b ≠ g := fun h => hd b hbl hb (h ▸ hSg)
        have q2 : ¬ Ss b := fun h => hd b hbl hb (hS2 b (hSs b h).1).1
        rw [hp_dw, hp_set_ne q1]
        exact (M2.blk b (by (try simp only [In, World.size_alloc, size_setRow, dw_size] at *); omega) q2).trans (by first | assumption | rfl | (simp (maxSteps := 1000000) (disch := first | assumption | omega | (simp only [World.size_alloc, size_setRow, dw_size]; done) | (simp only [World.size_alloc, size_setRow, dw_size] <;> omega) | (simp only [List.length_set, Array.length_toList, List.length_cons, List.length_nil, List.length_append, bts_size] <;> omega) | (simp only [List.all_cons, List.all_nil, Value.oneCell', Bool.and_self, Bool.and_true]; done)) [-Option.bind_some, hp_alloc_lt, hp_alloc_eq, hp_set_ne, wrap_small, ups_ap_cons, ups_ap_nil, upd_same, upd_other, env0_ap0, env0_aps, xt_a, xt_b, xt_c, hlt, hg, hg2, E1.blk, M2.blk]; done))
      refine Ret.bind (spec_l2Copy_n hvk) ?_
      rintro ⟨_, w3⟩ ⟨es, rfl, o5, E3⟩
      try dsimp only at es o5 E3
      have zE3 := E3.size
      try simp only [World.size_alloc, size_setRow, dw_size] at zE3
      have zds := O.ver.1 o5
      obtain ⟨ae, ce, rfl, _, _⟩ := zds
      have zE3 := E3.size
      simp only [World.size_alloc, size_setRow, dw_size] at zE3
      have hkw : ∀ b, b < w.heap.size → b ≠ g → ¬ Ss b → hp w3 b = hp w b := by
        intro b q1 q2 q3
        refine (E3.blk (by simp only [World.size_alloc, size_setRow, dw_size]; omega)).trans ?_
        rw [hp_dw, hp_set_ne q2]
        exact (M2.blk b (by (try simp only [In, World.size_alloc, size_setRow, dw_size] at *); omega) q3).trans (by first | assumption | rfl | (simp (maxSteps := 1000000) (disch := first | assumption | omega | (simp only [World.size_alloc, size_setRow, dw_size]; done) | (simp only [World.size_alloc, size_setRow, dw_size] <;> omega) | (simp only [List.length_set, Array.length_toList, List.length_cons, List.length_nil, List.length_append, bts_size] <;> omega) | (simp only [List.all_cons, List.all_nil, Value.oneCell', Bool.and_self, Bool.and_true]; done)) [-Option.bind_some, hp_alloc_lt, hp_alloc_eq, hp_set_ne, wrap_small, ups_ap_cons, ups_ap_nil, upd_same, upd_other, env0_ap0, env0_aps, xt_a, xt_b, xt_c, hlt, hg, hg2, E1.blk, M2.blk, E3.blk]; done))
      have hkn : ∀ b, b ≠ g → b < w2.heap.size → hp w3 b = hp w2 b := by
        intro b q1 q2
        refine (E3.blk (by simp only [World.size_alloc, size_setRow, dw_size]; omega)).trans ?_
        rw [hp_dw, hp_set_ne q1]
      have hg3 : hp w3 g = some (.cells (rowv cur (i * 2) [.slice (some ⟨g2, 0, none⟩) x.store.length c2, .slice a3 x.wait.length c3]).toArray 36 (0, 0)) := (E3.blk (by simp only [World.size_alloc, size_setRow, dw_size]; omega)).trans ((hp_dw _ _).trans hg2')
      simp (maxSteps := 1000000) (disch := first | assumption | omega | (simp only [World.size_alloc, size_setRow, dw_size]; done) | (simp only [World.size_alloc, size_setRow, dw_size] <;> omega) | (simp only [List.length_set, Array.length_toList, List.length_cons, List.length_nil, List.length_append, bts_size] <;> omega) | (simp only [List.all_cons, List.all_nil, Value.oneCell', Bool.and_self, Bool.and_true]; done)) [-Option.bind_some, hp_alloc_lt, hp_alloc_eq, hp_set_ne, wrap_small, ups_ap_cons, ups_ap_nil, upd_same, upd_other, env0_ap0, env0_aps, xt_a, xt_b, xt_c, -splice_eq, -stR_cells, stR_box, stR_boxA, stR_row, stR_row0, stR_row1, stR_rowA, stR_rowA0, splice_rowv, splice_rowv0, splice_rowv1, splice_z, splice_n, splice_s, nth_rowv, nth_rowv0, nth_rowv1, rowv_len, ia_23, ia_32, Y1, Y2, Y3, hg2', hg, hk, hlt, hw, hlt, hg, hg2, E1.blk, M2.blk, E3.blk, hg3]
      refine Ret.bind (O.app (L := tVer) (S := fun b => Sw b) (mx := 1954687338211) (xs := x.wait) (x := v) el_32 zz_45 rfl (by decide) (o3.keep ?_) (o5.keep (by intro b hS hb; (try dsimp only at hS); (try simp only [In, World.size_alloc, size_setRow, dw_size] at hS hb); first | rfl | (simp (disch := first | assumption | omega | (simp only [World.size_alloc, size_setRow, dw_size]; omega) | (simp only [World.size_alloc, size_setRow, dw_size, In]; omega)) only [E1.blk, M2.blk, E3.blk, hp_alloc_lt, hp_set_ne, hp_dw]; done))) ?_ At.new (by omega) (by decide) (by decide)) ?_
      · intro b hS hb
        rw [hp_alloc_lt (by omega)]
        exact hkw b hb (hS2 b (hSw b hS).1).2.1 (hSw b hS).2.1
      · intro b hb q1 q2
        have := (hSw b q1).2.2
        simp only [In, World.size_alloc, size_setRow, dw_size] at q2
        omega
      rintro ⟨_, w4⟩ ⟨a7, c7, rfl, o7, M7⟩
      have zM7 := M7.size
      try simp only [World.size_alloc, size_setRow, dw_size] at zM7
      try dsimp only at o7 M7
      have zM7 := M7.size
      simp only [World.size_alloc, size_setRow, dw_size] at zM7
      have nW : ∀ b, w.heap.size ≤ b → ¬ Sw b := fun b hb h => by have := (hSw b h).2.2; omega
      have hg4 : hp w4 g = some (.cells (rowv cur (i * 2) [.slice (some ⟨g2, 0, none⟩) x.store.length c2, .slice a3 x.wait.length c3]).toArray 36 (0, 0)) := (M7.blk g (by (try simp only [In, World.size_alloc, size_setRow, dw_size] at *); omega) (fun h => (hS2 g (hSw g h).1).2.1 rfl)).trans ((hp_alloc_lt (by omega)).trans hg3)
      have hk7 : ∀ b, b < w3.heap.size → ¬ Sw b → hp w4 b = hp w3 b := fun b q1 q2 => (M7.blk b (by (try simp only [In, World.size_alloc, size_setRow, dw_size] at *); omega) q2).trans (hp_alloc_lt q1)
      have Z1 : hp w4 w.heap.size = some (.cells #[.slice (some ⟨g, 0, none⟩) ns.length c] 25 (0, 0)) := (hk7 _ (by omega) (nW _ (by omega))).trans ((hkn _ (by omega) (by omega)).trans Y1)
      have Z3 : hp w4 (w.heap.size + 1 + 1) = some (.cells #[.slice none 0 0] 25 (0, 0)) := (hk7 _ (by omega) (nW _ (by omega))).trans ((hkn _ (by omega) (by omega)).trans Y3)
      simp (maxSteps := 1000000) (disch := first | assumption | omega | (simp only [World.size_alloc, size_setRow, dw_size]; done) | (simp only [World.size_alloc, size_setRow, dw_size] <;> omega) | (simp only [List.length_set, Array.length_toList, List.length_cons, List.length_nil, List.length_append, bts_size] <;> omega) | (simp only [List.all_cons, List.all_nil, Value.oneCell', Bool.and_self, Bool.and_true]; done)) [-Option.bind_some, hp_alloc_lt, hp_alloc_eq, hp_set_ne, wrap_small, ups_ap_cons, ups_ap_nil, upd_same, upd_other, env0_ap0, env0_aps, xt_a, xt_b, xt_c, -splice_eq, -stR_cells, stR_box, stR_boxA, stR_row, stR_row0, stR_row1, stR_rowA, stR_rowA0, splice_rowv, splice_rowv0, splice_rowv1, splice_z, splice_n, splice_s, nth_rowv, nth_rowv0, nth_rowv1, rowv_len, ia_23, ia_32, Z1, Z3, hg4, hk, hlt, hw, spec_l3Add_j1_eq, hlt, hg, hg2, E1.blk, M2.blk, E3.blk, hg3, M7.blk, hg4]
      have hns : decide (ns.length ≤ i + 1) = false := by simp only [decide_eq_false_iff_not]; omega
      rw [hns] at hQ
      have MB : Mod S w w3 := ((MA.set' (.inr hSg) _).dw').ex E3
      have MC : Mod S w w4 := Mod.after' (MB.al _) M7 (fun x _ h => (hS2 x (hSw x h).1).1)
      refine hQ _ ⟨rfl, (put _ _ (addNode x v false) _ (O.node_mk (v := addNode x v false) (o4.keep ?_) (o7.keep ?_) ?_) (by first | assumption | rfl | (simp (maxSteps := 1000000) (disch := first | assumption | omega | (simp only [World.size_alloc, size_setRow, dw_size]; done) | (simp only [World.size_alloc, size_setRow, dw_size] <;> omega) | (simp only [List.length_set, Array.length_toList, List.length_cons, List.length_nil, List.length_append, bts_size] <;> omega) | (simp only [List.all_cons, List.all_nil, Value.oneCell', Bool.and_self, Bool.and_true]; done)) [-Option.bind_some, hp_alloc_lt, hp_alloc_eq, hp_set_ne, wrap_small, ups_ap_cons, ups_ap_nil, upd_same, upd_other, env0_ap0, env0_aps, xt_a, xt_b, xt_c, -splice_eq, -stR_cells, stR_box, stR_boxA, stR_row, stR_row0, stR_row1, stR_rowA, stR_rowA0, splice_rowv, splice_rowv0, splice_rowv1, splice_z, splice_n, splice_s, nth_rowv, nth_rowv0, nth_rowv1, rowv_len, hg4, hlt, hg, hg2, E1.blk, M2.blk, E3.blk, hg3, M7.blk, hg4]; done)) ?_ ?_).wide ?_, (MC.set' (.inr hSg) _).set' (.inl (by omega)) _⟩
      · intro b hS hb
        have q1 : b ≠ g ∧ b ≠ w.heap.size + 1 + 1 ∧ ¬ Sw b := by
          rcases hS with h | h
          · have := hS2 b (hSs b h).1
            exact ⟨this.2.1, by omega, (hSs b h).2.1⟩
          · simp only [In, World.size_alloc, size_setRow, dw_size] at h
            exact ⟨by omega, by omega, nW b (by omega)⟩
        rw [hp_set_ne q1.2.1, hp_set_ne q1.1]
        exact (hk7 b (by omega) q1.2.2).trans (hkn b q1.1 hb)
      · intro b hS hb
        have q1 : b ≠ g ∧ b ≠ w.heap.size + 1 + 1 := by
          rcases hS with h | h
          · have := hS2 b (hSw b h).1
            exact ⟨this.2.1, by omega⟩
          · simp only [In, World.size_alloc, size_setRow, dw_size] at h
            omega
        rw [hp_set_ne q1.2, hp_set_ne q1.1]
      · intro b hb h1 h2
        simp only [In, World.size_alloc, size_setRow, dw_size] at h1 h2
        rcases h1 with h | h
        · have := hSs b h
          rcases h2 with k | k
          · exact this.2.1 k
          · omega
        · rcases h2 with k | k
          · exact nW b (by omega) k
          · omega
      · intro b hb hS hne hn
        have q2 : ¬ Ss b := fun h => hn (hSs b h).1
        have q3 : ¬ Sw b := fun h => hn (hSw b h).1
        rw [hp_set_ne (by omega), hp_set_ne hne]
        exact (hk7 b (by omega) q3).trans (hkw b hb hne q2)
      · intro b hb h
        simp only [In, World.size_alloc, size_setRow, dw_size] at h
        rcases h with (h | h) | (h | h)
        · exact .inl (hSs b h).1
        · exact .inr (by omega)
        · exact .inl (hSw b h).1
        · exact .inr (by omega)
      · intro b h hb
        simp only [In, World.size_alloc, size_setRow, dw_size] at h hb ⊢
        rcases h with h | (h | h) | (h | h)
        · exact .inl h
        · exact .inl (hS2 b (hSs b h).1).1
        · exact .inr (by omega)
        · exact .inl (hS2 b (hSw b h).1).1
        · exact .inr (by omega)
    · simp (maxSteps := 1000000) (disch := first | assumption | omega | (simp only [World.size_alloc, size_setRow, dw_size]; done) | (simp only [World.size_alloc, size_setRow, dw_size] <;> omega) | (simp only [List.length_set, Array.length_toList, List.length_cons, List.length_nil, List.length_append, bts_size] <;> omega) | (simp only [List.all_cons, List.all_nil, Value.oneCell', Bool.and_self, Bool.and_true]; done)) [-Option.bind_some, hp_alloc_lt, hp_alloc_eq, hp_set_ne, wrap_small, ups_ap_cons, ups_ap_nil, upd_same, upd_other, env0_ap0, env0_aps, xt_a, xt_b, xt_c, -splice_eq, -stR_cells, stR_box, stR_boxA, stR_row, stR_row0, stR_row1, stR_rowA, stR_rowA0, splice_rowv, splice_rowv0, splice_rowv1, splice_z, splice_n, splice_s, nth_rowv, nth_rowv0, nth_rowv1, rowv_len, ia_23, ia_32, Y1, Y2, Y3, G2, hg, hk, hlt, hw, spec_l3Add_j1_eq, show ¬ (i : Int) < (ns.length : Int) - 1 by omega, hlt, hg, hg2, E1.blk, M2.blk]
      have hns : decide (ns.length ≤ i + 1) = true := by simp only [decide_eq_true_eq]; omega
      rw [hns] at hQ
      refine hQ _ ⟨rfl, (put _ _ (addNode x v true) _ (O.node_mk (v := addNode x v true) (o4.keep ?_) (o3.keep ?_) ?_) (by first | assumption | rfl | (simp (maxSteps := 1000000) (disch := first | assumption | omega | (simp only [World.size_alloc, size_setRow, dw_size]; done) | (simp only [World.size_alloc, size_setRow, dw_size] <;> omega) | (simp only [List.length_set, Array.length_toList, List.length_cons, List.length_nil, List.length_append, bts_size] <;> omega) | (simp only [List.all_cons, List.all_nil, Value.oneCell', Bool.and_self, Bool.and_true]; done)) [-Option.bind_some, hp_alloc_lt, hp_alloc_eq, hp_set_ne, wrap_small, ups_ap_cons, ups_ap_nil, upd_same, upd_other, env0_ap0, env0_aps, xt_a, xt_b, xt_c, -splice_eq, -stR_cells, stR_box, stR_boxA, stR_row, stR_row0, stR_row1, stR_rowA, stR_rowA0, splice_rowv, splice_rowv0, splice_rowv1, splice_z, splice_n, splice_s, nth_rowv, nth_rowv0, nth_rowv1, rowv_len, G2, hg, hlt, hg, hg2, E1.blk, M2.blk]; done)) ?_ ?_).wide ?_, (MA.set' (.inr hSg) _).set' (.inl (by omega)) _⟩
      · intro b hS hb
        have q1 : b ≠ g ∧ b ≠ w.heap.size + 1 + 1 := by
          rcases hS with h | h
          · have := hS2 b (hSs b h).1
            exact ⟨this.2.1, by omega⟩
          · simp only [In, World.size_alloc, size_setRow, dw_size] at h
            omega
        rw [hp_set_ne q1.2, hp_set_ne q1.1]
      · intro b hS hb
        have q1 := hSw b hS
        rw [hp_set_ne (by omega), hp_set_ne (hS2 b q1.1).2.1]
        exact (M2.blk b (by (try simp only [In, World.size_alloc, size_setRow, dw_size] at *); omega) q1.2.1).trans (by first | assumption | rfl | (simp (maxSteps := 1000000) (disch := first | assumption | omega | (simp only [World.size_alloc, size_setRow, dw_size]; done) | (simp only [World.size_alloc, size_setRow, dw_size] <;> omega) | (simp only [List.length_set, Array.length_toList, List.length_cons, List.length_nil, List.length_append, bts_size] <;> omega) | (simp only [List.all_cons, List.all_nil, Value.oneCell', Bool.and_self, Bool.and_true]; done)) [-Option.bind_some, hp_alloc_lt, hp_alloc_eq, hp_set_ne, wrap_small, ups_ap_cons, ups_ap_nil, upd_same, upd_other, env0_ap0, env0_aps, xt_a, xt_b, xt_c, hlt, hg, hg2, E1.blk, M2.blk]; done))
      · intro b hb h1 h2
        have := hSw b h2
        simp only [In, World.size_alloc, size_setRow, dw_size] at h1
        rcases h1 with h | h
        · exact this.2.1 h
        · omega
      · intro b hb hS hne hn
        have q2 : ¬ Ss b := fun h => hn (hSs b h).1
        rw [hp_set_ne (by omega), hp_set_ne hne]
        exact (M2.blk b (by (try simp only [In, World.size_alloc, size_setRow, dw_size] at *); omega) q2).trans (by first | assumption | rfl | (simp (maxSteps := 1000000) (disch := first | assumption | omega | (simp only [World.size_alloc, size_setRow, dw_size]; done) | (simp only [World.size_alloc, size_setRow, dw_size] <;> omega) | (simp only [List.length_set, Array.length_toList, List.length_cons, List.length_nil, List.length_append, bts_size] <;> omega) | (simp only [List.all_cons, List.all_nil, Value.oneCell', Bool.and_self, Bool.and_true]; done)) [-Option.bind_some, hp_alloc_lt, hp_alloc_eq, hp_set_ne, wrap_small, ups_ap_cons, ups_ap_nil, upd_same, upd_other, env0_ap0, env0_aps, xt_a, xt_b, xt_c, hlt, hg, hg2, E1.blk, M2.blk]; done))
      · intro b hb h
        simp only [In, World.size_alloc, size_setRow, dw_size] at h
        rcases h with (h | h) | h
        · exact .inl (hSs b h).1
        · exact .inr (by omega)
        · exact .inl (hSw b h).1
      · intro b h hb
        simp only [In, World.size_alloc, size_setRow, dw_size] at h hb ⊢
        rcases h with h | (h | h) | h
        · exact .inl h
        · exact .inl (hS2 b (hSs b h).1).1
        · exact .inr (by omega)
        · exact .inl (hS2 b (hSw b h).1).1
end Go.Proofs.YthicfemhpnnaaaaGreat.X
set_option linter.unusedVariables false
set_option linter.unusedSimpArgs false
set_option maxRecDepth 100000
set_option maxHeartbeats 1000000
namespace Go.Proofs.YthicfemhpnnaaaaGreat.X
open Go Go.Ev Go.RowKit
theorem slices_Clip_Ver_m {a : Option Addr} {n c : Nat} {w : World} (h : n ≤ c) (hc : c ≤ 9223372036854775807) : Ret (EV P 75 #[.slice a n c] w) fun r => r = (.slice a n n, w) := by
  refine Ret.post fun Q hQ => ?_
  refine Ret.enter plain mixed (slices_Clip_Ver_fn _ _) (by kernel_rfl) (n := 1) (by kernel_rfl) rfl ?_
  simp (maxSteps := 1000000) (disch := first | assumption | omega | (simp only [World.size_alloc, size_setRow, dw_size]; done) | (simp only [World.size_alloc, size_setRow, dw_size] <;> omega) | (simp only [List.length_set, Array.length_toList, List.length_cons, List.length_nil, List.length_append, bts_size] <;> omega) | (simp only [List.all_cons, List.all_nil, Value.oneCell', Bool.and_self, Bool.and_true]; done)) [-Option.bind_some, hp_alloc_lt, hp_alloc_eq, hp_set_ne, wrap_small, ups_ap_cons, ups_ap_nil, upd_same, upd_other, env0_ap0, env0_aps, xt_a, xt_b, xt_c, -splice_eq, -stR_cells, stR_box, stR_boxA, stR_row, stR_row0, stR_row1, stR_rowA, stR_rowA0, splice_rowv, splice_rowv0, splice_rowv1, splice_z, splice_n, splice_s, nth_rowv, nth_rowv0, nth_rowv1, rowv_len, sl_hm (P := P) el_32]
  exact hQ _ rfl
theorem impl_Chain_apply_n {a : Option Addr} {c i g1 : Nat} {S S1 : Nat → Prop} {ns : List CNode} {cs : List Value} {v : Ver} {x : CNode} {w : World} (ho : O tNodes S w [.slice a ns.length c] ns) (X : hp w g1 = some (.cells #[.slice a ns.length c] 25 (0, 0))) (hg1 : ¬ S g1) (hv : D tVer S1 w cs v) (hd : ∀ b, b < w.heap.size → S1 b → ¬ S b)
    (hx : ns[i]? = some x) (h0 : 0 ≤ v.key) (h1 : v.key.toNat < x.store.length) (h6 : x.wait.length ≤ 1000000) (h4 : ns.length ≤ 1000000) :
    Ret (EV P 77 #[pt g1 0, i64 i, .agg cs.toArray] w) fun r => r.1 = .tuple #[] ∧ hp r.2 g1 = some (.cells #[.slice a ns.length c] 25 (0, 0)) ∧ O tNodes (fun b => S b ∨ In w.heap.size r.2.heap.size b) r.2 [.slice a ns.length c] (addAt ns i v) ∧ Mod S w r.2 := by
  have hm := ho.n
  have ho' := ho
  have y1 := hp_lt X
  obtain ⟨av, cv, rfl, hv1, hv2⟩ := D.ver.1 hv
  obtain ⟨u, hu, _⟩ := drop_at h1
  have hlt : i < ns.length := (List.getElem?_eq_some_iff.1 hx).1
  obtain ⟨g, cur, ds, S2, rfl, hSg, hgl, hg, hle, hx1, hS2, put⟩ := ho.row (by decide) hx
  obtain ⟨a2, c2, a3, c3, Ss, Sw, rfl, o2, o3, hSs, hSw⟩ := O.node_un hx1
  simp only [LNode_n] at hg hle put
  have o2' := o2
  obtain ⟨g2, cur2, ds2, S3, rfl, hSg2, hgl2, hg2, hle2, hx2, hS3, put2⟩ := o2.row (by decide) hu
  obtain ⟨au, cu, rfl, hu1, hu2⟩ := O.ver.1 hx2
  simp only [LVer_n] at hg2 hle2 put2
  have hk : v.key < x.store.length := by omega
  have hne : g2 ≠ g := (hS2 g2 (hSs g2 hSg2).1).2.1
  have hn1 : g1 ≠ g := fun h => hg1 (h ▸ hSg)
  have hn2 : g1 ≠ g2 := fun h => hg1 (h ▸ (hS2 g2 (hSs g2 hSg2).1).1)
  have nS : ∀ b, w.heap.size ≤ b → ¬ Ss b := fun b hb h => by have := (hSs b h).2.2; omega
  have nW : ∀ b, w.heap.size ≤ b → ¬ Sw b := fun b hb h => by have := (hSw b h).2.2; omega
  refine Ret.post fun Q hQ => ?_
  refine Ret.enter plain mixed (impl_Chain_apply_fn _ _ _ _) (by kernel_rfl) (n := 3) (by kernel_rfl) rfl ?_
  simp (maxSteps := 1000000) (disch := first | assumption | omega | (simp only [World.size_alloc, size_setRow, dw_size]; done) | (simp only [World.size_alloc, size_setRow, dw_size] <;> omega) | (simp only [List.length_set, Array.length_toList, List.length_cons, List.length_nil, List.length_append, bts_size] <;> omega) | (simp only [List.all_cons, List.all_nil, Value.oneCell', Bool.and_self, Bool.and_true]; done)) [-Option.bind_some, hp_alloc_lt, hp_alloc_eq, hp_set_ne, wrap_small, ups_ap_cons, ups_ap_nil, upd_same, upd_other, env0_ap0, env0_aps, xt_a, xt_b, xt_c, -splice_eq, -stR_cells, stR_box, stR_boxA, stR_row, stR_row0, stR_row1, stR_rowA, stR_rowA0, splice_rowv, splice_rowv0, splice_rowv1, splice_z, splice_n, splice_s, nth_rowv, nth_rowv0, nth_rowv1, rowv_len, nk_ptr, X, ia_23, hg, hlt, hlt, hg, hg2]
  refine Ret.bind (impl_Store_later_n (o2'.d.ext (by (repeat (first | exact Ext.rfl | assumption | (refine Ext.al ?_ _) | (refine Ext.dw ?_) | (refine Ext.set ?_ (by first | omega | (simp only [World.size_alloc, size_setRow, dw_size]; omega)) _) | (refine Ext.tr ?_ (by assumption)))))) (hv.ext (by (repeat (first | exact Ext.rfl | assumption | (refine Ext.al ?_ _) | (refine Ext.dw ?_) | (refine Ext.set ?_ (by first | omega | (simp only [World.size_alloc, size_setRow, dw_size]; omega)) _) | (refine Ext.tr ?_ (by assumption)))))) h0 hu) ?_
  rintro ⟨_, w1⟩ ⟨rfl, E1⟩
  try dsimp only at E1
  have zE1 := E1.size
  try simp only [World.size_alloc, size_setRow, dw_size] at zE1
  cases hl : tagLess u.tag v.tag
  · have e : addAt ns i v = ns := by rw [addAt, hx]; simp [hu, hl]
    rw [e] at hQ
    simp (maxSteps := 1000000) (disch := first | assumption | omega | (simp only [World.size_alloc, size_setRow, dw_size]; done) | (simp only [World.size_alloc, size_setRow, dw_size] <;> omega) | (simp only [List.length_set, Array.length_toList, List.length_cons, List.length_nil, List.length_append, bts_size] <;> omega) | (simp only [List.all_cons, List.all_nil, Value.oneCell', Bool.and_self, Bool.and_true]; done)) [-Option.bind_some, hp_alloc_lt, hp_alloc_eq, hp_set_ne, wrap_small, ups_ap_cons, ups_ap_nil, upd_same, upd_other, env0_ap0, env0_aps, xt_a, xt_b, xt_c, -splice_eq, -stR_cells, stR_box, stR_boxA, stR_row, stR_row0, stR_row1, stR_rowA, stR_rowA0, splice_rowv, splice_rowv0, splice_rowv1, splice_z, splice_n, splice_s, nth_rowv, nth_rowv0, nth_rowv1, rowv_len, hlt, hg, hg2, E1.blk]
    exact hQ _ ⟨rfl, (by first | assumption | rfl | (simp (maxSteps := 1000000) (disch := first | assumption | omega | (simp only [World.size_alloc, size_setRow, dw_size]; done) | (simp only [World.size_alloc, size_setRow, dw_size] <;> omega) | (simp only [List.length_set, Array.length_toList, List.length_cons, List.length_nil, List.length_append, bts_size] <;> omega) | (simp only [List.all_cons, List.all_nil, Value.oneCell', Bool.and_self, Bool.and_true]; done)) [-Option.bind_some, hp_alloc_lt, hp_alloc_eq, hp_set_ne, wrap_small, ups_ap_cons, ups_ap_nil, upd_same, upd_other, env0_ap0, env0_aps, xt_a, xt_b, xt_c, -splice_eq, -stR_cells, stR_box, stR_boxA, stR_row, stR_row0, stR_row1, stR_rowA, stR_rowA0, splice_rowv, splice_rowv0, splice_rowv1, splice_z, splice_n, splice_s, nth_rowv, nth_rowv0, nth_rowv1, rowv_len, X, hlt, hg, hg2, E1.blk]; done)), (ho'.keep (by intro b hS hb; (try dsimp only at hS); (try simp only [In, World.size_alloc, size_setRow, dw_size] at hS hb); first | rfl | (simp (disch := first | assumption | omega | (simp only [World.size_alloc, size_setRow, dw_size]; omega) | (simp only [World.size_alloc, size_setRow, dw_size, In]; omega)) only [E1.blk, hp_alloc_lt, hp_set_ne, hp_dw]; done))).wide (fun b h _ => .inl h), by (repeat (first | exact Mod.rfl | assumption | (refine Mod.al ?_ _) | (refine Mod.dw' ?_) | (refine Mod.set' ?_ (by first | (left; omega) | (left; simp only [World.size_alloc, size_setRow, dw_size]; omega) | (right; assumption) | (right; simp; done)) _) | (refine Mod.ex ?_ (by assumption))))⟩
  · have e : addAt ns i v = ns.set i (addNode x v (decide (ns.length ≤ i + 1))) := by rw [addAt, hx]; simp [hu, hl]
    rw [e] at hQ
    simp (maxSteps := 1000000) (disch := first | assumption | omega | (simp only [World.size_alloc, size_setRow, dw_size]; done) | (simp only [World.size_alloc, size_setRow, dw_size] <;> omega) | (simp only [List.length_set, Array.length_toList, List.length_cons, List.length_nil, List.length_append, bts_size] <;> omega) | (simp only [List.all_cons, List.all_nil, Value.oneCell', Bool.and_self, Bool.and_true]; done)) [-Option.bind_some, hp_alloc_lt, hp_alloc_eq, hp_set_ne, wrap_small, ups_ap_cons, ups_ap_nil, upd_same, upd_other, env0_ap0, env0_aps, xt_a, xt_b, xt_c, -splice_eq, -stR_cells, stR_box, stR_boxA, stR_row, stR_row0, stR_row1, stR_rowA, stR_rowA0, splice_rowv, splice_rowv0, splice_rowv1, splice_z, splice_n, splice_s, nth_rowv, nth_rowv0, nth_rowv1, rowv_len, nk_ptr, X, ia_23, hg, hlt, hlt, hg, hg2, E1.blk]
    refine Ret.bind (impl_Ver_copied_n (hv.ext (by (repeat (first | exact Ext.rfl | assumption | (refine Ext.al ?_ _) | (refine Ext.dw ?_) | (refine Ext.set ?_ (by first | omega | (simp only [World.size_alloc, size_setRow, dw_size]; omega)) _) | (refine Ext.tr ?_ (by assumption))))))) ?_
    rintro ⟨_, w2⟩ ⟨es, rfl, o4, E2⟩
    try dsimp only at es o4 E2
    have zE2 := E2.size
    try simp only [World.size_alloc, size_setRow, dw_size] at zE2
    have zds := O.ver.1 o4
    obtain ⟨ae, ce, rfl, _, _⟩ := zds
    simp (maxSteps := 1000000) (disch := first | assumption | omega | (simp only [World.size_alloc, size_setRow, dw_size]; done) | (simp only [World.size_alloc, size_setRow, dw_size] <;> omega) | (simp only [List.length_set, Array.length_toList, List.length_cons, List.length_nil, List.length_append, bts_size] <;> omega) | (simp only [List.all_cons, List.all_nil, Value.oneCell', Bool.and_self, Bool.and_true]; done)) [-Option.bind_some, hp_alloc_lt, hp_alloc_eq, hp_set_ne, wrap_small, ups_ap_cons, ups_ap_nil, upd_same, upd_other, env0_ap0, env0_aps, xt_a, xt_b, xt_c, -splice_eq, -stR_cells, stR_box, stR_boxA, stR_row, stR_row0, stR_row1, stR_rowA, stR_rowA0, splice_rowv, splice_rowv0, splice_rowv1, splice_z, splice_n, splice_s, nth_rowv, nth_rowv0, nth_rowv1, rowv_len, nk_ptr, X, ia_23, ia_32, hg, hg2, hlt, hk, hlt, hg, hg2, E1.blk, E2.blk]
    obtain ⟨W2, hW2⟩ : ∃ W2 : World, W2 = w2.setRow g2 (rowv cur2 (v.key.toNat * 6) [i64 v.key, i64 v.tag.t, i64 v.tag.p, .slice ae v.past.length ce, .string v.text, .bool v.gone]).toArray := ⟨_, rfl⟩
    rw [← hW2]
    have F2 : Ext w w2 := by (repeat (first | exact Ext.rfl | assumption | (refine Ext.al ?_ _) | (refine Ext.dw ?_) | (refine Ext.set ?_ (by first | omega | (simp only [World.size_alloc, size_setRow, dw_size]; omega)) _) | (refine Ext.tr ?_ (by assumption))))
    have zF2 := F2.size
    have sW : W2.heap.size = w2.heap.size := by rw [hW2, size_setRow]
    have kW : ∀ b, b ≠ g2 → hp W2 b = hp w2 b := fun b q => by rw [hW2, hp_set_ne q]
    have gW : hp W2 g2 = some (.cells (rowv cur2 (v.key.toNat * 6) [i64 v.key, i64 v.tag.t, i64 v.tag.p, .slice ae v.past.length ce, .string v.text, .bool v.gone]).toArray 45 (0, 0)) := by
      rw [hW2]
      exact (by first | assumption | rfl | (simp (maxSteps := 1000000) (disch := first | assumption | omega | (simp only [World.size_alloc, size_setRow, dw_size]; done) | (simp only [World.size_alloc, size_setRow, dw_size] <;> omega) | (simp only [List.length_set, Array.length_toList, List.length_cons, List.length_nil, List.length_append, bts_size] <;> omega) | (simp only [List.all_cons, List.all_nil, Value.oneCell', Bool.and_self, Bool.and_true]; done)) [-Option.bind_some, hp_alloc_lt, hp_alloc_eq, hp_set_ne, wrap_small, ups_ap_cons, ups_ap_nil, upd_same, upd_other, env0_ap0, env0_aps, xt_a, xt_b, xt_c, -splice_eq, -stR_cells, stR_box, stR_boxA, stR_row, stR_row0, stR_row1, stR_rowA, stR_rowA0, splice_rowv, splice_rowv0, splice_rowv1, splice_z, splice_n, splice_s, nth_rowv, nth_rowv0, nth_rowv1, rowv_len, hg2, hlt, hg, hg2, E1.blk, E2.blk]; done))
    have MA : Mod S w W2 := by
      rw [hW2]
      exact (Mod.of F2 S).set' (.inr (hS2 g2 (hSs g2 hSg2).1).1) _
    have g2w : g2 < w.heap.size := hgl2
    have o5 := put2 W2 _ v (In (w.heap.size + 1) W2.heap.size) ((o4.keep (w' := W2) (fun b hS hb => kW b (by simp only [In, World.size_alloc, dw_size] at hS; omega))).wide (fun b h _ => by simp only [In, World.size_alloc, dw_size] at *; omega)) gW
      (fun b hb _ hne _ => (kW b hne).trans (F2.blk hb)) (fun b _ h => .inr fun k => by simp only [In] at h; omega)
    have hkw : ∀ b, b < w.heap.size → b ≠ g2 → hp W2 b = hp w b := fun b q1 q2 => (kW b q2).trans (F2.blk q1)
    have XW : hp W2 g1 = some (.cells #[.slice (some ⟨g, 0, none⟩) ns.length c] 25 (0, 0)) := (hkw g1 y1 hn2).trans X
    have gW' : hp W2 g = some (.cells (rowv cur (i * 2) [.slice (some ⟨g2, 0, none⟩) x.store.length c2, .slice a3 x.wait.length c3]).toArray 36 (0, 0)) := (hkw g hgl (Ne.symm hne)).trans hg
    have bW : hp W2 w.heap.size = some (.cells #[i64 v.key, i64 v.tag.t, i64 v.tag.p, .slice av v.past.length cv, .string v.text, .bool v.gone] 45 (0, 0)) := by
      refine (kW _ (by omega)).trans ?_
      exact (by first | assumption | rfl | (simp (maxSteps := 1000000) (disch := first | assumption | omega | (simp only [World.size_alloc, size_setRow, dw_size]; done) | (simp only [World.size_alloc, size_setRow, dw_size] <;> omega) | (simp only [List.length_set, Array.length_toList, List.length_cons, List.length_nil, List.length_append, bts_size] <;> omega) | (simp only [List.all_cons, List.all_nil, Value.oneCell', Bool.and_self, Bool.and_true]; done)) [-Option.bind_some, hp_alloc_lt, hp_alloc_eq, hp_set_ne, wrap_small, ups_ap_cons, ups_ap_nil, upd_same, upd_other, env0_ap0, env0_aps, xt_a, xt_b, xt_c, -splice_eq, -stR_cells, stR_box, stR_boxA, stR_row, stR_row0, stR_row1, stR_rowA, stR_rowA0, splice_rowv, splice_rowv0, splice_rowv1, splice_z, splice_n, splice_s, nth_rowv, nth_rowv0, nth_rowv1, rowv_len, hlt, hg, hg2, E1.blk, E2.blk]; done))
    have hvW : D tVer S1 W2 [i64 v.key, i64 v.tag.t, i64 v.tag.p, .slice av v.past.length cv, .string v.text, .bool v.gone] v := hv.keep fun b hb hbl => hkw b hbl (fun h => hd b hbl hb (h ▸ (hS2 g2 (hSs g2 hSg2).1).1))
    have o3W : O tVers Sw W2 [.slice a3 x.wait.length c3] x.wait := o3.keep fun b hb hbl => hkw b hbl (fun h => (hSw b hb).2.1 (h ▸ hSg2))
    clear hW2
    refine Ret.bind (impl_Chain_last_m (by omega) (by omega)) ?_
    rintro ⟨_, w3⟩ ⟨rfl, E3⟩
    try dsimp only at E3
    have zE3 := E3.size
    try simp only [World.size_alloc, size_setRow, dw_size] at zE3
    by_cases hlast : i + 1 < ns.length
    · have hb : ((i : Int) == (ns.length : Int) - 1) = false := by rw [beq_eq_false_iff_ne]; omega
      have hns : decide (ns.length ≤ i + 1) = false := by simp only [decide_eq_false_iff_not]; omega
      rw [hns] at hQ
      simp (maxSteps := 1000000) (disch := first | assumption | omega | (simp only [World.size_alloc, size_setRow, dw_size]; done) | (simp only [World.size_alloc, size_setRow, dw_size] <;> omega) | (simp only [List.length_set, Array.length_toList, List.length_cons, List.length_nil, List.length_append, bts_size] <;> omega) | (simp only [List.all_cons, List.all_nil, Value.oneCell', Bool.and_self, Bool.and_true]; done)) [-Option.bind_some, hp_alloc_lt, hp_alloc_eq, hp_set_ne, wrap_small, ups_ap_cons, ups_ap_nil, upd_same, upd_other, env0_ap0, env0_aps, xt_a, xt_b, xt_c, -splice_eq, -stR_cells, stR_box, stR_boxA, stR_row, stR_row0, stR_row1, stR_rowA, stR_rowA0, splice_rowv, splice_rowv0, splice_rowv1, splice_z, splice_n, splice_s, nth_rowv, nth_rowv0, nth_rowv1, rowv_len, nk_ptr, hb, XW, gW', bW, hlt, hg, hg2, E1.blk, E2.blk, E3.blk]
      refine Ret.bind (impl_Ver_copied_n (hvW.ext (by (repeat (first | exact Ext.rfl | assumption | (refine Ext.al ?_ _) | (refine Ext.dw ?_) | (refine Ext.set ?_ (by first | omega | (simp only [World.size_alloc, size_setRow, dw_size]; omega)) _) | (refine Ext.tr ?_ (by assumption))))))) ?_
      rintro ⟨_, w4⟩ ⟨fs, rfl, o6, E4⟩
      try dsimp only at fs o6 E4
      have zE4 := E4.size
      try simp only [World.size_alloc, size_setRow, dw_size] at zE4
      have zfs := O.ver.1 o6
      obtain ⟨af, cf, rfl, _, _⟩ := zfs
      simp (maxSteps := 1000000) (disch := first | assumption | omega | (simp only [World.size_alloc, size_setRow, dw_size]; done) | (simp only [World.size_alloc, size_setRow, dw_size] <;> omega) | (simp only [List.length_set, Array.length_toList, List.length_cons, List.length_nil, List.length_append, bts_size] <;> omega) | (simp only [List.all_cons, List.all_nil, Value.oneCell', Bool.and_self, Bool.and_true]; done)) [-Option.bind_some, hp_alloc_lt, hp_alloc_eq, hp_set_ne, wrap_small, ups_ap_cons, ups_ap_nil, upd_same, upd_other, env0_ap0, env0_aps, xt_a, xt_b, xt_c, -splice_eq, -stR_cells, stR_box, stR_boxA, stR_row, stR_row0, stR_row1, stR_rowA, stR_rowA0, splice_rowv, splice_rowv0, splice_rowv1, splice_z, splice_n, splice_s, nth_rowv, nth_rowv0, nth_rowv1, rowv_len, nk_ptr, XW, gW', bW, hlt, hg, hg2, E1.blk, E2.blk, E3.blk, E4.blk]
      have FW : Ext W2 w4 := by (repeat (first | exact Ext.rfl | assumption | (refine Ext.al ?_ _) | (refine Ext.dw ?_) | (refine Ext.set ?_ (by first | omega | (simp only [World.size_alloc, size_setRow, dw_size]; omega)) _) | (refine Ext.tr ?_ (by assumption))))
      have zFW := FW.size
      refine Ret.bind (O.app (L := tVer) (S := fun b => Sw b) (mx := 1954687338211) (xs := x.wait) (x := v) el_32 zz_45 rfl (by decide) (o3W.keep (by intro b hS hb; (try dsimp only at hS); (try simp only [In, World.size_alloc, size_setRow, dw_size] at hS hb); first | rfl | (simp (disch := first | assumption | omega | (simp only [World.size_alloc, size_setRow, dw_size]; omega) | (simp only [World.size_alloc, size_setRow, dw_size, In]; omega)) only [E1.blk, E2.blk, E3.blk, E4.blk, hp_alloc_lt, hp_set_ne, hp_dw]; done))) (o6.keep (by intro b hS hb; (try dsimp only at hS); (try simp only [In, World.size_alloc, size_setRow, dw_size] at hS hb); first | rfl | (simp (disch := first | assumption | omega | (simp only [World.size_alloc, size_setRow, dw_size]; omega) | (simp only [World.size_alloc, size_setRow, dw_size, In]; omega)) only [E1.blk, E2.blk, E3.blk, E4.blk, hp_alloc_lt, hp_set_ne, hp_dw]; done))) ?_ At.new (by omega) (by decide) (by decide)) ?_
      · intro b hb q1 q2
        have := (hSw b q1).2.2
        simp only [In, World.size_alloc, size_setRow, dw_size] at q2
        omega
      rintro ⟨_, w5⟩ ⟨a7, c7, rfl, o7, M5⟩
      have zM5 := M5.size
      try simp only [World.size_alloc, size_setRow, dw_size] at zM5
      try dsimp only at o7 M5
      have zM5 := M5.size
      simp only [World.size_alloc, size_setRow, dw_size] at zM5
      obtain ⟨k1, k2, o8⟩ := o7.clip
      refine Ret.bind (slices_Clip_Ver_m k1 k2) ?_
      rintro _ rfl
      have hk5 : ∀ b, b < W2.heap.size → ¬ Sw b → hp w5 b = hp W2 b := fun b q1 q2 => (M5.blk b (by (try simp only [In, World.size_alloc, size_setRow, dw_size] at *); omega) q2).trans ((hp_alloc_lt (by omega)).trans (FW.blk q1))
      have g5 : hp w5 g = some (.cells (rowv cur (i * 2) [.slice (some ⟨g2, 0, none⟩) x.store.length c2, .slice a3 x.wait.length c3]).toArray 36 (0, 0)) := (hk5 g (by omega) (fun h => (hS2 g (hSw g h).1).2.1 rfl)).trans gW'
      have X5 : hp w5 g1 = some (.cells #[.slice (some ⟨g, 0, none⟩) ns.length c] 25 (0, 0)) := (hk5 g1 (by omega) (fun h => hg1 (hS2 g1 (hSw g1 h).1).1)).trans XW
      simp (maxSteps := 1000000) (disch := first | assumption | omega | (simp only [World.size_alloc, size_setRow, dw_size]; done) | (simp only [World.size_alloc, size_setRow, dw_size] <;> omega) | (simp only [List.length_set, Array.length_toList, List.length_cons, List.length_nil, List.length_append, bts_size] <;> omega) | (simp only [List.all_cons, List.all_nil, Value.oneCell', Bool.and_self, Bool.and_true]; done)) [-Option.bind_some, hp_alloc_lt, hp_alloc_eq, hp_set_ne, wrap_small, ups_ap_cons, ups_ap_nil, upd_same, upd_other, env0_ap0, env0_aps, xt_a, xt_b, xt_c, -splice_eq, -stR_cells, stR_box, stR_boxA, stR_row, stR_row0, stR_row1, stR_rowA, stR_rowA0, splice_rowv, splice_rowv0, splice_rowv1, splice_z, splice_n, splice_s, nth_rowv, nth_rowv0, nth_rowv1, rowv_len, nk_ptr, g5, hlt, hg, hg2, E1.blk, E2.blk, E3.blk, E4.blk, M5.blk, X5]
      have MC : Mod S w w5 := Mod.after' ((MA.ex FW).al _) M5 (fun x _ h => (hS2 x (hSw x h).1).1)
      refine hQ _ ⟨rfl, (hp_set_ne hn1).trans X5, (put _ _ (addNode x v false) _ (O.node_mk (v := addNode x v false) (o5.keep ?_) (o8.keep ?_) ?_) (by first | assumption | rfl | (simp (maxSteps := 1000000) (disch := first | assumption | omega | (simp only [World.size_alloc, size_setRow, dw_size]; done) | (simp only [World.size_alloc, size_setRow, dw_size] <;> omega) | (simp only [List.length_set, Array.length_toList, List.length_cons, List.length_nil, List.length_append, bts_size] <;> omega) | (simp only [List.all_cons, List.all_nil, Value.oneCell', Bool.and_self, Bool.and_true]; done)) [-Option.bind_some, hp_alloc_lt, hp_alloc_eq, hp_set_ne, wrap_small, ups_ap_cons, ups_ap_nil, upd_same, upd_other, env0_ap0, env0_aps, xt_a, xt_b, xt_c, -splice_eq, -stR_cells, stR_box, stR_boxA, stR_row, stR_row0, stR_row1, stR_rowA, stR_rowA0, splice_rowv, splice_rowv0, splice_rowv1, splice_z, splice_n, splice_s, nth_rowv, nth_rowv0, nth_rowv1, rowv_len, g5, hlt, hg, hg2, E1.blk, E2.blk, E3.blk, E4.blk, M5.blk, X5]; done)) ?_ ?_).wide ?_, MC.set' (.inr hSg) _⟩
      · intro b hS hb
        have q1 : b ≠ g ∧ ¬ Sw b := by
          rcases hS with h | h
          · exact ⟨(hS2 b (hSs b h).1).2.1, (hSs b h).2.1⟩
          · simp only [In] at h
            exact ⟨by omega, nW b (by omega)⟩
        rw [hp_set_ne q1.1]
        exact hk5 b hb q1.2
      · intro b hS hb
        have q1 : b ≠ g := by
          rcases hS with h | h
          · exact (hS2 b (hSw b h).1).2.1
          · simp only [In, World.size_alloc, size_setRow, dw_size] at h
            omega
        rw [hp_set_ne q1]
      · intro b hb h1 h2
        simp only [In, World.size_alloc, size_setRow, dw_size] at h1 h2
        rcases h1 with h | h
        · have := hSs b h
          rcases h2 with k | k
          · exact this.2.1 k
          · omega
        · rcases h2 with k | k
          · exact nW b (by omega) k
          · omega
      · intro b hb hS hne' hn
        have q2 : ¬ Ss b := fun h => hn (hSs b h).1
        have q3 : ¬ Sw b := fun h => hn (hSw b h).1
        rw [hp_set_ne hne']
        exact (hk5 b (by omega) q3).trans (hkw b hb (fun h => q2 (h ▸ hSg2)))
      · intro b hb h
        simp only [In, World.size_alloc, size_setRow, dw_size] at h
        rcases h with (h | h) | (h | h)
        · exact .inl (hSs b h).1
        · exact .inr (by omega)
        · exact .inl (hSw b h).1
        · exact .inr (by omega)
      · intro b h hb
        simp only [In, World.size_alloc, size_setRow, dw_size] at h hb ⊢
        rcases h with h | (h | h) | (h | h)
        · exact .inl h
        · exact .inl (hS2 b (hSs b h).1).1
        · exact .inr (by omega)
        · exact .inl (hS2 b (hSw b h).1).1
        · exact .inr (by omega)
    · have hb : ((i : Int) == (ns.length : Int) - 1) = true := by rw [beq_iff_eq]; omega
      have hns : decide (ns.length ≤ i + 1) = true := by simp only [decide_eq_true_eq]; omega
      rw [hns] at hQ
      simp (maxSteps := 1000000) (disch := first | assumption | omega | (simp only [World.size_alloc, size_setRow, dw_size]; done) | (simp only [World.size_alloc, size_setRow, dw_size] <;> omega) | (simp only [List.length_set, Array.length_toList, List.length_cons, List.length_nil, List.length_append, bts_size] <;> omega) | (simp only [List.all_cons, List.all_nil, Value.oneCell', Bool.and_self, Bool.and_true]; done)) [-Option.bind_some, hp_alloc_lt, hp_alloc_eq, hp_set_ne, wrap_small, ups_ap_cons, ups_ap_nil, upd_same, upd_other, env0_ap0, env0_aps, xt_a, xt_b, xt_c, -splice_eq, -stR_cells, stR_box, stR_boxA, stR_row, stR_row0, stR_row1, stR_rowA, stR_rowA0, splice_rowv, splice_rowv0, splice_rowv1, splice_z, splice_n, splice_s, nth_rowv, nth_rowv0, nth_rowv1, rowv_len, nk_ptr, hb, XW, gW', bW, hlt, hg, hg2, E1.blk, E2.blk, E3.blk]
      have zE3 := E3.size
      refine hQ _ ⟨rfl, (E3.blk (by omega)).trans XW, (put w3 _ (addNode x v true) _ (O.node_mk (v := addNode x v true) (o5.keep (by intro b hS hb; (try dsimp only at hS); (try simp only [In, World.size_alloc, size_setRow, dw_size] at hS hb); first | rfl | (simp (disch := first | assumption | omega | (simp only [World.size_alloc, size_setRow, dw_size]; omega) | (simp only [World.size_alloc, size_setRow, dw_size, In]; omega)) only [E1.blk, E2.blk, E3.blk, hp_alloc_lt, hp_set_ne, hp_dw]; done))) (o3W.keep (by intro b hS hb; (try dsimp only at hS); (try simp only [In, World.size_alloc, size_setRow, dw_size] at hS hb); first | rfl | (simp (disch := first | assumption | omega | (simp only [World.size_alloc, size_setRow, dw_size]; omega) | (simp only [World.size_alloc, size_setRow, dw_size, In]; omega)) only [E1.blk, E2.blk, E3.blk, hp_alloc_lt, hp_set_ne, hp_dw]; done))) ?_) ((E3.blk (by omega)).trans gW') ?_ ?_).wide ?_, MA.ex E3⟩
      · intro b hb h1 h2
        simp only [In] at h1
        rcases h1 with h | h
        · exact (hSs b h).2.1 h2
        · exact nW b (by omega) h2
      · intro b hb hS hne' hn
        have q2 : ¬ Ss b := fun h => hn (hSs b h).1
        exact (E3.blk (by omega)).trans (hkw b hb (fun h => q2 (h ▸ hSg2)))
      · intro b hb h
        simp only [In] at h
        rcases h with (h | h) | h
        · exact .inl (hSs b h).1
        · exact .inr (by omega)
        · exact .inl (hSw b h).1
      · intro b h hb
        simp only [In] at h hb ⊢
        rcases h with h | (h | h) | h
        · exact .inl h
        · exact .inl (hS2 b (hSs b h).1).1
        · exact .inr (by omega)
        · exact .inl (hS2 b (hSw b h).1).1
end Go.Proofs.YthicfemhpnnaaaaGreat.X
set_option linter.unusedVariables false
set_option linter.unusedSimpArgs false
set_option maxRecDepth 100000
set_option maxHeartbeats 1000000
namespace Go.Proofs.YthicfemhpnnaaaaGreat.X
open Go Go.Ev Go.RowKit
theorem chainOk_head {ns : List CNode} (h : chainOk ns = true) : ∃ n, ns[0]? = some n ∧ nodeOk n = true ∧ 0 < ns.length ∧ ns.length ≤ 4 := by
  simp only [chainOk, lenOk, Bool.and_eq_true, decide_eq_true_eq, List.all_eq_true] at h
  obtain ⟨n, hn, _⟩ := drop_at (l := ns) (k := 0) (by omega)
  exact ⟨n, hn, h.1.2 n (List.mem_of_getElem? hn), by omega, by omega⟩
theorem addAt_length (ns : List CNode) (i : Nat) (v : Ver) : (addAt ns i v).length = ns.length := by
  unfold addAt
  split
  · split
    · split
      · rw [List.length_set]
      · rfl
    · rfl
  · rfl
theorem impl_Chain_full_m {a : Option Addr} {c g1 i : Nat} {S : Nat → Prop} {ns : List CNode} {x : CNode} {w : World} (hx : ns[i]? = some x) (ha : D tNodes S w [.slice a ns.length c] ns) (X : hp w g1 = some (.cells #[.slice a ns.length c] 25 (0, 0))) :
    Ret (EV P 74 #[pt g1 0, i64 i] w) fun r => r.1 = .bool (decide (6 ≤ x.wait.length)) ∧ Ext w r.2 := by
  have hm := ha.n
  have hlt : i < ns.length := (List.getElem?_eq_some_iff.1 hx).1
  have y1 := hp_lt X
  obtain ⟨b1, o1, cs1, rfl, A1, D1, _, l1⟩ := ha.at (by decide) hx
  obtain ⟨a2, c2, a3, c3, rfl, h2, h3⟩ := D.node.1 D1
  have p0 := A1 0 _ rfl
  have p1 := A1 1 _ rfl
  simp only [LVer_n, LTag_n, LNode_n, Nat.add_zero] at p0 p1
  refine Ret.post fun Q hQ => ?_
  refine Ret.enter plain mixed (impl_Chain_full_fn _ _ _) (by kernel_rfl) (n := 2) (by kernel_rfl) rfl ?_
  cases h6 : decide (6 ≤ x.wait.length)
  · rw [h6] at hQ
    simp only [decide_eq_false_iff_not] at h6
    simp (maxSteps := 1000000) (disch := first | assumption | omega | (simp only [World.size_alloc, size_setRow, dw_size]; done) | (simp only [World.size_alloc, size_setRow, dw_size] <;> omega) | (simp only [List.length_set, Array.length_toList, List.length_cons, List.length_nil, List.length_append, bts_size] <;> omega) | (simp only [List.all_cons, List.all_nil, Value.oneCell', Bool.and_self, Bool.and_true]; done)) [-Option.bind_some, hp_alloc_lt, hp_alloc_eq, hp_set_ne, wrap_small, ups_ap_cons, ups_ap_nil, upd_same, upd_other, env0_ap0, env0_aps, xt_a, xt_b, xt_c, -splice_eq, -stR_cells, stR_box, stR_boxA, stR_row, stR_row0, stR_row1, stR_rowA, stR_rowA0, splice_rowv, splice_rowv0, splice_rowv1, splice_z, splice_n, splice_s, nth_rowv, nth_rowv0, nth_rowv1, rowv_len, nk_ptr, X, ia_23, hlt, show ¬ (6 : Int) ≤ x.wait.length by omega, hlt, p0, p1]
    exact hQ _ ⟨rfl, by (repeat (first | exact Ext.rfl | assumption | (refine Ext.al ?_ _) | (refine Ext.dw ?_) | (refine Ext.set ?_ (by first | omega | (simp only [World.size_alloc, size_setRow, dw_size]; omega)) _) | (refine Ext.tr ?_ (by assumption))))⟩
  · rw [h6] at hQ
    simp only [decide_eq_true_eq] at h6
    simp (maxSteps := 1000000) (disch := first | assumption | omega | (simp only [World.size_alloc, size_setRow, dw_size]; done) | (simp only [World.size_alloc, size_setRow, dw_size] <;> omega) | (simp only [List.length_set, Array.length_toList, List.length_cons, List.length_nil, List.length_append, bts_size] <;> omega) | (simp only [List.all_cons, List.all_nil, Value.oneCell', Bool.and_self, Bool.and_true]; done)) [-Option.bind_some, hp_alloc_lt, hp_alloc_eq, hp_set_ne, wrap_small, ups_ap_cons, ups_ap_nil, upd_same, upd_other, env0_ap0, env0_aps, xt_a, xt_b, xt_c, -splice_eq, -stR_cells, stR_box, stR_boxA, stR_row, stR_row0, stR_row1, stR_rowA, stR_rowA0, splice_rowv, splice_rowv0, splice_rowv1, splice_z, splice_n, splice_s, nth_rowv, nth_rowv0, nth_rowv1, rowv_len, nk_ptr, X, ia_23, hlt, show (6 : Int) ≤ x.wait.length by omega, hlt, p0, p1]
    exact hQ _ ⟨rfl, by (repeat (first | exact Ext.rfl | assumption | (refine Ext.al ?_ _) | (refine Ext.dw ?_) | (refine Ext.set ?_ (by first | omega | (simp only [World.size_alloc, size_setRow, dw_size]; omega)) _) | (refine Ext.tr ?_ (by assumption))))⟩
end Go.Proofs.YthicfemhpnnaaaaGreat.X
set_option linter.unusedVariables false
set_option linter.unusedSimpArgs false
set_option maxRecDepth 100000
set_option maxHeartbeats 1000000
namespace Go.Proofs.YthicfemhpnnaaaaGreat.X
open Go Go.Ev Go.RowKit
def canPass (ns : List CNode) (i : Int) : Bool := (decide (0 ≤ i) && decide (i ≤ (ns.length : Int) - 2)) && (match ns[i.toNat]?, ns[i.toNat + 1]? with
  | some n, some m => decide (0 < n.wait.length) && decide (m.wait.length < 6)
  | _, _ => false)
theorem canPass_parts {ns : List CNode} {i : Int} (h : canPass ns i = true) : ∃ (k : Nat) (n m : CNode) (v : Ver) (l : List Ver), i = k ∧ k + 1 < ns.length ∧ ns[k]? = some n ∧ ns[k + 1]? = some m ∧ n.wait = v :: l ∧ m.wait.length < 6 := by
  simp only [canPass, Bool.and_eq_true, decide_eq_true_eq] at h
  obtain ⟨⟨h1, h2⟩, h3⟩ := h
  obtain ⟨k, rfl⟩ := Int.eq_ofNat_of_zero_le h1
  simp only [Int.toNat_natCast] at h3
  obtain ⟨n, hn, _⟩ := drop_at (l := ns) (k := k) (by omega)
  obtain ⟨m, hm, _⟩ := drop_at (l := ns) (k := k + 1) (by omega)
  rw [hn, hm] at h3
  simp only [Bool.and_eq_true, decide_eq_true_eq] at h3
  cases hw : n.wait with
  | nil => rw [hw] at h3; simp at h3
  | cons v l => exact ⟨k, n, m, v, l, rfl, by omega, hn, hm, hw, h3.2⟩
theorem spec_l3Can_m {a : Option Addr} {n c : Nat} {i : Int} {S : Nat → Prop} {ns : List CNode} (h4 : ns.length ≤ 1000000) {w : World} (ha : D tNodes S w [.slice a n c] ns) :
    Ret (EV P 33 #[.agg #[.slice a n c], i64 i] w) fun r => r.1 = .bool (canPass ns i) ∧ Ext w r.2 := by
  obtain ⟨rfl, hm, _⟩ := ha.n
  have hw : IntKind.i64.wrap ((ns.length : Int) - 2) = (ns.length : Int) - 2 := w64 (by omega) (by omega)
  refine Ret.post fun Q hQ => ?_
  refine Ret.enter plain mixed (spec_l3Can_fn _ _ _) (by kernel_rfl) (n := 2) (by kernel_rfl) rfl ?_
  simp (maxSteps := 1000000) (disch := first | assumption | omega | (simp only [World.size_alloc, size_setRow, dw_size]; done) | (simp only [World.size_alloc, size_setRow, dw_size] <;> omega) | (simp only [List.length_set, Array.length_toList, List.length_cons, List.length_nil, List.length_append, bts_size] <;> omega) | (simp only [List.all_cons, List.all_nil, Value.oneCell', Bool.and_self, Bool.and_true]; done)) [-Option.bind_some, hp_alloc_lt, hp_alloc_eq, hp_set_ne, wrap_small, ups_ap_cons, ups_ap_nil, upd_same, upd_other, env0_ap0, env0_aps, xt_a, xt_b, xt_c, -splice_eq, -stR_cells, stR_box, stR_boxA, stR_row, stR_row0, stR_row1, stR_rowA, stR_rowA0, splice_rowv, splice_rowv0, splice_rowv1, splice_z, splice_n, splice_s, nth_rowv, nth_rowv0, nth_rowv1, rowv_len, hw]
  refine Ret.bind (spec_l1In_c _ _ _ _) ?_
  rintro _ rfl
  cases hi : (decide (0 ≤ i) && decide (i ≤ (ns.length : Int) - 2))
  · have h1 : canPass ns i = false := by simp only [canPass, hi, Bool.false_and]
    rw [h1] at hQ
    simp (maxSteps := 1000000) (disch := first | assumption | omega | (simp only [World.size_alloc, size_setRow, dw_size]; done) | (simp only [World.size_alloc, size_setRow, dw_size] <;> omega) | (simp only [List.length_set, Array.length_toList, List.length_cons, List.length_nil, List.length_append, bts_size] <;> omega) | (simp only [List.all_cons, List.all_nil, Value.oneCell', Bool.and_self, Bool.and_true]; done)) [-Option.bind_some, hp_alloc_lt, hp_alloc_eq, hp_set_ne, wrap_small, ups_ap_cons, ups_ap_nil, upd_same, upd_other, env0_ap0, env0_aps, xt_a, xt_b, xt_c, -splice_eq, -stR_cells, stR_box, stR_boxA, stR_row, stR_row0, stR_row1, stR_rowA, stR_rowA0, splice_rowv, splice_rowv0, splice_rowv1, splice_z, splice_n, splice_s, nth_rowv, nth_rowv0, nth_rowv1, rowv_len, hi]
    exact hQ _ ⟨rfl, by (repeat (first | exact Ext.rfl | assumption | (refine Ext.al ?_ _) | (refine Ext.dw ?_) | (refine Ext.set ?_ (by first | omega | (simp only [World.size_alloc, size_setRow, dw_size]; omega)) _) | (refine Ext.tr ?_ (by assumption))))⟩
  have hi' := hi
  simp only [Bool.and_eq_true, decide_eq_true_eq] at hi'
  obtain ⟨k, rfl⟩ := Int.eq_ofNat_of_zero_le hi'.1
  obtain ⟨x, hx, _⟩ := drop_at (l := ns) (k := k) (by omega)
  obtain ⟨y, hy, _⟩ := drop_at (l := ns) (k := k + 1) (by omega)
  have h1 : canPass ns k = (decide (0 < x.wait.length) && decide (y.wait.length < 6)) := by simp only [canPass, hi, Int.toNat_natCast, hx, hy, Bool.true_and]
  rw [h1] at hQ
  obtain ⟨b1, o1, cs1, ha1, A1, D1, _, l1⟩ := ha.at (by decide) hx
  obtain ⟨b2, o2, cs2, ha2, A2, D2, _, l2⟩ := ha.at (by decide) hy
  subst ha1
  cases ha2
  obtain ⟨a2, c2, a3, c3, rfl, h2, h3⟩ := D.node.1 D1
  obtain ⟨a4, c4, a5, c5, rfl, h4, h5⟩ := D.node.1 D2
  have p0 := A1 0 _ rfl
  have p1 := A1 1 _ rfl
  simp only [LVer_n, LTag_n, LNode_n, Nat.add_zero] at p0 p1
  have q0 := A2 0 _ rfl
  have q1 := A2 1 _ rfl
  simp only [LVer_n, LTag_n, LNode_n, Nat.add_zero] at q0 q1
  cases hz : decide (0 < x.wait.length)
  · rw [hz] at hQ
    simp only [decide_eq_false_iff_not] at hz
    simp (maxSteps := 1000000) (disch := first | assumption | omega | (simp only [World.size_alloc, size_setRow, dw_size]; done) | (simp only [World.size_alloc, size_setRow, dw_size] <;> omega) | (simp only [List.length_set, Array.length_toList, List.length_cons, List.length_nil, List.length_append, bts_size] <;> omega) | (simp only [List.all_cons, List.all_nil, Value.oneCell', Bool.and_self, Bool.and_true]; done)) [-Option.bind_some, hp_alloc_lt, hp_alloc_eq, hp_set_ne, wrap_small, ups_ap_cons, ups_ap_nil, upd_same, upd_other, env0_ap0, env0_aps, xt_a, xt_b, xt_c, -splice_eq, -stR_cells, stR_box, stR_boxA, stR_row, stR_row0, stR_row1, stR_rowA, stR_rowA0, splice_rowv, splice_rowv0, splice_rowv1, splice_z, splice_n, splice_s, nth_rowv, nth_rowv0, nth_rowv1, rowv_len, hi, ia_23, show k < ns.length by omega, hz, p0, p1, q0, q1]
    exact hQ _ ⟨rfl, by (repeat (first | exact Ext.rfl | assumption | (refine Ext.al ?_ _) | (refine Ext.dw ?_) | (refine Ext.set ?_ (by first | omega | (simp only [World.size_alloc, size_setRow, dw_size]; omega)) _) | (refine Ext.tr ?_ (by assumption))))⟩
  · rw [hz] at hQ
    simp only [decide_eq_true_eq] at hz
    simp (maxSteps := 1000000) (disch := first | assumption | omega | (simp only [World.size_alloc, size_setRow, dw_size]; done) | (simp only [World.size_alloc, size_setRow, dw_size] <;> omega) | (simp only [List.length_set, Array.length_toList, List.length_cons, List.length_nil, List.length_append, bts_size] <;> omega) | (simp only [List.all_cons, List.all_nil, Value.oneCell', Bool.and_self, Bool.and_true]; done)) [-Option.bind_some, hp_alloc_lt, hp_alloc_eq, hp_set_ne, wrap_small, ups_ap_cons, ups_ap_nil, upd_same, upd_other, env0_ap0, env0_aps, xt_a, xt_b, xt_c, -splice_eq, -stR_cells, stR_box, stR_boxA, stR_row, stR_row0, stR_row1, stR_rowA, stR_rowA0, splice_rowv, splice_rowv0, splice_rowv1, splice_z, splice_n, splice_s, nth_rowv, nth_rowv0, nth_rowv1, rowv_len, hi, ia_23, show k < ns.length by omega, hz, show (k : Int) + 1 < ns.length by omega, show (0 : Int) ≤ (k : Int) + 1 by omega, show ((k : Int) + 1).toNat = k + 1 by omega, p0, p1, q0, q1]
    refine hQ _ ⟨?_, by (repeat (first | exact Ext.rfl | assumption | (refine Ext.al ?_ _) | (refine Ext.dw ?_) | (refine Ext.set ?_ (by first | omega | (simp only [World.size_alloc, size_setRow, dw_size]; omega)) _) | (refine Ext.tr ?_ (by assumption))))⟩
    show Value.bool _ = Value.bool _
    congr 1
    rw [Bool.eq_iff_iff]
    simp
    omega
theorem wtL_set {α : Type} {M : Mk α} : ∀ (l : List α) (k : Nat) (x : α), M.wtL (l.set k x) ≤ M.wtL l + M.wt x
  | [], k, x => by simp [Mk.wtL]
  | a :: l, 0, x => by simp only [List.set_cons_zero, Mk.wtL]; omega
  | a :: l, k + 1, x => by
    have := wtL_set (M := M) l k x
    simp only [List.set_cons_succ, Mk.wtL]
    omega
end Go.Proofs.YthicfemhpnnaaaaGreat.X
