/- A part of the proof: an evaluator of the model, its laws, and contracts of functions; no condition. -/
import Derived.Test.YthicfemhpnnaaaaS1
set_option linter.unusedVariables false
set_option linter.unusedSimpArgs false
set_option maxRecDepth 100000
set_option maxHeartbeats 1000000
namespace Go.Proofs.Ythicfemhpnnaaaa.X
open Go Go.Ev Go.RowKit
theorem laws_szNodeS_n {a : Option Addr} {c : Nat} {S : Nat → Prop} {xs : List CNode} {w0 : World} {n0 : Int} : ∀ (d k : Nat) (e : Env) (w : World) (m : Int), k + d = xs.length → e 0 = .slice a xs.length c → e 1 = i64 m → e 5 = i64 k → D tNodes S w0 [.slice a xs.length c] xs → Ext w0 w → 0 ≤ m → m ≤ 1048576 → m + (MNode.wtL (xs.take k) : Int) + (xs.length : Int) ≤ n0 + k →
    Ret (laws_szNodeS_l1 e w) fun r => ∃ m', r.1 = i64 m' ∧ -1 ≤ m' ∧ m' ≤ 1048576 ∧ (0 ≤ m' → m' + (MNode.wtL xs : Int) ≤ n0) ∧ Ext w0 r.2 := by
  intro d
  induction d with
  | zero =>
    intro k e w m hd e0 e1 e5 ha E0 h0 h1 h2
    have zE0 := E0.size
    try simp only [World.size_alloc, size_setRow, dw_size] at zE0
    rw [laws_szNodeS_l1_eq]
    obtain rfl : k = xs.length := by omega
    rw [List.take_length] at h2
    refine Ret.post fun Q hQ => ?_
    simp (disch := first | assumption | omega | (simp only [World.size_alloc, size_setRow, dw_size]; done) | (simp only [World.size_alloc, size_setRow, dw_size] <;> omega) | (simp only [List.length_set, Array.length_toList, List.length_cons, List.length_nil, List.length_append, bts_size] <;> omega) | (simp only [List.all_cons, List.all_nil, Value.oneCell', Bool.and_self, Bool.and_true]; done)) [-Option.bind_some, hp_alloc_lt, hp_alloc_eq, hp_set_ne, wrap_small, ups_ap_cons, ups_ap_nil, upd_same, upd_other, env0_ap0, env0_aps, xt_a, xt_b, xt_c, e0, e1, e5, e0, e1, e5, E0.blk]
    exact hQ _ ⟨m, rfl, by omega, h1, fun _ => by omega, E0⟩
  | succ d ih =>
    intro k e w m hd e0 e1 e5 ha E0 h0 h1 h2
    have zE0 := E0.size
    try simp only [World.size_alloc, size_setRow, dw_size] at zE0
    rw [laws_szNodeS_l1_eq]
    have hlt : k < xs.length := by omega
    obtain ⟨x, hx, _⟩ := drop_at hlt
    have hn := ha.n
    obtain ⟨b1, o1, cs1, rfl, A1, D1, _, l1⟩ := (ha.ext E0).at (by decide) hx
    obtain ⟨v0, v1, rfl⟩ := len2 D1.len
    have p0 := A1 0 _ rfl
    have p1 := A1 1 _ rfl
    simp only [LVer_n, LTag_n, LNode_n, Nat.add_zero] at p0 p1
    refine Ret.post fun Q hQ => ?_
    simp (disch := first | assumption | omega | (simp only [World.size_alloc, size_setRow, dw_size]; done) | (simp only [World.size_alloc, size_setRow, dw_size] <;> omega) | (simp only [List.length_set, Array.length_toList, List.length_cons, List.length_nil, List.length_append, bts_size] <;> omega) | (simp only [List.all_cons, List.all_nil, Value.oneCell', Bool.and_self, Bool.and_true]; done)) [-Option.bind_some, hp_alloc_lt, hp_alloc_eq, hp_set_ne, wrap_small, ups_ap_cons, ups_ap_nil, upd_same, upd_other, env0_ap0, env0_aps, xt_a, xt_b, xt_c, e0, e1, e5, hlt, ia_39, e0, e1, e5, E0.blk, hlt, p0, p1]
    refine Ret.bind (laws_szNode_m (n := m) (by omega) (by omega) (D1.ext (by (repeat (first | exact Ext.rfl | assumption | (refine Ext.al ?_ _) | (refine Ext.dw ?_) | (refine Ext.set ?_ (by first | omega | (simp only [World.size_alloc, size_setRow, dw_size]; omega)) _) | (refine Ext.tr ?_ (by assumption))))))) ?_
    rintro ⟨_, w1⟩ ⟨m1, rfl, b1, b2, b3, E1⟩
    try dsimp only at m1 b1 b2 b3 E1
    have zE1 := E1.size
    try simp only [World.size_alloc, size_setRow, dw_size] at zE1
    by_cases g1 : m1 < 0
    · simp (disch := first | assumption | omega | (simp only [World.size_alloc, size_setRow, dw_size]; done) | (simp only [World.size_alloc, size_setRow, dw_size] <;> omega) | (simp only [List.length_set, Array.length_toList, List.length_cons, List.length_nil, List.length_append, bts_size] <;> omega) | (simp only [List.all_cons, List.all_nil, Value.oneCell', Bool.and_self, Bool.and_true]; done)) [-Option.bind_some, hp_alloc_lt, hp_alloc_eq, hp_set_ne, wrap_small, ups_ap_cons, ups_ap_nil, upd_same, upd_other, env0_ap0, env0_aps, xt_a, xt_b, xt_c, g1, e0, e1, e5, E0.blk, hlt, p0, p1, E1.blk]
      exact hQ _ ⟨-1, rfl, by omega, by omega, by omega, by (repeat (first | exact Ext.rfl | assumption | (refine Ext.al ?_ _) | (refine Ext.dw ?_) | (refine Ext.set ?_ (by first | omega | (simp only [World.size_alloc, size_setRow, dw_size]; omega)) _) | (refine Ext.tr ?_ (by assumption))))⟩
    have k1 := b3 (by omega)
    have k2 : (MNode.wtL (xs.take (k + 1)) : Int) = MNode.wtL (xs.take k) + 1 + MNode.wt x := by
      rw [take_at hx]
      have : ∀ l : List CNode, MNode.wtL (l ++ [x]) = MNode.wtL l + 1 + MNode.wt x := by
        intro l
        induction l with
        | nil => simp only [List.nil_append, Mk.wtL]; omega
        | cons a l ih => simp only [List.cons_append, Mk.wtL, ih]; omega
      rw [this]; omega
    simp (disch := first | assumption | omega | (simp only [World.size_alloc, size_setRow, dw_size]; done) | (simp only [World.size_alloc, size_setRow, dw_size] <;> omega) | (simp only [List.length_set, Array.length_toList, List.length_cons, List.length_nil, List.length_append, bts_size] <;> omega) | (simp only [List.all_cons, List.all_nil, Value.oneCell', Bool.and_self, Bool.and_true]; done)) [-Option.bind_some, hp_alloc_lt, hp_alloc_eq, hp_set_ne, wrap_small, ups_ap_cons, ups_ap_nil, upd_same, upd_other, env0_ap0, env0_aps, xt_a, xt_b, xt_c, g1, e0, e1, e5, hlt, e0, e1, e5, E0.blk, hlt, p0, p1, E1.blk]
    refine Ret.mono (ih (k + 1) _ _ m1 (by omega) (by first | omega | assumption | rfl | exact congrArg i64 (by omega) | (simp; done) | (simp; omega)) (by first | omega | assumption | rfl | exact congrArg i64 (by omega) | (simp; done) | (simp; omega)) (by first | omega | assumption | rfl | exact congrArg i64 (by omega) | (simp; done) | (simp; omega)) ha (by (repeat (first | exact Ext.rfl | assumption | (refine Ext.al ?_ _) | (refine Ext.dw ?_) | (refine Ext.set ?_ (by first | omega | (simp only [World.size_alloc, size_setRow, dw_size]; omega)) _) | (refine Ext.tr ?_ (by assumption))))) (by omega) (by omega) (by omega)) hQ
theorem laws_szNodeS_m {n0 : Int} (h0 : -1 ≤ n0) (h1 : n0 ≤ 1048576) {S : Nat → Prop} {a : Option Addr} {n c : Nat} {xs : List CNode} {w : World} (ha : D tNodes S w [.slice a n c] xs) :
    Ret (EV P 62 #[.slice a n c, i64 n0] w) fun r => ∃ m, r.1 = i64 m ∧ -1 ≤ m ∧ m ≤ 1048576 ∧ (0 ≤ m → m + (MNode.wtL xs : Int) ≤ n0) ∧ Ext w r.2 := by
  obtain ⟨rfl, hm, _⟩ := ha.n
  refine Ret.post fun Q hQ => ?_
  refine Ret.enter plain mixed (laws_szNodeS_fn _ _ _) (by kernel_rfl) (n := 2) (by kernel_rfl) rfl ?_
  have hwr : IntKind.i64.wrap (n0 - xs.length) = n0 - xs.length := w64 (by omega) (by omega)
  by_cases g1 : n0 - (xs.length : Int) < 0
  · simp (disch := first | assumption | omega | (simp only [World.size_alloc, size_setRow, dw_size]; done) | (simp only [World.size_alloc, size_setRow, dw_size] <;> omega) | (simp only [List.length_set, Array.length_toList, List.length_cons, List.length_nil, List.length_append, bts_size] <;> omega) | (simp only [List.all_cons, List.all_nil, Value.oneCell', Bool.and_self, Bool.and_true]; done)) [-Option.bind_some, hp_alloc_lt, hp_alloc_eq, hp_set_ne, wrap_small, ups_ap_cons, ups_ap_nil, upd_same, upd_other, env0_ap0, env0_aps, xt_a, xt_b, xt_c, hwr, g1]
    exact hQ _ ⟨-1, rfl, by omega, by omega, by omega, by (repeat (first | exact Ext.rfl | assumption | (refine Ext.al ?_ _) | (refine Ext.dw ?_) | (refine Ext.set ?_ (by first | omega | (simp only [World.size_alloc, size_setRow, dw_size]; omega)) _) | (refine Ext.tr ?_ (by assumption))))⟩
  simp (disch := first | assumption | omega | (simp only [World.size_alloc, size_setRow, dw_size]; done) | (simp only [World.size_alloc, size_setRow, dw_size] <;> omega) | (simp only [List.length_set, Array.length_toList, List.length_cons, List.length_nil, List.length_append, bts_size] <;> omega) | (simp only [List.all_cons, List.all_nil, Value.oneCell', Bool.and_self, Bool.and_true]; done)) [-Option.bind_some, hp_alloc_lt, hp_alloc_eq, hp_set_ne, wrap_small, ups_ap_cons, ups_ap_nil, upd_same, upd_other, env0_ap0, env0_aps, xt_a, xt_b, xt_c, hwr, g1]
  refine Ret.mono (laws_szNodeS_n (n0 := n0) xs.length 0 _ w (n0 - xs.length) (by omega) rfl rfl rfl ha Ext.rfl (by omega) (by omega) ?_) hQ
  rw [List.take_zero]
  simp only [Mk.wtL]
  omega
theorem laws_toNodeS_n {a : Option Addr} {c g : Nat} {S : Nat → Prop} {xs : List CNode} {w0 : World} : ∀ (d k : Nat) (e : Env) (w : World), k + d = xs.length → e 0 = .slice a xs.length c → e 3 = .slice (some ⟨g, 0, none⟩) xs.length xs.length → e 4 = i64 k → D tNodes S w0 [.slice a xs.length c] xs → Ext w0 w →
    O tNodes (In w0.heap.size w.heap.size) w [.slice (some ⟨g, 0, none⟩) xs.length xs.length] (fillP xs ⟨[], []⟩ k) →
    Ret (laws_toNodeS_l1 e w) fun r => r.1 = .slice (some ⟨g, 0, none⟩) xs.length xs.length ∧ O tNodes (In w0.heap.size r.2.heap.size) r.2 [.slice (some ⟨g, 0, none⟩) xs.length xs.length] xs ∧ Ext w0 r.2 := by
  intro d
  induction d with
  | zero =>
    intro k e w hd e0 e3 e4 ha E0 ho
    have zE0 := E0.size
    try simp only [World.size_alloc, size_setRow, dw_size] at zE0
    rw [laws_toNodeS_l1_eq]
    obtain rfl : k = xs.length := by omega
    rw [fillP_end] at ho
    refine Ret.post fun Q hQ => ?_
    simp (disch := first | assumption | omega | (simp only [World.size_alloc, size_setRow, dw_size]; done) | (simp only [World.size_alloc, size_setRow, dw_size] <;> omega) | (simp only [List.length_set, Array.length_toList, List.length_cons, List.length_nil, List.length_append, bts_size] <;> omega) | (simp only [List.all_cons, List.all_nil, Value.oneCell', Bool.and_self, Bool.and_true]; done)) [-Option.bind_some, hp_alloc_lt, hp_alloc_eq, hp_set_ne, wrap_small, ups_ap_cons, ups_ap_nil, upd_same, upd_other, env0_ap0, env0_aps, xt_a, xt_b, xt_c, e0, e3, e4, e0, e3, e4, E0.blk]
    exact hQ _ ⟨rfl, ho, E0⟩
  | succ d ih =>
    intro k e w hd e0 e3 e4 ha E0 ho
    have zE0 := E0.size
    try simp only [World.size_alloc, size_setRow, dw_size] at zE0
    rw [laws_toNodeS_l1_eq]
    have hlt : k < xs.length := by omega
    obtain ⟨x, hx, _⟩ := drop_at hlt
    have hn := ha.n
    obtain ⟨b1, o1, cs1, rfl, A1, D1, _, l1⟩ := (ha.ext E0).at (by decide) hx
    obtain ⟨v0, v1, rfl⟩ := len2 D1.len
    have p0 := A1 0 _ rfl
    have p1 := A1 1 _ rfl
    simp only [LVer_n, LTag_n, LNode_n, Nat.add_zero] at p0 p1
    obtain ⟨g', cur, ds, S2, hgg, hSg, hgl, hg, hle, hx1, hS2, put⟩ := ho.row (by decide) (fillP_get hlt)
    simp only [Option.some.injEq, Addr.mk.injEq, and_true] at hgg
    subst hgg
    obtain ⟨u0, u1, rfl⟩ := len2 hx1.len
    simp only [LNode_n] at hg hle put
    simp only [In] at hSg
    refine Ret.post fun Q hQ => ?_
    simp (disch := first | assumption | omega | (simp only [World.size_alloc, size_setRow, dw_size]; done) | (simp only [World.size_alloc, size_setRow, dw_size] <;> omega) | (simp only [List.length_set, Array.length_toList, List.length_cons, List.length_nil, List.length_append, bts_size] <;> omega) | (simp only [List.all_cons, List.all_nil, Value.oneCell', Bool.and_self, Bool.and_true]; done)) [-Option.bind_some, hp_alloc_lt, hp_alloc_eq, hp_set_ne, wrap_small, ups_ap_cons, ups_ap_nil, upd_same, upd_other, env0_ap0, env0_aps, xt_a, xt_b, xt_c, -splice_eq, -stR_cells, stR_box, stR_boxA, stR_row, stR_row0, stR_row1, stR_rowA, stR_rowA0, splice_rowv, splice_rowv0, splice_rowv1, splice_z, splice_n, splice_s, nth_rowv, nth_rowv0, nth_rowv1, rowv_len, e0, e3, e4, hlt, ia_39, ia_22, e0, e3, e4, E0.blk, hlt, p0, p1, hg]
    refine Ret.bind (laws_toNode_m (D1.ext (by (repeat (first | exact Ext.rfl | assumption | (refine Ext.al ?_ _) | (refine Ext.dw ?_) | (refine Ext.set ?_ (by first | omega | (simp only [World.size_alloc, size_setRow, dw_size]; omega)) _) | (refine Ext.tr ?_ (by assumption))))))) ?_
    rintro ⟨_, w1⟩ ⟨es, rfl, o2, E1⟩
    try dsimp only at es o2 E1
    have zE1 := E1.size
    try simp only [World.size_alloc, size_setRow, dw_size] at zE1
    have hone := o2.one
    obtain ⟨v0, v1, rfl⟩ := len2 o2.len
    simp (disch := first | assumption | omega | (simp only [World.size_alloc, size_setRow, dw_size]; done) | (simp only [World.size_alloc, size_setRow, dw_size] <;> omega) | (simp only [List.length_set, Array.length_toList, List.length_cons, List.length_nil, List.length_append, bts_size] <;> omega) | (simp only [List.all_cons, List.all_nil, Value.oneCell', Bool.and_self, Bool.and_true]; done)) [-Option.bind_some, hp_alloc_lt, hp_alloc_eq, hp_set_ne, wrap_small, ups_ap_cons, ups_ap_nil, upd_same, upd_other, env0_ap0, env0_aps, xt_a, xt_b, xt_c, -splice_eq, -stR_cells, stR_box, stR_boxA, stR_row, stR_row0, stR_row1, stR_rowA, stR_rowA0, splice_rowv, splice_rowv0, splice_rowv1, splice_z, splice_n, splice_s, nth_rowv, nth_rowv0, nth_rowv1, rowv_len, e0, e3, e4, hlt, ia_39, ia_22, e0, e3, e4, E0.blk, hlt, p0, p1, hg, E1.blk]
    refine Ret.mono (ih (k + 1) _ _ (by omega) (by first | omega | assumption | rfl | exact congrArg i64 (by omega) | (simp; done) | (simp; omega)) (by first | omega | assumption | rfl | exact congrArg i64 (by omega) | (simp; done) | (simp; omega)) (by first | omega | assumption | rfl | exact congrArg i64 (by omega) | (simp; done) | (simp; omega)) ha (by (repeat (first | exact Ext.rfl | assumption | (refine Ext.al ?_ _) | (refine Ext.dw ?_) | (refine Ext.set ?_ (by first | omega | (simp only [World.size_alloc, size_setRow, dw_size]; omega)) _) | (refine Ext.tr ?_ (by assumption))))) ?_) hQ
    rw [← fillP_set hx]
    exact (put _ _ x _ (o2.keep (by intro b hS hb; (try dsimp only at hS); (try simp only [In, World.size_alloc, size_setRow, dw_size] at hS hb); first | rfl | (simp (disch := first | assumption | omega | (simp only [World.size_alloc, size_setRow, dw_size]; omega) | (simp only [World.size_alloc, size_setRow, dw_size, In]; omega)) only [E0.blk, E1.blk, hp_alloc_lt, hp_set_ne, hp_dw]; done))) (by first | assumption | rfl | (simp (disch := first | assumption | omega | (simp only [World.size_alloc, size_setRow, dw_size]; done) | (simp only [World.size_alloc, size_setRow, dw_size] <;> omega) | (simp only [List.length_set, Array.length_toList, List.length_cons, List.length_nil, List.length_append, bts_size] <;> omega) | (simp only [List.all_cons, List.all_nil, Value.oneCell', Bool.and_self, Bool.and_true]; done)) [-Option.bind_some, hp_alloc_lt, hp_alloc_eq, hp_set_ne, wrap_small, ups_ap_cons, ups_ap_nil, upd_same, upd_other, env0_ap0, env0_aps, xt_a, xt_b, xt_c, -splice_eq, -stR_cells, stR_box, stR_boxA, stR_row, stR_row0, stR_row1, stR_rowA, stR_rowA0, splice_rowv, splice_rowv0, splice_rowv1, splice_z, splice_n, splice_s, nth_rowv, nth_rowv0, nth_rowv1, rowv_len, e0, e3, e4, E0.blk, hlt, p0, p1, hg, E1.blk]; done)) (by intro b _ _ _ _; first | rfl | (simp (disch := first | assumption | omega | (simp only [World.size_alloc, size_setRow, dw_size]; omega) | (simp only [World.size_alloc, size_setRow, dw_size, In]; omega)) only [E0.blk, E1.blk, hp_alloc_lt, hp_set_ne, hp_dw]; done)) (by intro b h1 h2; (try simp only [In, World.size_alloc, size_setRow, dw_size] at *); right; omega)).wide (by intro b h1 h2; (try dsimp only at h1); (try simp only [In, World.size_alloc, size_setRow, dw_size] at *); omega)
theorem laws_toNodeS_m {S : Nat → Prop} {a : Option Addr} {n c : Nat} {xs : List CNode} {w : World} (ha : D tNodes S w [.slice a n c] xs) :
    Ret (EV P 64 #[.slice a n c] w) fun r => ∃ a' c', r.1 = .slice a' xs.length c' ∧ O tNodes (In w.heap.size r.2.heap.size) r.2 [.slice a' xs.length c'] xs ∧ Ext w r.2 := by
  obtain ⟨rfl, hm, _⟩ := ha.n
  refine Ret.post fun Q hQ => ?_
  refine Ret.enter plain mixed (laws_toNodeS_fn _ _) (by kernel_rfl) (n := 1) (by kernel_rfl) rfl ?_
  simp (disch := first | assumption | omega | (simp only [World.size_alloc, size_setRow, dw_size]; done) | (simp only [World.size_alloc, size_setRow, dw_size] <;> omega) | (simp only [List.length_set, Array.length_toList, List.length_cons, List.length_nil, List.length_append, bts_size] <;> omega) | (simp only [List.all_cons, List.all_nil, Value.oneCell', Bool.and_self, Bool.and_true]; done)) [-Option.bind_some, hp_alloc_lt, hp_alloc_eq, hp_set_ne, wrap_small, ups_ap_cons, ups_ap_nil, upd_same, upd_other, env0_ap0, env0_aps, xt_a, xt_b, xt_c]
  refine Ret.bind (O.make el_22 zz_59 rfl (by decide) zero_Node hm (by decide) (by decide)) ?_
  rintro ⟨_, w1⟩ ⟨rfl, o1, z1, E1⟩
  have zE1 := E1.size
  try simp only [World.size_alloc, size_setRow, dw_size] at zE1
  try dsimp only at o1 z1 E1
  simp (disch := first | assumption | omega | (simp only [World.size_alloc, size_setRow, dw_size]; done) | (simp only [World.size_alloc, size_setRow, dw_size] <;> omega) | (simp only [List.length_set, Array.length_toList, List.length_cons, List.length_nil, List.length_append, bts_size] <;> omega) | (simp only [List.all_cons, List.all_nil, Value.oneCell', Bool.and_self, Bool.and_true]; done)) [-Option.bind_some, hp_alloc_lt, hp_alloc_eq, hp_set_ne, wrap_small, ups_ap_cons, ups_ap_nil, upd_same, upd_other, env0_ap0, env0_aps, xt_a, xt_b, xt_c, E1.blk]
  refine Ret.mono (laws_toNodeS_n xs.length 0 _ w1 (by omega) rfl rfl rfl ha E1 ?_) ?_
  · rw [fillP_zero]
    exact o1.wide (by intro b h1 h2; (try dsimp only at h1); (try simp only [In, World.size_alloc, size_setRow, dw_size] at *); omega)
  · rintro r ⟨h1, h2, h3⟩
    exact hQ _ ⟨_, _, h1, h2, h3⟩
theorem laws_eqNodeS_n {a b : Option Addr} {c d' : Nat} {S S' : Nat → Prop} {xs : List CNode} {w0 : World} : ∀ (d k : Nat) (e : Env) (w : World), k + d = xs.length → e 0 = .slice a xs.length c → e 1 = .slice b xs.length d' → e 5 = i64 k → D tNodes S w0 [.slice a xs.length c] xs → D tNodes S' w0 [.slice b xs.length d'] xs → Ext w0 w →
    Ret (laws_eqNodeS_l1 e w) fun r => r.1 = .bool true ∧ Ext w0 r.2 := by
  intro d
  induction d with
  | zero =>
    intro k e w hd e0 e1 e5 ha hb E0
    have zE0 := E0.size
    try simp only [World.size_alloc, size_setRow, dw_size] at zE0
    rw [laws_eqNodeS_l1_eq]
    obtain rfl : k = xs.length := by omega
    refine Ret.post fun Q hQ => ?_
    simp (disch := first | assumption | omega | (simp only [World.size_alloc, size_setRow, dw_size]; done) | (simp only [World.size_alloc, size_setRow, dw_size] <;> omega) | (simp only [List.length_set, Array.length_toList, List.length_cons, List.length_nil, List.length_append, bts_size] <;> omega) | (simp only [List.all_cons, List.all_nil, Value.oneCell', Bool.and_self, Bool.and_true]; done)) [-Option.bind_some, hp_alloc_lt, hp_alloc_eq, hp_set_ne, wrap_small, ups_ap_cons, ups_ap_nil, upd_same, upd_other, env0_ap0, env0_aps, xt_a, xt_b, xt_c, e0, e1, e5, e0, e1, e5, E0.blk]
    exact hQ _ ⟨rfl, E0⟩
  | succ d ih =>
    intro k e w hd e0 e1 e5 ha hb E0
    have zE0 := E0.size
    try simp only [World.size_alloc, size_setRow, dw_size] at zE0
    rw [laws_eqNodeS_l1_eq]
    have hlt : k < xs.length := by omega
    obtain ⟨x, hx, _⟩ := drop_at hlt
    have hn := ha.n
    obtain ⟨b1, o1, cs1, rfl, A1, D1, _, l1⟩ := (ha.ext E0).at (by decide) hx
    obtain ⟨v0, v1, rfl⟩ := len2 D1.len
    have p0 := A1 0 _ rfl
    have p1 := A1 1 _ rfl
    simp only [LVer_n, LTag_n, LNode_n, Nat.add_zero] at p0 p1
    obtain ⟨b2, o2, cs2, rfl, A2, D2, _, l2⟩ := (hb.ext E0).at (by decide) hx
    obtain ⟨u0, u1, rfl⟩ := len2 D2.len
    have q0 := A2 0 _ rfl
    have q1 := A2 1 _ rfl
    simp only [LVer_n, LTag_n, LNode_n, Nat.add_zero] at q0 q1
    refine Ret.post fun Q hQ => ?_
    simp (disch := first | assumption | omega | (simp only [World.size_alloc, size_setRow, dw_size]; done) | (simp only [World.size_alloc, size_setRow, dw_size] <;> omega) | (simp only [List.length_set, Array.length_toList, List.length_cons, List.length_nil, List.length_append, bts_size] <;> omega) | (simp only [List.all_cons, List.all_nil, Value.oneCell', Bool.and_self, Bool.and_true]; done)) [-Option.bind_some, hp_alloc_lt, hp_alloc_eq, hp_set_ne, wrap_small, ups_ap_cons, ups_ap_nil, upd_same, upd_other, env0_ap0, env0_aps, xt_a, xt_b, xt_c, e0, e1, e5, hlt, ia_22, e0, e1, e5, E0.blk, hlt, p0, p1, q0, q1]
    refine Ret.bind (laws_eqNode_m (D1.ext (by (repeat (first | exact Ext.rfl | assumption | (refine Ext.al ?_ _) | (refine Ext.dw ?_) | (refine Ext.set ?_ (by first | omega | (simp only [World.size_alloc, size_setRow, dw_size]; omega)) _) | (refine Ext.tr ?_ (by assumption)))))) (D2.ext (by (repeat (first | exact Ext.rfl | assumption | (refine Ext.al ?_ _) | (refine Ext.dw ?_) | (refine Ext.set ?_ (by first | omega | (simp only [World.size_alloc, size_setRow, dw_size]; omega)) _) | (refine Ext.tr ?_ (by assumption))))))) ?_
    rintro ⟨_, w1⟩ ⟨rfl, E1⟩
    try dsimp only at E1
    have zE1 := E1.size
    try simp only [World.size_alloc, size_setRow, dw_size] at zE1
    simp (disch := first | assumption | omega | (simp only [World.size_alloc, size_setRow, dw_size]; done) | (simp only [World.size_alloc, size_setRow, dw_size] <;> omega) | (simp only [List.length_set, Array.length_toList, List.length_cons, List.length_nil, List.length_append, bts_size] <;> omega) | (simp only [List.all_cons, List.all_nil, Value.oneCell', Bool.and_self, Bool.and_true]; done)) [-Option.bind_some, hp_alloc_lt, hp_alloc_eq, hp_set_ne, wrap_small, ups_ap_cons, ups_ap_nil, upd_same, upd_other, env0_ap0, env0_aps, xt_a, xt_b, xt_c, e0, e1, e5, hlt, e0, e1, e5, E0.blk, hlt, p0, p1, q0, q1, E1.blk]
    exact Ret.mono (ih (k + 1) _ _ (by omega) (by first | omega | assumption | rfl | exact congrArg i64 (by omega) | (simp; done) | (simp; omega)) (by first | omega | assumption | rfl | exact congrArg i64 (by omega) | (simp; done) | (simp; omega)) (by first | omega | assumption | rfl | exact congrArg i64 (by omega) | (simp; done) | (simp; omega)) ha hb (by (repeat (first | exact Ext.rfl | assumption | (refine Ext.al ?_ _) | (refine Ext.dw ?_) | (refine Ext.set ?_ (by first | omega | (simp only [World.size_alloc, size_setRow, dw_size]; omega)) _) | (refine Ext.tr ?_ (by assumption)))))) hQ
theorem laws_eqNodeS_m {S S' : Nat → Prop} {a b : Option Addr} {n m c d : Nat} {xs : List CNode} {w : World} (ha : D tNodes S w [.slice a n c] xs) (hb : D tNodes S' w [.slice b m d] xs) : Ret (EV P 49 #[.slice a n c, .slice b m d] w) fun r => r.1 = .bool true ∧ Ext w r.2 := by
  obtain ⟨rfl, hm, _⟩ := ha.n
  obtain ⟨rfl, hm, _⟩ := hb.n
  refine Ret.post fun Q hQ => ?_
  refine Ret.enter plain mixed (laws_eqNodeS_fn _ _ _) (by kernel_rfl) (n := 2) (by kernel_rfl) rfl ?_
  simp (disch := first | assumption | omega | (simp only [World.size_alloc, size_setRow, dw_size]; done) | (simp only [World.size_alloc, size_setRow, dw_size] <;> omega) | (simp only [List.length_set, Array.length_toList, List.length_cons, List.length_nil, List.length_append, bts_size] <;> omega) | (simp only [List.all_cons, List.all_nil, Value.oneCell', Bool.and_self, Bool.and_true]; done)) [-Option.bind_some, hp_alloc_lt, hp_alloc_eq, hp_set_ne, wrap_small, ups_ap_cons, ups_ap_nil, upd_same, upd_other, env0_ap0, env0_aps, xt_a, xt_b, xt_c, bne_self_eq_false]
  exact Ret.mono (laws_eqNodeS_n xs.length 0 _ w (by omega) rfl rfl rfl ha hb Ext.rfl) hQ
theorem laws_szChain_m {n : Int} (h0 : -1 ≤ n) (h1 : n ≤ 1048576) {S : Nat → Prop} {cs : List Value} {x : List CNode} {w : World} (ha : D tNodes S w cs x) :
    Ret (EV P 22 #[.agg cs.toArray, i64 n] w) fun r => ∃ m, r.1 = i64 m ∧ -1 ≤ m ∧ m ≤ 1048576 ∧ (0 ≤ m → m + MChain.wt x ≤ n) ∧ Ext w r.2 := by
  obtain ⟨a, c, rfl, ha⟩ := ha.sl'
  refine Ret.post fun Q hQ => ?_
  refine Ret.enter plain mixed (laws_szChain_fn _ _ _) (by kernel_rfl) (n := 2) (by kernel_rfl) rfl ?_
  simp (disch := first | assumption | omega | (simp only [World.size_alloc, size_setRow, dw_size]; done) | (simp only [World.size_alloc, size_setRow, dw_size] <;> omega) | (simp only [List.length_set, Array.length_toList, List.length_cons, List.length_nil, List.length_append, bts_size] <;> omega) | (simp only [List.all_cons, List.all_nil, Value.oneCell', Bool.and_self, Bool.and_true]; done)) [-Option.bind_some, hp_alloc_lt, hp_alloc_eq, hp_set_ne, wrap_small, ups_ap_cons, ups_ap_nil, upd_same, upd_other, env0_ap0, env0_aps, xt_a, xt_b, xt_c]
  refine Ret.bind (laws_szNodeS_m h0 h1 (ha.ext (by (repeat (first | exact Ext.rfl | assumption | (refine Ext.al ?_ _) | (refine Ext.dw ?_) | (refine Ext.set ?_ (by first | omega | (simp only [World.size_alloc, size_setRow, dw_size]; omega)) _) | (refine Ext.tr ?_ (by assumption))))))) ?_
  rintro ⟨_, w1⟩ ⟨m1, rfl, b1, b2, b3, E1⟩
  try dsimp only at m1 b1 b2 b3 E1
  have zE1 := E1.size
  try simp only [World.size_alloc, size_setRow, dw_size] at zE1
  by_cases g1 : m1 < 0
  · simp (disch := first | assumption | omega | (simp only [World.size_alloc, size_setRow, dw_size]; done) | (simp only [World.size_alloc, size_setRow, dw_size] <;> omega) | (simp only [List.length_set, Array.length_toList, List.length_cons, List.length_nil, List.length_append, bts_size] <;> omega) | (simp only [List.all_cons, List.all_nil, Value.oneCell', Bool.and_self, Bool.and_true]; done)) [-Option.bind_some, hp_alloc_lt, hp_alloc_eq, hp_set_ne, wrap_small, ups_ap_cons, ups_ap_nil, upd_same, upd_other, env0_ap0, env0_aps, xt_a, xt_b, xt_c, g1, E1.blk]
    exact hQ _ ⟨-1, rfl, by omega, by omega, by omega, by (repeat (first | exact Ext.rfl | assumption | (refine Ext.al ?_ _) | (refine Ext.dw ?_) | (refine Ext.set ?_ (by first | omega | (simp only [World.size_alloc, size_setRow, dw_size]; omega)) _) | (refine Ext.tr ?_ (by assumption))))⟩
  simp (disch := first | assumption | omega | (simp only [World.size_alloc, size_setRow, dw_size]; done) | (simp only [World.size_alloc, size_setRow, dw_size] <;> omega) | (simp only [List.length_set, Array.length_toList, List.length_cons, List.length_nil, List.length_append, bts_size] <;> omega) | (simp only [List.all_cons, List.all_nil, Value.oneCell', Bool.and_self, Bool.and_true]; done)) [-Option.bind_some, hp_alloc_lt, hp_alloc_eq, hp_set_ne, wrap_small, ups_ap_cons, ups_ap_nil, upd_same, upd_other, env0_ap0, env0_aps, xt_a, xt_b, xt_c, g1, E1.blk]
  exact hQ _ ⟨m1, rfl, by omega, by omega, b3, by (repeat (first | exact Ext.rfl | assumption | (refine Ext.al ?_ _) | (refine Ext.dw ?_) | (refine Ext.set ?_ (by first | omega | (simp only [World.size_alloc, size_setRow, dw_size]; omega)) _) | (refine Ext.tr ?_ (by assumption))))⟩
theorem laws_toChain_m {S : Nat → Prop} {cs : List Value} {x : List CNode} {w : World} (ha : D tNodes S w cs x) :
    Ret (EV P 24 #[.agg cs.toArray] w) fun r => ∃ ds, r.1 = .agg ds.toArray ∧ O tNodes (In w.heap.size r.2.heap.size) r.2 ds x ∧ Ext w r.2 := by
  obtain ⟨a, c, rfl, ha⟩ := ha.sl'
  refine Ret.post fun Q hQ => ?_
  refine Ret.enter plain mixed (laws_toChain_fn _ _) (by kernel_rfl) (n := 1) (by kernel_rfl) rfl ?_
  simp (disch := first | assumption | omega | (simp only [World.size_alloc, size_setRow, dw_size]; done) | (simp only [World.size_alloc, size_setRow, dw_size] <;> omega) | (simp only [List.length_set, Array.length_toList, List.length_cons, List.length_nil, List.length_append, bts_size] <;> omega) | (simp only [List.all_cons, List.all_nil, Value.oneCell', Bool.and_self, Bool.and_true]; done)) [-Option.bind_some, hp_alloc_lt, hp_alloc_eq, hp_set_ne, wrap_small, ups_ap_cons, ups_ap_nil, upd_same, upd_other, env0_ap0, env0_aps, xt_a, xt_b, xt_c, -splice_eq, -stR_cells, stR_box, stR_boxA, stR_row, stR_row0, stR_row1, stR_rowA, stR_rowA0, splice_rowv, splice_rowv0, splice_rowv1, splice_z, splice_n, splice_s, nth_rowv, nth_rowv0, nth_rowv1, rowv_len]
  refine Ret.bind (laws_toNodeS_m (ha.ext (by (repeat (first | exact Ext.rfl | assumption | (refine Ext.al ?_ _) | (refine Ext.dw ?_) | (refine Ext.set ?_ (by first | omega | (simp only [World.size_alloc, size_setRow, dw_size]; omega)) _) | (refine Ext.tr ?_ (by assumption))))))) ?_
  rintro ⟨_, w1⟩ ⟨a1, c1, rfl, o1, E1⟩
  try dsimp only at a1 c1 o1 E1
  have zE1 := E1.size
  try simp only [World.size_alloc, size_setRow, dw_size] at zE1
  simp (disch := first | assumption | omega | (simp only [World.size_alloc, size_setRow, dw_size]; done) | (simp only [World.size_alloc, size_setRow, dw_size] <;> omega) | (simp only [List.length_set, Array.length_toList, List.length_cons, List.length_nil, List.length_append, bts_size] <;> omega) | (simp only [List.all_cons, List.all_nil, Value.oneCell', Bool.and_self, Bool.and_true]; done)) [-Option.bind_some, hp_alloc_lt, hp_alloc_eq, hp_set_ne, wrap_small, ups_ap_cons, ups_ap_nil, upd_same, upd_other, env0_ap0, env0_aps, xt_a, xt_b, xt_c, -splice_eq, -stR_cells, stR_box, stR_boxA, stR_row, stR_row0, stR_row1, stR_rowA, stR_rowA0, splice_rowv, splice_rowv0, splice_rowv1, splice_z, splice_n, splice_s, nth_rowv, nth_rowv0, nth_rowv1, rowv_len, E1.blk]
  exact hQ _ ⟨_, rfl, (o1.keep (by intro b hS hb; (try dsimp only at hS); (try simp only [In, World.size_alloc, size_setRow, dw_size] at hS hb); first | rfl | (simp (disch := first | assumption | omega | (simp only [World.size_alloc, size_setRow, dw_size]; omega) | (simp only [World.size_alloc, size_setRow, dw_size, In]; omega)) only [E1.blk, hp_alloc_lt, hp_set_ne, hp_dw]; done))).wide (by intro b h1 h2; (try dsimp only at h1); (try simp only [In, World.size_alloc, size_setRow, dw_size] at *); omega), by (repeat (first | exact Ext.rfl | assumption | (refine Ext.al ?_ _) | (refine Ext.dw ?_) | (refine Ext.set ?_ (by first | omega | (simp only [World.size_alloc, size_setRow, dw_size]; omega)) _) | (refine Ext.tr ?_ (by assumption))))⟩
theorem laws_eqChain_m {S S' : Nat → Prop} {cs ds : List Value} {x : List CNode} {w : World} (ha : D tNodes S w cs x) (hb : D tNodes S' w ds x) : Ret (EV P 13 #[.agg cs.toArray, .agg ds.toArray] w) fun r => r.1 = .bool true ∧ Ext w r.2 := by
  obtain ⟨a, c, rfl, ha⟩ := ha.sl'
  obtain ⟨b, d, rfl, hb⟩ := hb.sl'
  refine Ret.post fun Q hQ => ?_
  refine Ret.enter plain mixed (laws_eqChain_fn _ _ _) (by kernel_rfl) (n := 2) (by kernel_rfl) rfl ?_
  simp (disch := first | assumption | omega | (simp only [World.size_alloc, size_setRow, dw_size]; done) | (simp only [World.size_alloc, size_setRow, dw_size] <;> omega) | (simp only [List.length_set, Array.length_toList, List.length_cons, List.length_nil, List.length_append, bts_size] <;> omega) | (simp only [List.all_cons, List.all_nil, Value.oneCell', Bool.and_self, Bool.and_true]; done)) [-Option.bind_some, hp_alloc_lt, hp_alloc_eq, hp_set_ne, wrap_small, ups_ap_cons, ups_ap_nil, upd_same, upd_other, env0_ap0, env0_aps, xt_a, xt_b, xt_c]
  refine Ret.bind (laws_eqNodeS_m (ha.ext (by (repeat (first | exact Ext.rfl | assumption | (refine Ext.al ?_ _) | (refine Ext.dw ?_) | (refine Ext.set ?_ (by first | omega | (simp only [World.size_alloc, size_setRow, dw_size]; omega)) _) | (refine Ext.tr ?_ (by assumption)))))) (hb.ext (by (repeat (first | exact Ext.rfl | assumption | (refine Ext.al ?_ _) | (refine Ext.dw ?_) | (refine Ext.set ?_ (by first | omega | (simp only [World.size_alloc, size_setRow, dw_size]; omega)) _) | (refine Ext.tr ?_ (by assumption))))))) ?_
  rintro ⟨_, w1⟩ ⟨rfl, E1⟩
  try dsimp only at E1
  have zE1 := E1.size
  try simp only [World.size_alloc, size_setRow, dw_size] at zE1
  simp (disch := first | assumption | omega | (simp only [World.size_alloc, size_setRow, dw_size]; done) | (simp only [World.size_alloc, size_setRow, dw_size] <;> omega) | (simp only [List.length_set, Array.length_toList, List.length_cons, List.length_nil, List.length_append, bts_size] <;> omega) | (simp only [List.all_cons, List.all_nil, Value.oneCell', Bool.and_self, Bool.and_true]; done)) [-Option.bind_some, hp_alloc_lt, hp_alloc_eq, hp_set_ne, wrap_small, ups_ap_cons, ups_ap_nil, upd_same, upd_other, env0_ap0, env0_aps, xt_a, xt_b, xt_c, E1.blk]
  exact hQ _ ⟨rfl, by (repeat (first | exact Ext.rfl | assumption | (refine Ext.al ?_ _) | (refine Ext.dw ?_) | (refine Ext.set ?_ (by first | omega | (simp only [World.size_alloc, size_setRow, dw_size]; omega)) _) | (refine Ext.tr ?_ (by assumption))))⟩
theorem laws_markChain_m {S : Nat → Prop} {cs : List Value} {x : List CNode} {k : Int} (h0 : 0 ≤ k) (hk : k + 10 * MChain.wt x ≤ 100000000000000) {w : World} (ho : O tNodes S w cs x) :
    Ret (EV P 14 #[.agg cs.toArray, i64 k] w) fun r => r.1 = i64 (MChain.nx k x) ∧ O tNodes S r.2 cs (MChain.mk k x) ∧ Mod S w r.2 := by
  obtain ⟨a, c, rfl, ho⟩ := ho.sl'
  refine Ret.post fun Q hQ => ?_
  refine Ret.enter plain mixed (laws_markChain_fn _ _ _) (by kernel_rfl) (n := 2) (by kernel_rfl) rfl ?_
  simp (disch := first | assumption | omega | (simp only [World.size_alloc, size_setRow, dw_size]; done) | (simp only [World.size_alloc, size_setRow, dw_size] <;> omega) | (simp only [List.length_set, Array.length_toList, List.length_cons, List.length_nil, List.length_append, bts_size] <;> omega) | (simp only [List.all_cons, List.all_nil, Value.oneCell', Bool.and_self, Bool.and_true]; done)) [-Option.bind_some, hp_alloc_lt, hp_alloc_eq, hp_set_ne, wrap_small, ups_ap_cons, ups_ap_nil, upd_same, upd_other, env0_ap0, env0_aps, xt_a, xt_b, xt_c]
  refine Ret.bind (laws_markNodeS_m h0 hk (ho.ext (by (repeat (first | exact Ext.rfl | assumption | (refine Ext.al ?_ _) | (refine Ext.dw ?_) | (refine Ext.set ?_ (by first | omega | (simp only [World.size_alloc, size_setRow, dw_size]; omega)) _) | (refine Ext.tr ?_ (by assumption))))))) ?_
  rintro ⟨_, w1⟩ ⟨rfl, o1, M1⟩
  try dsimp only at o1 M1
  have zM1 := M1.size
  try simp only [World.size_alloc, size_setRow, dw_size] at zM1
  simp (disch := first | assumption | omega | (simp only [World.size_alloc, size_setRow, dw_size]; done) | (simp only [World.size_alloc, size_setRow, dw_size] <;> omega) | (simp only [List.length_set, Array.length_toList, List.length_cons, List.length_nil, List.length_append, bts_size] <;> omega) | (simp only [List.all_cons, List.all_nil, Value.oneCell', Bool.and_self, Bool.and_true]; done)) [-Option.bind_some, hp_alloc_lt, hp_alloc_eq, hp_set_ne, wrap_small, ups_ap_cons, ups_ap_nil, upd_same, upd_other, env0_ap0, env0_aps, xt_a, xt_b, xt_c, M1.blk]
  exact hQ _ ⟨rfl, o1, (Mod.of (S := S) (by (repeat (first | exact Ext.rfl | assumption | (refine Ext.al ?_ _) | (refine Ext.dw ?_) | (refine Ext.set ?_ (by first | omega | (simp only [World.size_alloc, size_setRow, dw_size]; omega)) _) | (refine Ext.tr ?_ (by assumption)))))).tr M1⟩
end Go.Proofs.Ythicfemhpnnaaaa.X
