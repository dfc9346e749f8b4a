/- A part of the proof: an evaluator of the model, its laws, and contracts of functions; no condition. -/
import Derived.Test.YthicfemhpnnaaaaG3
set_option linter.unusedVariables false
set_option linter.unusedSimpArgs false
set_option maxRecDepth 100000
set_option maxHeartbeats 1000000
namespace Go.Proofs.Ythicfemhpnnaaaa.X
open Go Go.Ev Go.RowKit
theorem spec_l2Copy_n {S : Nat → Prop} {cs : List Value} {v : Ver} {w : World} (ha : D tVer S w cs v) :
    Ret (EV P 118 #[.agg cs.toArray] w) fun r => ∃ ds, r.1 = .agg ds.toArray ∧ O tVer (In w.heap.size r.2.heap.size) r.2 ds v ∧ Ext w r.2 := by
  obtain ⟨a, c, rfl, h1, h2⟩ := D.ver.1 ha
  have hn := h1.n
  refine Ret.enter plain mixed (spec_l2Copy_fn _ _) (by kernel_rfl) (n := 1) (by kernel_rfl) rfl ?_
  simp (disch := first | assumption | omega | (simp only [World.size_alloc, size_setRow, dw_size]; done) | (simp only [World.size_alloc, size_setRow, dw_size] <;> omega) | (simp only [List.length_set, Array.length_toList, List.length_cons, List.length_nil, List.length_append, bts_size] <;> omega) | (simp only [List.all_cons, List.all_nil, Value.oneCell', Bool.and_self, Bool.and_true]; done)) [-Option.bind_some, hp_alloc_lt, hp_alloc_eq, hp_set_ne, wrap_small, ups_ap_cons, ups_ap_nil, upd_same, upd_other, env0_ap0, env0_aps, xt_a, xt_b, xt_c]
  refine Ret.bind (O.appD (L := LTag) (mx := 8796093021952) flat_tag el_33 zz_46 rfl (by decide) (O.empty (g := w.heap.size + 1 + 1) (by first | assumption | rfl | (simp (disch := first | assumption | omega | (simp only [World.size_alloc, size_setRow, dw_size]; done) | (simp only [World.size_alloc, size_setRow, dw_size] <;> omega) | (simp only [List.length_set, Array.length_toList, List.length_cons, List.length_nil, List.length_append, bts_size] <;> omega) | (simp only [List.all_cons, List.all_nil, Value.oneCell', Bool.and_self, Bool.and_true]; done)) [-Option.bind_some, hp_alloc_lt, hp_alloc_eq, hp_set_ne, wrap_small, ups_ap_cons, ups_ap_nil, upd_same, upd_other, env0_ap0, env0_aps, xt_a, xt_b, xt_c]; done))) (h1.ext (by (repeat (first | exact Ext.rfl | assumption | (refine Ext.al ?_ _) | (refine Ext.dw ?_) | (refine Ext.set ?_ (by first | omega | (simp only [World.size_alloc, size_setRow, dw_size]; omega)) _) | (refine Ext.tr ?_ (by assumption)))))) (by simp; omega) (by decide) (by decide)) ?_
  rintro ⟨_, w1⟩ ⟨a1, c1, rfl, o1, M1⟩
  have zM1 := M1.size
  try simp only [World.size_alloc, size_setRow, dw_size] at zM1
  dsimp only at o1 M1
  have zM1 := M1.size
  simp only [World.size_alloc, List.nil_append, List.length_nil, Nat.zero_add] at o1 zM1
  have X1 := M1.blk w.heap.size (by simp only [World.size_alloc]; omega) (by omega)
  have X2 := M1.blk (w.heap.size + 1) (by simp only [World.size_alloc]; omega) (by omega)
  simp (disch := first | assumption | omega | (simp only [World.size_alloc, size_setRow, dw_size]; done) | (simp only [World.size_alloc, size_setRow, dw_size] <;> omega) | (simp only [List.length_set, Array.length_toList, List.length_cons, List.length_nil, List.length_append, bts_size] <;> omega) | (simp only [List.all_cons, List.all_nil, Value.oneCell', Bool.and_self, Bool.and_true]; done)) [-Option.bind_some, hp_alloc_lt, hp_alloc_eq, hp_set_ne, wrap_small, ups_ap_cons, ups_ap_nil, upd_same, upd_other, env0_ap0, env0_aps, xt_a, xt_b, xt_c, M1.blk, X1, X2]
  refine ⟨(O.ver.2 ⟨a1, c1, rfl, o1.keep (by intro b hS hb; (try dsimp only at hS); (try simp only [In, World.size_alloc, size_setRow, dw_size] at hS hb); first | rfl | (simp (disch := first | assumption | omega | (simp only [World.size_alloc, size_setRow, dw_size]; omega) | (simp only [World.size_alloc, size_setRow, dw_size, In]; omega)) only [M1.blk, hp_alloc_lt, hp_set_ne, hp_dw]; done)), h2⟩).wide (by intro b h1 h2; (try dsimp only at h1); (try simp only [In, World.size_alloc, size_setRow, dw_size] at *); omega), ?_⟩
  exact Ext.set (Ext.set (Mod.after (a := w) (by (repeat (first | exact Ext.rfl | assumption | (refine Ext.al ?_ _) | (refine Ext.dw ?_) | (refine Ext.set ?_ (by first | omega | (simp only [World.size_alloc, size_setRow, dw_size]; omega)) _) | (refine Ext.tr ?_ (by assumption))))) M1 (by intro x hx h; omega)) (by omega) _) (by omega) _
theorem spec_l2CopyStore_n1 {a : Option Addr} {c g1 g2 g3 : Nat} {S : Nat → Prop} {xs : List Ver} {w0 : World} (h12 : g1 < g3) (h32 : g2 < g3) (h03 : w0.heap.size ≤ g1) (h02 : w0.heap.size ≤ g2) (hne : g1 ≠ g2) :
    ∀ (d k : Nat) (e : Env) (w : World) (a3 : Option Addr) (c3 : Nat) (sv : Value), k + d = xs.length → e 1 = pt g1 0 → e 2 = pt g2 0 → e 3 = pt g3 0 → e 4 = i64 k → hp w g1 = some (.cells #[.slice a xs.length c] 57 (0, 0)) → hp w g2 = some (.cells #[sv] 57 (0, 0)) → hp w g3 = some (.cells #[.slice a3 k c3] 57 (0, 0)) →
    D tVers S w0 [.slice a xs.length c] xs → Ext w0 w → O tVers (In (g3 + 1) w.heap.size) w [.slice a3 k c3] (xs.take k) →
    Ret (spec_l2CopyStore_l1 e w) fun r => ∃ a' c', r.1 = .agg #[.slice a' xs.length c'] ∧ O tVers (In (g3 + 1) r.2.heap.size) r.2 [.slice a' xs.length c'] xs ∧ Ext w0 r.2 := by
  intro d
  induction d with
  | zero =>
    intro k e w a3 c3 sv hd e1 e2 e3 e4 X1 X2 X3 ha E0 ho
    have zE0 := E0.size
    try simp only [World.size_alloc, size_setRow, dw_size] at zE0
    rw [spec_l2CopyStore_l1_eq]
    obtain rfl : k = xs.length := by omega
    rw [List.take_length] at ho
    simp (disch := first | assumption | omega | (simp only [World.size_alloc, size_setRow, dw_size]; done) | (simp only [World.size_alloc, size_setRow, dw_size] <;> omega) | (simp only [List.length_set, Array.length_toList, List.length_cons, List.length_nil, List.length_append, bts_size] <;> omega) | (simp only [List.all_cons, List.all_nil, Value.oneCell', Bool.and_self, Bool.and_true]; done)) [-Option.bind_some, hp_alloc_lt, hp_alloc_eq, hp_set_ne, wrap_small, ups_ap_cons, ups_ap_nil, upd_same, upd_other, env0_ap0, env0_aps, xt_a, xt_b, xt_c, e1, e2, e3, e4, X1, X2, X3, E0.blk]
    exact ⟨_, _, ⟨rfl, rfl⟩, ho.keep (by intro b hS hb; (try dsimp only at hS); (try simp only [In, World.size_alloc, size_setRow, dw_size] at hS hb); first | rfl | (simp (disch := first | assumption | omega | (simp only [World.size_alloc, size_setRow, dw_size]; omega) | (simp only [World.size_alloc, size_setRow, dw_size, In]; omega)) only [E0.blk, hp_alloc_lt, hp_set_ne, hp_dw]; done)), by (repeat (first | exact Ext.rfl | assumption | (refine Ext.al ?_ _) | (refine Ext.dw ?_) | (refine Ext.set ?_ (by first | omega | (simp only [World.size_alloc, size_setRow, dw_size]; omega)) _) | (refine Ext.tr ?_ (by assumption))))⟩
  | succ d ih =>
    intro k e w a3 c3 sv hd e1 e2 e3 e4 X1 X2 X3 ha E0 ho
    have zE0 := E0.size
    try simp only [World.size_alloc, size_setRow, dw_size] at zE0
    rw [spec_l2CopyStore_l1_eq]
    have hlt : k < xs.length := by omega
    obtain ⟨x, hx, _⟩ := drop_at hlt
    have hn := ha.n
    obtain ⟨b1, o1, cs1, rfl, A1, D1, _, l1⟩ := (ha.ext E0).at (by decide) hx
    obtain ⟨a2, c2, rfl, hp2, ht⟩ := D.ver.1 D1
    have p0 := A1 0 _ rfl
    have p1 := A1 1 _ rfl
    have p2 := A1 2 _ rfl
    have p3 := A1 3 _ rfl
    have p4 := A1 4 _ rfl
    have p5 := A1 5 _ rfl
    simp only [LVer_n, LTag_n, LNode_n, Nat.add_zero] at p0 p1 p2 p3 p4 p5
    have htk : (xs.take k).length = k := by rw [List.length_take]; omega
    have y1 := hp_lt X1
    have y2 := hp_lt X2
    have y3 := hp_lt X3
    simp (disch := first | assumption | omega | (simp only [World.size_alloc, size_setRow, dw_size]; done) | (simp only [World.size_alloc, size_setRow, dw_size] <;> omega) | (simp only [List.length_set, Array.length_toList, List.length_cons, List.length_nil, List.length_append, bts_size] <;> omega) | (simp only [List.all_cons, List.all_nil, Value.oneCell', Bool.and_self, Bool.and_true]; done)) [-Option.bind_some, hp_alloc_lt, hp_alloc_eq, hp_set_ne, wrap_small, ups_ap_cons, ups_ap_nil, upd_same, upd_other, env0_ap0, env0_aps, xt_a, xt_b, xt_c, ia_55, e1, e2, e3, e4, X1, X2, X3, E0.blk, hlt, p0, p1, p2, p3, p4, p5]
    refine Ret.bind (spec_l2Copy_n (D1.ext (by (repeat (first | exact Ext.rfl | assumption | (refine Ext.al ?_ _) | (refine Ext.dw ?_) | (refine Ext.set ?_ (by first | omega | (simp only [World.size_alloc, size_setRow, dw_size]; omega)) _) | (refine Ext.tr ?_ (by assumption))))))) ?_
    rintro ⟨_, w1⟩ ⟨ds, rfl, o2, E1⟩
    try dsimp only at ds o2 E1
    have zE1 := E1.size
    try simp only [World.size_alloc, size_setRow, dw_size] at zE1
    have zds := O.ver.1 o2
    obtain ⟨a4, c4, rfl, _, _⟩ := zds
    simp (disch := first | assumption | omega | (simp only [World.size_alloc, size_setRow, dw_size]; done) | (simp only [World.size_alloc, size_setRow, dw_size] <;> omega) | (simp only [List.length_set, Array.length_toList, List.length_cons, List.length_nil, List.length_append, bts_size] <;> omega) | (simp only [List.all_cons, List.all_nil, Value.oneCell', Bool.and_self, Bool.and_true]; done)) [-Option.bind_some, hp_alloc_lt, hp_alloc_eq, hp_set_ne, wrap_small, ups_ap_cons, ups_ap_nil, upd_same, upd_other, env0_ap0, env0_aps, xt_a, xt_b, xt_c, e1, e2, e3, e4, X1, X2, X3, E0.blk, hlt, p0, p1, p2, p3, p4, p5, E1.blk]
    refine Ret.bind (O.app (L := tVer) (mx := 1954687338211) el_55 zz_48 rfl (by decide) (ho.keep (by intro b hS hb; (try dsimp only at hS); (try simp only [In, World.size_alloc, size_setRow, dw_size] at hS hb); first | rfl | (simp (disch := first | assumption | omega | (simp only [World.size_alloc, size_setRow, dw_size]; omega) | (simp only [World.size_alloc, size_setRow, dw_size, In]; omega)) only [E0.blk, E1.blk, hp_alloc_lt, hp_set_ne, hp_dw]; done))) (o2.keep (by intro b hS hb; (try dsimp only at hS); (try simp only [In, World.size_alloc, size_setRow, dw_size] at hS hb); first | rfl | (simp (disch := first | assumption | omega | (simp only [World.size_alloc, size_setRow, dw_size]; omega) | (simp only [World.size_alloc, size_setRow, dw_size, In]; omega)) only [E0.blk, E1.blk, hp_alloc_lt, hp_set_ne, hp_dw]; done))) (by intro b hb h1 h2; simp only [In, World.size_alloc, size_setRow, dw_size] at *; omega) At.new (by omega) (by decide) (by decide)) ?_
    rintro ⟨_, w2⟩ ⟨a5, c5, rfl, o3, M2⟩
    have zM2 := M2.size
    try simp only [World.size_alloc, size_setRow, dw_size] at zM2
    try dsimp only at o3 M2
    have zM2 := M2.size
    simp only [World.size_alloc, size_setRow] at zM2
    rw [htk, ← take_at hx] at o3
    rw [htk]
    have Y1 : hp w2 g1 = hp w g1 := (M2.blk g1 (by simp only [World.size_alloc]; omega) (by simp only [In]; omega)).trans (by first | assumption | rfl | (simp (disch := first | assumption | omega | (simp only [World.size_alloc, size_setRow, dw_size]; done) | (simp only [World.size_alloc, size_setRow, dw_size] <;> omega) | (simp only [List.length_set, Array.length_toList, List.length_cons, List.length_nil, List.length_append, bts_size] <;> omega) | (simp only [List.all_cons, List.all_nil, Value.oneCell', Bool.and_self, Bool.and_true]; done)) [-Option.bind_some, hp_alloc_lt, hp_alloc_eq, hp_set_ne, wrap_small, ups_ap_cons, ups_ap_nil, upd_same, upd_other, env0_ap0, env0_aps, xt_a, xt_b, xt_c, e1, e2, e3, e4, X1, X2, X3, E0.blk, hlt, p0, p1, p2, p3, p4, p5, E1.blk, M2.blk]; done))
    have Y2 : hp w2 g2 = hp w g2 := (M2.blk g2 (by simp only [World.size_alloc]; omega) (by simp only [In]; omega)).trans (by first | assumption | rfl | (simp (disch := first | assumption | omega | (simp only [World.size_alloc, size_setRow, dw_size]; done) | (simp only [World.size_alloc, size_setRow, dw_size] <;> omega) | (simp only [List.length_set, Array.length_toList, List.length_cons, List.length_nil, List.length_append, bts_size] <;> omega) | (simp only [List.all_cons, List.all_nil, Value.oneCell', Bool.and_self, Bool.and_true]; done)) [-Option.bind_some, hp_alloc_lt, hp_alloc_eq, hp_set_ne, wrap_small, ups_ap_cons, ups_ap_nil, upd_same, upd_other, env0_ap0, env0_aps, xt_a, xt_b, xt_c, e1, e2, e3, e4, X1, X2, X3, E0.blk, hlt, p0, p1, p2, p3, p4, p5, E1.blk, M2.blk]; done))
    have Y3 : hp w2 g3 = hp w g3 := (M2.blk g3 (by simp only [World.size_alloc]; omega) (by simp only [In]; omega)).trans (by first | assumption | rfl | (simp (disch := first | assumption | omega | (simp only [World.size_alloc, size_setRow, dw_size]; done) | (simp only [World.size_alloc, size_setRow, dw_size] <;> omega) | (simp only [List.length_set, Array.length_toList, List.length_cons, List.length_nil, List.length_append, bts_size] <;> omega) | (simp only [List.all_cons, List.all_nil, Value.oneCell', Bool.and_self, Bool.and_true]; done)) [-Option.bind_some, hp_alloc_lt, hp_alloc_eq, hp_set_ne, wrap_small, ups_ap_cons, ups_ap_nil, upd_same, upd_other, env0_ap0, env0_aps, xt_a, xt_b, xt_c, e1, e2, e3, e4, X1, X2, X3, E0.blk, hlt, p0, p1, p2, p3, p4, p5, E1.blk, M2.blk]; done))
    simp (disch := first | assumption | omega | (simp only [World.size_alloc, size_setRow, dw_size]; done) | (simp only [World.size_alloc, size_setRow, dw_size] <;> omega) | (simp only [List.length_set, Array.length_toList, List.length_cons, List.length_nil, List.length_append, bts_size] <;> omega) | (simp only [List.all_cons, List.all_nil, Value.oneCell', Bool.and_self, Bool.and_true]; done)) [-Option.bind_some, hp_alloc_lt, hp_alloc_eq, hp_set_ne, wrap_small, ups_ap_cons, ups_ap_nil, upd_same, upd_other, env0_ap0, env0_aps, xt_a, xt_b, xt_c, Y3, e1, e2, e3, e4, X1, X2, X3, E0.blk, hlt, p0, p1, p2, p3, p4, p5, E1.blk, M2.blk]
    have E3 : Ext w0 w2 := Mod.after (E0.tr (by (repeat (first | exact Ext.rfl | assumption | (refine Ext.al ?_ _) | (refine Ext.dw ?_) | (refine Ext.set ?_ (by first | omega | (simp only [World.size_alloc, size_setRow, dw_size]; omega)) _) | (refine Ext.tr ?_ (by assumption)))))) M2 (by intro x hx h; simp only [In] at h; omega)
    have zE3 := E3.size
    try simp only [World.size_alloc, size_setRow, dw_size] at zE3
    refine Ret.mono (ih (k + 1) _ _ a5 c5 sv (by omega) (by first | omega | assumption | rfl | exact congrArg i64 (by omega) | (simp; done) | (simp; omega)) (by first | omega | assumption | rfl | exact congrArg i64 (by omega) | (simp; done) | (simp; omega)) (by first | omega | assumption | rfl | exact congrArg i64 (by omega) | (simp; done) | (simp; omega)) (by first | omega | assumption | rfl | exact congrArg i64 (by omega) | (simp; done) | (simp; omega)) (by first | assumption | rfl | (simp (disch := first | assumption | omega | (simp only [World.size_alloc, size_setRow, dw_size]; done) | (simp only [World.size_alloc, size_setRow, dw_size] <;> omega) | (simp only [List.length_set, Array.length_toList, List.length_cons, List.length_nil, List.length_append, bts_size] <;> omega) | (simp only [List.all_cons, List.all_nil, Value.oneCell', Bool.and_self, Bool.and_true]; done)) [-Option.bind_some, hp_alloc_lt, hp_alloc_eq, hp_set_ne, wrap_small, ups_ap_cons, ups_ap_nil, upd_same, upd_other, env0_ap0, env0_aps, xt_a, xt_b, xt_c, Y1, e1, e2, e3, e4, X1, X2, X3, E0.blk, hlt, p0, p1, p2, p3, p4, p5, E1.blk, M2.blk, E3.blk]; done)) (by first | assumption | rfl | (simp (disch := first | assumption | omega | (simp only [World.size_alloc, size_setRow, dw_size]; done) | (simp only [World.size_alloc, size_setRow, dw_size] <;> omega) | (simp only [List.length_set, Array.length_toList, List.length_cons, List.length_nil, List.length_append, bts_size] <;> omega) | (simp only [List.all_cons, List.all_nil, Value.oneCell', Bool.and_self, Bool.and_true]; done)) [-Option.bind_some, hp_alloc_lt, hp_alloc_eq, hp_set_ne, wrap_small, ups_ap_cons, ups_ap_nil, upd_same, upd_other, env0_ap0, env0_aps, xt_a, xt_b, xt_c, Y2, e1, e2, e3, e4, X1, X2, X3, E0.blk, hlt, p0, p1, p2, p3, p4, p5, E1.blk, M2.blk, E3.blk]; done)) (by first | assumption | rfl | (simp (disch := first | assumption | omega | (simp only [World.size_alloc, size_setRow, dw_size]; done) | (simp only [World.size_alloc, size_setRow, dw_size] <;> omega) | (simp only [List.length_set, Array.length_toList, List.length_cons, List.length_nil, List.length_append, bts_size] <;> omega) | (simp only [List.all_cons, List.all_nil, Value.oneCell', Bool.and_self, Bool.and_true]; done)) [-Option.bind_some, hp_alloc_lt, hp_alloc_eq, hp_set_ne, wrap_small, ups_ap_cons, ups_ap_nil, upd_same, upd_other, env0_ap0, env0_aps, xt_a, xt_b, xt_c, Y3, e1, e2, e3, e4, X1, X2, X3, E0.blk, hlt, p0, p1, p2, p3, p4, p5, E1.blk, M2.blk, E3.blk]; done)) ha (by (repeat (first | exact Ext.rfl | assumption | (refine Ext.al ?_ _) | (refine Ext.dw ?_) | (refine Ext.set ?_ (by first | omega | (simp only [World.size_alloc, size_setRow, dw_size]; omega)) _) | (refine Ext.tr ?_ (by assumption))))) (((o3.wide ?_).keep (S := In (g3 + 1) w2.heap.size) (by intro b hS hb; (try dsimp only at hS); (try simp only [In, World.size_alloc, size_setRow, dw_size] at hS hb); first | rfl | (simp (disch := first | assumption | omega | (simp only [World.size_alloc, size_setRow, dw_size]; omega) | (simp only [World.size_alloc, size_setRow, dw_size, In]; omega)) only [E0.blk, E1.blk, M2.blk, E3.blk, hp_alloc_lt, hp_set_ne, hp_dw]; done))).wide ?_)) fun _ h => h
    · intro b h1 h2
      simp only [In, World.size_alloc, dw_size] at *
      omega
    · intro b h1 h2
      simp only [In, size_setRow] at *
      omega
theorem spec_l2CopyStore_n {a : Option Addr} {n c : Nat} {S : Nat → Prop} {xs : List Ver} {w : World} (ha : D tVers S w [.slice a n c] xs) :
    Ret (EV P 117 #[.agg #[.slice a n c]] w) fun r => ∃ a' c', r.1 = .agg #[.slice a' xs.length c'] ∧ O tVers (In w.heap.size r.2.heap.size) r.2 [.slice a' xs.length c'] xs ∧ Ext w r.2 := by
  obtain ⟨rfl, hm, _⟩ := ha.n
  refine Ret.enter plain mixed (spec_l2CopyStore_fn _ _) (by kernel_rfl) (n := 1) (by kernel_rfl) rfl ?_
  simp (disch := first | assumption | omega | (simp only [World.size_alloc, size_setRow, dw_size]; done) | (simp only [World.size_alloc, size_setRow, dw_size] <;> omega) | (simp only [List.length_set, Array.length_toList, List.length_cons, List.length_nil, List.length_append, bts_size] <;> omega) | (simp only [List.all_cons, List.all_nil, Value.oneCell', Bool.and_self, Bool.and_true]; done)) [-Option.bind_some, hp_alloc_lt, hp_alloc_eq, hp_set_ne, wrap_small, ups_ap_cons, ups_ap_nil, upd_same, upd_other, env0_ap0, env0_aps, xt_a, xt_b, xt_c]
  refine Ret.mono (spec_l2CopyStore_n1 (g1 := w.heap.size) (g2 := w.heap.size + 1) (g3 := w.heap.size + 2) (w0 := w) (by omega) (by omega) (by omega) (by omega) (by omega) xs.length 0 _ _ _ _ (.slice none 0 0) (by omega) rfl rfl rfl rfl (by first | assumption | rfl | (simp (disch := first | assumption | omega | (simp only [World.size_alloc, size_setRow, dw_size]; done) | (simp only [World.size_alloc, size_setRow, dw_size] <;> omega) | (simp only [List.length_set, Array.length_toList, List.length_cons, List.length_nil, List.length_append, bts_size] <;> omega) | (simp only [List.all_cons, List.all_nil, Value.oneCell', Bool.and_self, Bool.and_true]; done)) [-Option.bind_some, hp_alloc_lt, hp_alloc_eq, hp_set_ne, wrap_small, ups_ap_cons, ups_ap_nil, upd_same, upd_other, env0_ap0, env0_aps, xt_a, xt_b, xt_c]; done)) (by first | assumption | rfl | (simp (disch := first | assumption | omega | (simp only [World.size_alloc, size_setRow, dw_size]; done) | (simp only [World.size_alloc, size_setRow, dw_size] <;> omega) | (simp only [List.length_set, Array.length_toList, List.length_cons, List.length_nil, List.length_append, bts_size] <;> omega) | (simp only [List.all_cons, List.all_nil, Value.oneCell', Bool.and_self, Bool.and_true]; done)) [-Option.bind_some, hp_alloc_lt, hp_alloc_eq, hp_set_ne, wrap_small, ups_ap_cons, ups_ap_nil, upd_same, upd_other, env0_ap0, env0_aps, xt_a, xt_b, xt_c]; done)) (by first | assumption | rfl | (simp (disch := first | assumption | omega | (simp only [World.size_alloc, size_setRow, dw_size]; done) | (simp only [World.size_alloc, size_setRow, dw_size] <;> omega) | (simp only [List.length_set, Array.length_toList, List.length_cons, List.length_nil, List.length_append, bts_size] <;> omega) | (simp only [List.all_cons, List.all_nil, Value.oneCell', Bool.and_self, Bool.and_true]; done)) [-Option.bind_some, hp_alloc_lt, hp_alloc_eq, hp_set_ne, wrap_small, ups_ap_cons, ups_ap_nil, upd_same, upd_other, env0_ap0, env0_aps, xt_a, xt_b, xt_c]; done)) ha (by (repeat (first | exact Ext.rfl | assumption | (refine Ext.al ?_ _) | (refine Ext.dw ?_) | (refine Ext.set ?_ (by first | omega | (simp only [World.size_alloc, size_setRow, dw_size]; omega)) _) | (refine Ext.tr ?_ (by assumption))))) O.nil) ?_
  rintro ⟨_, w1⟩ ⟨a1, c1, rfl, o1, E1⟩
  have zE1 := E1.size
  try simp only [World.size_alloc, size_setRow, dw_size] at zE1
  exact ⟨a1, c1, rfl, o1.wide (by intro b h1 h2; (try dsimp only at h1); (try simp only [In, World.size_alloc, size_setRow, dw_size] at *); omega), E1⟩
end Go.Proofs.Ythicfemhpnnaaaa.X
