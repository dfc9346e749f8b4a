/- A part of the proof: an evaluator of the model, its laws, and contracts of functions; no condition. -/
import Derived.Test.YtcafhepclddcaaaEvHj
import Derived.Test.YtcafhepclddcaaaEvO
import Derived.Test.YtcafhepclddcaaaEvK
import Derived.Test.YtcafhepclddcaaaEvJ
import Derived.Test.YtcafhepclddcaaaC13
set_option linter.unusedVariables false
set_option linter.unusedSimpArgs false
set_option maxRecDepth 100000
set_option maxHeartbeats 1000000
namespace Go.Proofs.Ytcafhepclddcaaa.X
open Go Go.Ev Go.RowKit
abbrev tStrs : Lay (List ByteArray) := LList 9 8796093021952 LStr
theorem LStr_n1 : LStr.n = 1 := rfl
noncomputable def MStr : Mk ByteArray := ⟨fun k _ => mText k, fun k _ => k + 1, fun s => s.size, fun k _ => by omega⟩
theorem MStr_small : MStr.Small := fun k a => by show k + 1 ≤ _; omega
noncomputable def MRing : Mk (List ByteArray) := MStr.list
theorem MRing_le (k : Int) (x : List ByteArray) : k ≤ MRing.nx k x ∧ MRing.nx k x ≤ k + 10 * MRing.wt x := ⟨Mk.nxL_le _ _, Mk.nxL_small MStr_small _ _⟩
theorem laws_szStringS_n {a : Option Addr} {c : Nat} {S : Nat → Prop} {xs : List ByteArray} {w0 : World} (ha : D tStrs S w0 [.slice a xs.length c] xs) {n0 : Int} (hn0 : n0 ≤ 1048576) :
    ∀ (d k : Nat) (e : Env) (w : World) (m : Int), k + d = xs.length → e 0 = .slice a xs.length c → e 1 = i64 m → e 5 = i64 k → 0 ≤ m → m ≤ 1048576 → m + (MStr.wtL (xs.take k) : Int) - k = n0 → Ext w0 w →
    Ret (laws_szStringS_l1 e w) fun r => ∃ m, r.1 = i64 m ∧ -1 ≤ m ∧ m ≤ 1048576 ∧ (0 ≤ m → m + (MStr.wtL xs : Int) - xs.length = n0) ∧ Ext w0 r.2 := by
  have hn := ha.n
  intro d
  induction d with
  | zero =>
    intro k e w m hd e0 e1 e5 hm hm2 hs E0
    have zE0 := E0.size
    try simp only [World.size_alloc, size_setRow, dw_size] at zE0
    rw [laws_szStringS_l1_eq]
    obtain rfl : k = xs.length := by omega
    rw [List.take_of_length_le (Nat.le_refl _)] at hs
    refine Ret.post fun Q hQ => ?_
    simp (maxSteps := 1000000) (disch := first | assumption | omega | (simp only [World.size_alloc, size_setRow, dw_size]; done) | (simp only [World.size_alloc, size_setRow, dw_size] <;> omega) | (simp only [List.length_set, Array.length_toList, List.length_cons, List.length_nil, List.length_append, bts_size] <;> omega) | (simp only [List.all_cons, List.all_nil, Value.oneCell', Bool.and_self, Bool.and_true]; done)) [-Option.bind_some, hp_alloc_lt, hp_alloc_eq, hp_set_ne, wrap_small, ups_ap_cons, ups_ap_nil, upd_same, upd_other, env0_ap0, env0_aps, xt_a, xt_b, xt_c, -splice_eq, -stR_cells, stR_box, stR_boxA, stR_row, stR_row0, stR_row1, stR_rowA, stR_rowA0, splice_rowv, splice_rowv0, splice_rowv1, splice_z, splice_n, splice_s, nth_rowv, nth_rowv0, nth_rowv1, rowv_len, e0, e1, e5, e0, e1, e5, E0.blk]
    exact hQ _ ⟨m, rfl, by omega, hm2, fun _ => hs, E0⟩
  | succ d ih =>
    intro k e w m hd e0 e1 e5 hm hm2 hs E0
    have zE0 := E0.size
    try simp only [World.size_alloc, size_setRow, dw_size] at zE0
    rw [laws_szStringS_l1_eq]
    have hlt : k < xs.length := by omega
    obtain ⟨x, hx, hdx⟩ := drop_at hlt
    obtain ⟨b1, o1, cs1, rfl, A1, D1, _, l1⟩ := (ha.ext E0).at (by decide) hx
    obtain ⟨rfl, hxs⟩ := D.str.1 D1
    have p0 : cellO (hp w b1) (o1 + k) = some (.string x) := by have := A1 0 _ rfl; simpa only [LStr_n1, Nat.mul_one, Nat.add_zero] using this
    have htk : MStr.wtL (xs.take (k + 1)) = MStr.wtL (xs.take k) + 1 + x.size := by
      rw [List.take_add_one, hx]
      have happ : ∀ (l : List ByteArray) (y : ByteArray), MStr.wtL (l ++ [y]) = MStr.wtL l + 1 + y.size := by
        intro l y
        induction l with
        | nil => simp only [List.nil_append, Mk.wtL]; show _ = _; simp only [MStr]; omega
        | cons z l ih => simp only [List.cons_append, Mk.wtL, ih]; omega
      exact happ _ _
    have hw1 : IntKind.i64.wrap (m - x.size) = m - x.size := w64 (by omega) (by omega)
    refine Ret.post fun Q hQ => ?_
    by_cases hneg : m - (x.size : Int) < 0
    · simp (maxSteps := 1000000) (disch := first | assumption | omega | (simp only [World.size_alloc, size_setRow, dw_size]; done) | (simp only [World.size_alloc, size_setRow, dw_size] <;> omega) | (simp only [List.length_set, Array.length_toList, List.length_cons, List.length_nil, List.length_append, bts_size] <;> omega) | (simp only [List.all_cons, List.all_nil, Value.oneCell', Bool.and_self, Bool.and_true]; done)) [-Option.bind_some, hp_alloc_lt, hp_alloc_eq, hp_set_ne, wrap_small, ups_ap_cons, ups_ap_nil, upd_same, upd_other, env0_ap0, env0_aps, xt_a, xt_b, xt_c, -splice_eq, -stR_cells, stR_box, stR_boxA, stR_row, stR_row0, stR_row1, stR_rowA, stR_rowA0, splice_rowv, splice_rowv0, splice_rowv1, splice_z, splice_n, splice_s, nth_rowv, nth_rowv0, nth_rowv1, rowv_len, e0, e1, e5, hlt, ia_51, p0, hw1, hneg, e0, e1, e5, E0.blk, hlt]
      exact hQ _ ⟨-1, rfl, by omega, by omega, by omega, by (repeat (first | exact Ext.rfl | assumption | (refine Ext.al ?_ _) | (refine Ext.dw ?_) | (refine Ext.set ?_ (by first | omega | (simp only [World.size_alloc, size_setRow, dw_size]; omega)) _) | (refine Ext.tr ?_ (by assumption))))⟩
    · simp (maxSteps := 1000000) (disch := first | assumption | omega | (simp only [World.size_alloc, size_setRow, dw_size]; done) | (simp only [World.size_alloc, size_setRow, dw_size] <;> omega) | (simp only [List.length_set, Array.length_toList, List.length_cons, List.length_nil, List.length_append, bts_size] <;> omega) | (simp only [List.all_cons, List.all_nil, Value.oneCell', Bool.and_self, Bool.and_true]; done)) [-Option.bind_some, hp_alloc_lt, hp_alloc_eq, hp_set_ne, wrap_small, ups_ap_cons, ups_ap_nil, upd_same, upd_other, env0_ap0, env0_aps, xt_a, xt_b, xt_c, -splice_eq, -stR_cells, stR_box, stR_boxA, stR_row, stR_row0, stR_row1, stR_rowA, stR_rowA0, splice_rowv, splice_rowv0, splice_rowv1, splice_z, splice_n, splice_s, nth_rowv, nth_rowv0, nth_rowv1, rowv_len, e0, e1, e5, hlt, ia_51, p0, hw1, hneg, e0, e1, e5, E0.blk, hlt]
      exact Ret.mono (ih (k + 1) _ _ (m - x.size) (by omega) (by first | omega | assumption | rfl | exact congrArg i64 (by omega) | (simp; done) | (simp; omega)) (by first | omega | assumption | rfl | exact congrArg i64 (by omega) | (simp; done) | (simp; omega)) (by first | omega | assumption | rfl | exact congrArg i64 (by omega) | (simp; done) | (simp; omega)) (by omega) (by omega) (by rw [htk]; omega) (by (repeat (first | exact Ext.rfl | assumption | (refine Ext.al ?_ _) | (refine Ext.dw ?_) | (refine Ext.set ?_ (by first | omega | (simp only [World.size_alloc, size_setRow, dw_size]; omega)) _) | (refine Ext.tr ?_ (by assumption)))))) hQ
theorem laws_szStringS_m {n0 : Int} (h0 : -1 ≤ n0) (h1 : n0 ≤ 1048576) {S : Nat → Prop} {a : Option Addr} {n c : Nat} {xs : List ByteArray} {w : World} (ha : D tStrs S w [.slice a n c] xs) :
    Ret (EV P 67 #[.slice a n c, i64 n0] w) fun r => ∃ m, r.1 = i64 m ∧ -1 ≤ m ∧ m ≤ 1048576 ∧ (0 ≤ m → m + (MStr.wtL xs : Int) ≤ n0) ∧ Ext w r.2 := by
  obtain ⟨rfl, hm, _⟩ := ha.n
  refine Ret.post fun Q hQ => ?_
  refine Ret.enter plain mixed (laws_szStringS_fn _ _ _) (by kernel_rfl) (n := 2) (by kernel_rfl) rfl ?_
  have hwr : IntKind.i64.wrap (n0 - xs.length) = n0 - xs.length := w64 (by omega) (by omega)
  by_cases hneg : n0 - (xs.length : Int) < 0
  · simp (maxSteps := 1000000) (disch := first | assumption | omega | (simp only [World.size_alloc, size_setRow, dw_size]; done) | (simp only [World.size_alloc, size_setRow, dw_size] <;> omega) | (simp only [List.length_set, Array.length_toList, List.length_cons, List.length_nil, List.length_append, bts_size] <;> omega) | (simp only [List.all_cons, List.all_nil, Value.oneCell', Bool.and_self, Bool.and_true]; done)) [-Option.bind_some, hp_alloc_lt, hp_alloc_eq, hp_set_ne, wrap_small, ups_ap_cons, ups_ap_nil, upd_same, upd_other, env0_ap0, env0_aps, xt_a, xt_b, xt_c, -splice_eq, -stR_cells, stR_box, stR_boxA, stR_row, stR_row0, stR_row1, stR_rowA, stR_rowA0, splice_rowv, splice_rowv0, splice_rowv1, splice_z, splice_n, splice_s, nth_rowv, nth_rowv0, nth_rowv1, rowv_len, hwr, hneg]
    exact hQ _ ⟨-1, rfl, by omega, by omega, by omega, by (repeat (first | exact Ext.rfl | assumption | (refine Ext.al ?_ _) | (refine Ext.dw ?_) | (refine Ext.set ?_ (by first | omega | (simp only [World.size_alloc, size_setRow, dw_size]; omega)) _) | (refine Ext.tr ?_ (by assumption))))⟩
  simp (maxSteps := 1000000) (disch := first | assumption | omega | (simp only [World.size_alloc, size_setRow, dw_size]; done) | (simp only [World.size_alloc, size_setRow, dw_size] <;> omega) | (simp only [List.length_set, Array.length_toList, List.length_cons, List.length_nil, List.length_append, bts_size] <;> omega) | (simp only [List.all_cons, List.all_nil, Value.oneCell', Bool.and_self, Bool.and_true]; done)) [-Option.bind_some, hp_alloc_lt, hp_alloc_eq, hp_set_ne, wrap_small, ups_ap_cons, ups_ap_nil, upd_same, upd_other, env0_ap0, env0_aps, xt_a, xt_b, xt_c, -splice_eq, -stR_cells, stR_box, stR_boxA, stR_row, stR_row0, stR_row1, stR_rowA, stR_rowA0, splice_rowv, splice_rowv0, splice_rowv1, splice_z, splice_n, splice_s, nth_rowv, nth_rowv0, nth_rowv1, rowv_len, hwr, hneg]
  refine Ret.mono (laws_szStringS_n (n0 := n0 - xs.length) ha (by omega) xs.length 0 _ w (n0 - xs.length) (by omega) rfl rfl rfl (by omega) (by omega) (by simp [Mk.wtL]) Ext.rfl) ?_
  rintro r ⟨m, k1, k2, k3, k4, k5⟩
  exact hQ _ ⟨m, k1, k2, k3, fun h => by have := k4 h; omega, k5⟩
theorem laws_toStringS_n {a : Option Addr} {c g : Nat} {S : Nat → Prop} {xs : List ByteArray} {w0 : World} : ∀ (d k : Nat) (e : Env) (w : World), k + d = xs.length → e 0 = .slice a xs.length c → e 3 = .slice (some ⟨g, 0, none⟩) xs.length xs.length → e 4 = i64 k → D tStrs S w0 [.slice a xs.length c] xs → Ext w0 w →
    O tStrs (In w0.heap.size w.heap.size) w [.slice (some ⟨g, 0, none⟩) xs.length xs.length] (fillP xs ⟨#[]⟩ k) →
    Ret (laws_toStringS_l1 e w) fun r => r.1 = .slice (some ⟨g, 0, none⟩) xs.length xs.length ∧ O tStrs (In w0.heap.size r.2.heap.size) r.2 [.slice (some ⟨g, 0, none⟩) xs.length xs.length] xs ∧ Ext w0 r.2 := by
  intro d
  induction d with
  | zero =>
    intro k e w hd e0 e3 e4 ha E0 ho
    have zE0 := E0.size
    try simp only [World.size_alloc, size_setRow, dw_size] at zE0
    rw [laws_toStringS_l1_eq]
    obtain rfl : k = xs.length := by omega
    rw [fillP_end] at ho
    refine Ret.post fun Q hQ => ?_
    simp (maxSteps := 1000000) (disch := first | assumption | omega | (simp only [World.size_alloc, size_setRow, dw_size]; done) | (simp only [World.size_alloc, size_setRow, dw_size] <;> omega) | (simp only [List.length_set, Array.length_toList, List.length_cons, List.length_nil, List.length_append, bts_size] <;> omega) | (simp only [List.all_cons, List.all_nil, Value.oneCell', Bool.and_self, Bool.and_true]; done)) [-Option.bind_some, hp_alloc_lt, hp_alloc_eq, hp_set_ne, wrap_small, ups_ap_cons, ups_ap_nil, upd_same, upd_other, env0_ap0, env0_aps, xt_a, xt_b, xt_c, -splice_eq, -stR_cells, stR_box, stR_boxA, stR_row, stR_row0, stR_row1, stR_rowA, stR_rowA0, splice_rowv, splice_rowv0, splice_rowv1, splice_z, splice_n, splice_s, nth_rowv, nth_rowv0, nth_rowv1, rowv_len, e0, e3, e4, e0, e3, e4, E0.blk]
    exact hQ _ ⟨rfl, ho, E0⟩
  | succ d ih =>
    intro k e w hd e0 e3 e4 ha E0 ho
    have zE0 := E0.size
    try simp only [World.size_alloc, size_setRow, dw_size] at zE0
    rw [laws_toStringS_l1_eq]
    have hlt : k < xs.length := by omega
    obtain ⟨x, hx, _⟩ := drop_at hlt
    have hn := ha.n
    obtain ⟨b1, o1, cs1, rfl, A1, D1, _, l1⟩ := (ha.ext E0).at (by decide) hx
    obtain ⟨rfl, hxs⟩ := D.str.1 D1
    have p0 : cellO (hp w b1) (o1 + k) = some (.string x) := by have := A1 0 _ rfl; simpa only [LStr_n1, Nat.mul_one, Nat.add_zero] using this
    obtain ⟨g', cur, ds, S2, hgg, hSg, hgl, hg, hle, hx1, hS2, put⟩ := ho.row (by decide) (fillP_get hlt)
    simp only [Option.some.injEq, Addr.mk.injEq, and_true] at hgg
    subst hgg
    obtain ⟨rfl, _⟩ := O.str.1 hx1
    simp only [LStr_n1] at hg hle put
    simp only [In] at hSg
    refine Ret.post fun Q hQ => ?_
    simp (maxSteps := 1000000) (disch := first | assumption | omega | (simp only [World.size_alloc, size_setRow, dw_size]; done) | (simp only [World.size_alloc, size_setRow, dw_size] <;> omega) | (simp only [List.length_set, Array.length_toList, List.length_cons, List.length_nil, List.length_append, bts_size] <;> omega) | (simp only [List.all_cons, List.all_nil, Value.oneCell', Bool.and_self, Bool.and_true]; done)) [-Option.bind_some, hp_alloc_lt, hp_alloc_eq, hp_set_ne, wrap_small, ups_ap_cons, ups_ap_nil, upd_same, upd_other, env0_ap0, env0_aps, xt_a, xt_b, xt_c, -splice_eq, -stR_cells, stR_box, stR_boxA, stR_row, stR_row0, stR_row1, stR_rowA, stR_rowA0, splice_rowv, splice_rowv0, splice_rowv1, splice_z, splice_n, splice_s, nth_rowv, nth_rowv0, nth_rowv1, rowv_len, e0, e3, e4, hlt, ia_51, p0, hg, e0, e3, e4, E0.blk, hlt, hg]
    refine Ret.mono (ih (k + 1) _ _ (by omega) (by first | omega | assumption | rfl | exact congrArg i64 (by omega) | (simp; done) | (simp; omega)) (by first | omega | assumption | rfl | exact congrArg i64 (by omega) | (simp; done) | (simp; omega)) (by first | omega | assumption | rfl | exact congrArg i64 (by omega) | (simp; done) | (simp; omega)) ha (by (repeat (first | exact Ext.rfl | assumption | (refine Ext.al ?_ _) | (refine Ext.dw ?_) | (refine Ext.set ?_ (by first | omega | (simp only [World.size_alloc, size_setRow, dw_size]; omega)) _) | (refine Ext.tr ?_ (by assumption))))) ?_) hQ
    rw [← fillP_set hx]
    exact (put _ _ x (fun _ => False) (O.str.2 ⟨rfl, hxs⟩) (by first | assumption | rfl | (simp (maxSteps := 1000000) (disch := first | assumption | omega | (simp only [World.size_alloc, size_setRow, dw_size]; done) | (simp only [World.size_alloc, size_setRow, dw_size] <;> omega) | (simp only [List.length_set, Array.length_toList, List.length_cons, List.length_nil, List.length_append, bts_size] <;> omega) | (simp only [List.all_cons, List.all_nil, Value.oneCell', Bool.and_self, Bool.and_true]; done)) [-Option.bind_some, hp_alloc_lt, hp_alloc_eq, hp_set_ne, wrap_small, ups_ap_cons, ups_ap_nil, upd_same, upd_other, env0_ap0, env0_aps, xt_a, xt_b, xt_c, -splice_eq, -stR_cells, stR_box, stR_boxA, stR_row, stR_row0, stR_row1, stR_rowA, stR_rowA0, splice_rowv, splice_rowv0, splice_rowv1, splice_z, splice_n, splice_s, nth_rowv, nth_rowv0, nth_rowv1, rowv_len, hg, e0, e3, e4, E0.blk, hlt, hg]; done)) (by intro b _ _ _ _; first | rfl | (simp (disch := first | assumption | omega | (simp only [World.size_alloc, size_setRow, dw_size]; omega) | (simp only [World.size_alloc, size_setRow, dw_size, In]; omega)) only [E0.blk, hp_alloc_lt, hp_set_ne, hp_dw]; done)) (fun _ _ h => h.elim)).wide fun b h _ => h.elim (by intro h; (try simp only [In, World.size_alloc, size_setRow, dw_size] at *); omega) fun h => h.elim
theorem laws_toStringS_m {S : Nat → Prop} {a : Option Addr} {n c : Nat} {xs : List ByteArray} {w : World} (ha : D tStrs S w [.slice a n c] xs) :
    Ret (EV P 71 #[.slice a n c] w) fun r => ∃ a' c', r.1 = .slice a' xs.length c' ∧ O tStrs (In w.heap.size r.2.heap.size) r.2 [.slice a' xs.length c'] xs ∧ Ext w r.2 := by
  obtain ⟨rfl, hm, _⟩ := ha.n
  refine Ret.post fun Q hQ => ?_
  refine Ret.enter plain mixed (laws_toStringS_fn _ _) (by kernel_rfl) (n := 1) (by kernel_rfl) rfl ?_
  simp (maxSteps := 1000000) (disch := first | assumption | omega | (simp only [World.size_alloc, size_setRow, dw_size]; done) | (simp only [World.size_alloc, size_setRow, dw_size] <;> omega) | (simp only [List.length_set, Array.length_toList, List.length_cons, List.length_nil, List.length_append, bts_size] <;> omega) | (simp only [List.all_cons, List.all_nil, Value.oneCell', Bool.and_self, Bool.and_true]; done)) [-Option.bind_some, hp_alloc_lt, hp_alloc_eq, hp_set_ne, wrap_small, ups_ap_cons, ups_ap_nil, upd_same, upd_other, env0_ap0, env0_aps, xt_a, xt_b, xt_c, -splice_eq, -stR_cells, stR_box, stR_boxA, stR_row, stR_row0, stR_row1, stR_rowA, stR_rowA0, splice_rowv, splice_rowv0, splice_rowv1, splice_z, splice_n, splice_s, nth_rowv, nth_rowv0, nth_rowv1, rowv_len]
  refine Ret.bind (O.make (L := LStr) (mx := 8796093021952) (x0 := (⟨#[]⟩ : ByteArray)) el_51 zz_9 rfl (by decide) (fun w => O.str.2 ⟨rfl, by decide⟩) hm (by decide) (by decide)) ?_
  rintro ⟨_, w1⟩ ⟨rfl, o1, z1, E1⟩
  have zE1 := E1.size
  try simp only [World.size_alloc, size_setRow, dw_size] at zE1
  try dsimp only at o1 z1 E1
  simp (maxSteps := 1000000) (disch := first | assumption | omega | (simp only [World.size_alloc, size_setRow, dw_size]; done) | (simp only [World.size_alloc, size_setRow, dw_size] <;> omega) | (simp only [List.length_set, Array.length_toList, List.length_cons, List.length_nil, List.length_append, bts_size] <;> omega) | (simp only [List.all_cons, List.all_nil, Value.oneCell', Bool.and_self, Bool.and_true]; done)) [-Option.bind_some, hp_alloc_lt, hp_alloc_eq, hp_set_ne, wrap_small, ups_ap_cons, ups_ap_nil, upd_same, upd_other, env0_ap0, env0_aps, xt_a, xt_b, xt_c, -splice_eq, -stR_cells, stR_box, stR_boxA, stR_row, stR_row0, stR_row1, stR_rowA, stR_rowA0, splice_rowv, splice_rowv0, splice_rowv1, splice_z, splice_n, splice_s, nth_rowv, nth_rowv0, nth_rowv1, rowv_len, E1.blk]
  refine Ret.mono (laws_toStringS_n (g := w.heap.size) (w0 := w) xs.length 0 _ w1 (by omega) rfl rfl rfl ha E1 ?_) ?_
  · rw [show fillP xs (⟨#[]⟩ : ByteArray) 0 = List.replicate xs.length ⟨#[]⟩ by simp [fillP]]
    exact o1.wide (fun b h _ => by have h : b = w.heap.size := h; simp only [In]; omega)
  · rintro r ⟨h1, h2, h3⟩
    exact hQ _ ⟨_, _, h1, h2, h3⟩
theorem laws_eqStringS_n {a b : Option Addr} {c c' : Nat} {S S' : Nat → Prop} {xs : List ByteArray} {w0 : World} :
    ∀ (d k : Nat) (e : Env) (w : World), k + d = xs.length → e 0 = .slice a xs.length c → e 1 = .slice b xs.length c' → e 5 = i64 k → D tStrs S w0 [.slice a xs.length c] xs → D tStrs S' w0 [.slice b xs.length c'] xs → Ext w0 w →
    Ret (laws_eqStringS_l1 e w) fun r => r.1 = .bool true ∧ Ext w0 r.2 := by
  intro d
  induction d with
  | zero =>
    intro k e w hd e0 e1 e5 ha hb E0
    have zE0 := E0.size
    try simp only [World.size_alloc, size_setRow, dw_size] at zE0
    rw [laws_eqStringS_l1_eq]
    obtain rfl : k = xs.length := by omega
    refine Ret.post fun Q hQ => ?_
    simp (maxSteps := 1000000) (disch := first | assumption | omega | (simp only [World.size_alloc, size_setRow, dw_size]; done) | (simp only [World.size_alloc, size_setRow, dw_size] <;> omega) | (simp only [List.length_set, Array.length_toList, List.length_cons, List.length_nil, List.length_append, bts_size] <;> omega) | (simp only [List.all_cons, List.all_nil, Value.oneCell', Bool.and_self, Bool.and_true]; done)) [-Option.bind_some, hp_alloc_lt, hp_alloc_eq, hp_set_ne, wrap_small, ups_ap_cons, ups_ap_nil, upd_same, upd_other, env0_ap0, env0_aps, xt_a, xt_b, xt_c, -splice_eq, -stR_cells, stR_box, stR_boxA, stR_row, stR_row0, stR_row1, stR_rowA, stR_rowA0, splice_rowv, splice_rowv0, splice_rowv1, splice_z, splice_n, splice_s, nth_rowv, nth_rowv0, nth_rowv1, rowv_len, e0, e1, e5, e0, e1, e5, E0.blk]
    exact hQ _ ⟨rfl, by (repeat (first | exact Ext.rfl | assumption | (refine Ext.al ?_ _) | (refine Ext.dw ?_) | (refine Ext.set ?_ (by first | omega | (simp only [World.size_alloc, size_setRow, dw_size]; omega)) _) | (refine Ext.tr ?_ (by assumption))))⟩
  | succ d ih =>
    intro k e w hd e0 e1 e5 ha hb E0
    have zE0 := E0.size
    try simp only [World.size_alloc, size_setRow, dw_size] at zE0
    rw [laws_eqStringS_l1_eq]
    have hlt : k < xs.length := by omega
    obtain ⟨x, hx, hdx⟩ := drop_at hlt
    have hn := ha.n
    obtain ⟨b1, o1, cs1, rfl, A1, D1, _, l1⟩ := (ha.ext E0).at (by decide) hx
    obtain ⟨rfl, hxs⟩ := D.str.1 D1
    have p0 : cellO (hp w b1) (o1 + k) = some (.string x) := by have := A1 0 _ rfl; simpa only [LStr_n1, Nat.mul_one, Nat.add_zero] using this
    obtain ⟨b2, o2, cs2, rfl, A2, D2, _, l2⟩ := (hb.ext E0).at (by decide) hx
    obtain ⟨rfl, _⟩ := D.str.1 D2
    have q0 : cellO (hp w b2) (o2 + k) = some (.string x) := by have := A2 0 _ rfl; simpa only [LStr_n1, Nat.mul_one, Nat.add_zero] using this
    refine Ret.post fun Q hQ => ?_
    simp (maxSteps := 1000000) (disch := first | assumption | omega | (simp only [World.size_alloc, size_setRow, dw_size]; done) | (simp only [World.size_alloc, size_setRow, dw_size] <;> omega) | (simp only [List.length_set, Array.length_toList, List.length_cons, List.length_nil, List.length_append, bts_size] <;> omega) | (simp only [List.all_cons, List.all_nil, Value.oneCell', Bool.and_self, Bool.and_true]; done)) [-Option.bind_some, hp_alloc_lt, hp_alloc_eq, hp_set_ne, wrap_small, ups_ap_cons, ups_ap_nil, upd_same, upd_other, env0_ap0, env0_aps, xt_a, xt_b, xt_c, -splice_eq, -stR_cells, stR_box, stR_boxA, stR_row, stR_row0, stR_row1, stR_rowA, stR_rowA0, splice_rowv, splice_rowv0, splice_rowv1, splice_z, splice_n, splice_s, nth_rowv, nth_rowv0, nth_rowv1, rowv_len, e0, e1, e5, hlt, ia_51, p0, q0, beq_self_eq_true, e0, e1, e5, E0.blk, hlt]
    exact Ret.mono (ih (k + 1) _ _ (by omega) (by first | omega | assumption | rfl | exact congrArg i64 (by omega) | (simp; done) | (simp; omega)) (by first | omega | assumption | rfl | exact congrArg i64 (by omega) | (simp; done) | (simp; omega)) (by first | omega | assumption | rfl | exact congrArg i64 (by omega) | (simp; done) | (simp; omega)) ha hb (by (repeat (first | exact Ext.rfl | assumption | (refine Ext.al ?_ _) | (refine Ext.dw ?_) | (refine Ext.set ?_ (by first | omega | (simp only [World.size_alloc, size_setRow, dw_size]; omega)) _) | (refine Ext.tr ?_ (by assumption)))))) hQ
theorem laws_eqStringS_m {a b : Option Addr} {n m c c' : Nat} {S S' : Nat → Prop} {xs : List ByteArray} {w : World} (ha : D tStrs S w [.slice a n c] xs) (hb : D tStrs S' w [.slice b m c'] xs) :
    Ret (EV P 79 #[.slice a n c, .slice b m c'] w) fun r => r.1 = .bool true ∧ Ext w r.2 := by
  obtain ⟨rfl, hm, _⟩ := ha.n
  obtain ⟨rfl, hm2, _⟩ := hb.n
  refine Ret.post fun Q hQ => ?_
  refine Ret.enter plain mixed (laws_eqStringS_fn _ _ _) (by kernel_rfl) (n := 2) (by kernel_rfl) rfl ?_
  simp (maxSteps := 1000000) (disch := first | assumption | omega | (simp only [World.size_alloc, size_setRow, dw_size]; done) | (simp only [World.size_alloc, size_setRow, dw_size] <;> omega) | (simp only [List.length_set, Array.length_toList, List.length_cons, List.length_nil, List.length_append, bts_size] <;> omega) | (simp only [List.all_cons, List.all_nil, Value.oneCell', Bool.and_self, Bool.and_true]; done)) [-Option.bind_some, hp_alloc_lt, hp_alloc_eq, hp_set_ne, wrap_small, ups_ap_cons, ups_ap_nil, upd_same, upd_other, env0_ap0, env0_aps, xt_a, xt_b, xt_c, -splice_eq, -stR_cells, stR_box, stR_boxA, stR_row, stR_row0, stR_row1, stR_rowA, stR_rowA0, splice_rowv, splice_rowv0, splice_rowv1, splice_z, splice_n, splice_s, nth_rowv, nth_rowv0, nth_rowv1, rowv_len, bne_self_eq_false]
  refine Ret.mono (laws_eqStringS_n xs.length 0 _ w (by omega) rfl rfl rfl ha hb Ext.rfl) hQ
theorem laws_markStringS_n {a : Option Addr} {c : Nat} {S : Nat → Prop} {xs : List ByteArray} {k0 : Int} (h0 : 0 ≤ k0) (hk : k0 + 10 * MStr.wtL xs ≤ 100000000000000) :
    ∀ (d j : Nat) (e : Env) (w : World), j + d = xs.length → e 0 = .slice a xs.length c → e 1 = i64 (MStr.at k0 xs j) → e 5 = i64 j → O tStrs S w [.slice a xs.length c] (MStr.part k0 xs j) →
    Ret (laws_markStringS_l1 e w) fun r => r.1 = i64 (MStr.nxL k0 xs) ∧ O tStrs S r.2 [.slice a xs.length c] (MStr.mkL k0 xs) ∧ Mod S w r.2 := by
  intro d
  induction d with
  | zero =>
    intro j e w hd e0 e1 e5 ho
    rw [laws_markStringS_l1_eq]
    obtain rfl : j = xs.length := by omega
    rw [Mk.part_end (Nat.le_refl _)] at ho
    rw [Mk.at_end (Nat.le_refl _)] at e1
    simp (maxSteps := 1000000) (disch := first | assumption | omega | (simp only [World.size_alloc, size_setRow, dw_size]; done) | (simp only [World.size_alloc, size_setRow, dw_size] <;> omega) | (simp only [List.length_set, Array.length_toList, List.length_cons, List.length_nil, List.length_append, bts_size] <;> omega) | (simp only [List.all_cons, List.all_nil, Value.oneCell', Bool.and_self, Bool.and_true]; done)) [-Option.bind_some, hp_alloc_lt, hp_alloc_eq, hp_set_ne, wrap_small, ups_ap_cons, ups_ap_nil, upd_same, upd_other, env0_ap0, env0_aps, xt_a, xt_b, xt_c, e0, e1, e5, e0, e1, e5]
    exact ⟨ho, Mod.rfl⟩
  | succ d ih =>
    intro j e w hd e0 e1 e5 ho
    rw [laws_markStringS_l1_eq]
    have hlt : j < xs.length := by omega
    obtain ⟨x, hx, _⟩ := drop_at hlt
    have hq := Mk.at_small MStr_small xs k0 j
    have hs : MStr.at k0 xs (j + 1) = MStr.at k0 xs j + 1 := Mk.at_succ hx
    have hp := Mk.part_set (M := MStr) (k := k0) hx
    have hn := ho.n
    have hlw := MStr.len_wt xs
    obtain ⟨g, cur, cs, S1, rfl, hSg, hgl, hg, hle, hx1, hS1, put⟩ := ho.row (by decide) (Mk.part_get hx)
    obtain ⟨rfl, _⟩ := O.str.1 hx1
    simp only [LStr_n1] at hg hle put
    have hqm : MStr.mk (MStr.at k0 xs j) x = mText (MStr.at k0 xs j) := rfl
    rw [hqm] at hp
    generalize MStr.at k0 xs j = q at *
    obtain ⟨hms, hmt⟩ := mText_c (k := q) (by omega) (by omega)
    refine Ret.post fun Q hQ => ?_
    simp (maxSteps := 1000000) (disch := first | assumption | omega | (simp only [World.size_alloc, size_setRow, dw_size]; done) | (simp only [World.size_alloc, size_setRow, dw_size] <;> omega) | (simp only [List.length_set, Array.length_toList, List.length_cons, List.length_nil, List.length_append, bts_size] <;> omega) | (simp only [List.all_cons, List.all_nil, Value.oneCell', Bool.and_self, Bool.and_true]; done)) [-Option.bind_some, hp_alloc_lt, hp_alloc_eq, hp_set_ne, wrap_small, ups_ap_cons, ups_ap_nil, upd_same, upd_other, env0_ap0, env0_aps, xt_a, xt_b, xt_c, -splice_eq, -stR_cells, stR_box, stR_boxA, stR_row, stR_row0, stR_row1, stR_rowA, stR_rowA0, splice_rowv, splice_rowv0, splice_rowv1, splice_z, splice_n, splice_s, nth_rowv, nth_rowv0, nth_rowv1, rowv_len, e0, e1, e5, hlt, ia_51, hg, e0, e1, e5, hlt, hg]
    refine Ret.bind (hmt _) ?_
    rintro ⟨_, w1⟩ ⟨rfl, E1⟩
    try dsimp only at E1
    have zE1 := E1.size
    try simp only [World.size_alloc, size_setRow, dw_size] at zE1
    simp (maxSteps := 1000000) (disch := first | assumption | omega | (simp only [World.size_alloc, size_setRow, dw_size]; done) | (simp only [World.size_alloc, size_setRow, dw_size] <;> omega) | (simp only [List.length_set, Array.length_toList, List.length_cons, List.length_nil, List.length_append, bts_size] <;> omega) | (simp only [List.all_cons, List.all_nil, Value.oneCell', Bool.and_self, Bool.and_true]; done)) [-Option.bind_some, hp_alloc_lt, hp_alloc_eq, hp_set_ne, wrap_small, ups_ap_cons, ups_ap_nil, upd_same, upd_other, env0_ap0, env0_aps, xt_a, xt_b, xt_c, -splice_eq, -stR_cells, stR_box, stR_boxA, stR_row, stR_row0, stR_row1, stR_rowA, stR_rowA0, splice_rowv, splice_rowv0, splice_rowv1, splice_z, splice_n, splice_s, nth_rowv, nth_rowv0, nth_rowv1, rowv_len, e0, e1, e5, hlt, ia_51, hg, e0, e1, e5, hlt, hg, E1.blk]
    refine Ret.mono (ih (j + 1) _ _ (by omega) (by first | omega | assumption | rfl | exact congrArg i64 (by omega) | (simp; done) | (simp; omega)) (by exact congrArg i64 hs.symm) (by first | omega | assumption | rfl | exact congrArg i64 (by omega) | (simp; done) | (simp; omega)) ?_) ?_
    · rw [← hp]
      exact (put _ _ (mText q) (fun _ => False) (O.str.2 ⟨rfl, by omega⟩) (by first | assumption | rfl | (simp (maxSteps := 1000000) (disch := first | assumption | omega | (simp only [World.size_alloc, size_setRow, dw_size]; done) | (simp only [World.size_alloc, size_setRow, dw_size] <;> omega) | (simp only [List.length_set, Array.length_toList, List.length_cons, List.length_nil, List.length_append, bts_size] <;> omega) | (simp only [List.all_cons, List.all_nil, Value.oneCell', Bool.and_self, Bool.and_true]; done)) [-Option.bind_some, hp_alloc_lt, hp_alloc_eq, hp_set_ne, wrap_small, ups_ap_cons, ups_ap_nil, upd_same, upd_other, env0_ap0, env0_aps, xt_a, xt_b, xt_c, -splice_eq, -stR_cells, stR_box, stR_boxA, stR_row, stR_row0, stR_row1, stR_rowA, stR_rowA0, splice_rowv, splice_rowv0, splice_rowv1, splice_z, splice_n, splice_s, nth_rowv, nth_rowv0, nth_rowv1, rowv_len, hg, e0, e1, e5, hlt, hg, E1.blk]; done)) (by intro b _ _ _ _; first | rfl | (simp (disch := first | assumption | omega | (simp only [World.size_alloc, size_setRow, dw_size]; omega) | (simp only [World.size_alloc, size_setRow, dw_size, In]; omega)) only [E1.blk, hp_alloc_lt, hp_set_ne, hp_dw]; done)) (fun _ _ h => h.elim)).wide fun b h _ => h.elim id fun h => h.elim
    · rintro r ⟨h1, h2, h3⟩
      exact hQ _ ⟨h1, h2, Mod.tr (Mod.set' (Mod.of E1 _) (.inr hSg) _) h3⟩
theorem laws_markStringS_m {a : Option Addr} {n c : Nat} {S : Nat → Prop} {xs : List ByteArray} {k : Int} (h0 : 0 ≤ k) (hk : k + 10 * MStr.wtL xs ≤ 100000000000000) {w : World} (ho : O tStrs S w [.slice a n c] xs) :
    Ret (EV P 80 #[.slice a n c, i64 k] w) fun r => r.1 = i64 (MStr.nxL k xs) ∧ O tStrs S r.2 [.slice a n c] (MStr.mkL k xs) ∧ Mod S w r.2 := by
  obtain ⟨rfl, _⟩ := ho.n
  refine Ret.enter plain mixed (laws_markStringS_fn _ _ _) (by kernel_rfl) (n := 2) (by kernel_rfl) rfl ?_
  simp (maxSteps := 1000000) (disch := first | assumption | omega | (simp only [World.size_alloc, size_setRow, dw_size]; done) | (simp only [World.size_alloc, size_setRow, dw_size] <;> omega) | (simp only [List.length_set, Array.length_toList, List.length_cons, List.length_nil, List.length_append, bts_size] <;> omega) | (simp only [List.all_cons, List.all_nil, Value.oneCell', Bool.and_self, Bool.and_true]; done)) [-Option.bind_some, hp_alloc_lt, hp_alloc_eq, hp_set_ne, wrap_small, ups_ap_cons, ups_ap_nil, upd_same, upd_other, env0_ap0, env0_aps, xt_a, xt_b, xt_c]
  exact laws_markStringS_n h0 hk xs.length 0 _ w (by omega) rfl (by rw [Mk.at_zero]; rfl) rfl (by rw [Mk.part_zero]; exact ho)
theorem laws_heldStringS_n {a : Option Addr} {c : Nat} {S : Nat → Prop} {xs : List ByteArray} {k0 : Int} (h0 : 0 ≤ k0) (hk : k0 + 10 * MStr.wtL xs ≤ 100000000000000) :
    ∀ (d j : Nat) (e : Env) (w : World), j + d = xs.length → e 0 = .slice a xs.length c → e 1 = i64 (MStr.at k0 xs j) → e 5 = i64 j → D tStrs S w [.slice a xs.length c] (MStr.mkL k0 xs) →
    Ret (laws_heldStringS_l1 e w) fun r => r.1 = i64 (MStr.nxL k0 xs) ∧ Ext w r.2 := by
  intro d
  induction d with
  | zero =>
    intro j e w hd e0 e1 e5 ho
    rw [laws_heldStringS_l1_eq]
    obtain rfl : j = xs.length := by omega
    rw [Mk.at_end (Nat.le_refl _)] at e1
    simp (maxSteps := 1000000) (disch := first | assumption | omega | (simp only [World.size_alloc, size_setRow, dw_size]; done) | (simp only [World.size_alloc, size_setRow, dw_size] <;> omega) | (simp only [List.length_set, Array.length_toList, List.length_cons, List.length_nil, List.length_append, bts_size] <;> omega) | (simp only [List.all_cons, List.all_nil, Value.oneCell', Bool.and_self, Bool.and_true]; done)) [-Option.bind_some, hp_alloc_lt, hp_alloc_eq, hp_set_ne, wrap_small, ups_ap_cons, ups_ap_nil, upd_same, upd_other, env0_ap0, env0_aps, xt_a, xt_b, xt_c, e0, e1, e5, e0, e1, e5]
    (repeat (first | exact Ext.rfl | assumption | (refine Ext.al ?_ _) | (refine Ext.dw ?_) | (refine Ext.set ?_ (by first | omega | (simp only [World.size_alloc, size_setRow, dw_size]; omega)) _) | (refine Ext.tr ?_ (by assumption))))
  | succ d ih =>
    intro j e w hd e0 e1 e5 ho
    rw [laws_heldStringS_l1_eq]
    have hlt : j < xs.length := by omega
    obtain ⟨x, hx, _⟩ := drop_at hlt
    have hq := Mk.at_small MStr_small xs k0 j
    have hs : MStr.at k0 xs (j + 1) = MStr.at k0 xs j + 1 := Mk.at_succ hx
    have hn := ho.n
    have hlw := MStr.len_wt xs
    have hx2 := Mk.mkL_get (M := MStr) xs k0 j hx
    have hqm : MStr.mk (MStr.at k0 xs j) x = mText (MStr.at k0 xs j) := rfl
    rw [hqm] at hx2
    generalize MStr.at k0 xs j = q at *
    obtain ⟨hms, hmt⟩ := mText_c (k := q) (by omega) (by omega)
    obtain ⟨b1, o1, cs1, rfl, A1, D1, _, l1⟩ := ho.at (by decide) hx2
    obtain ⟨rfl, _⟩ := D.str.1 D1
    have p0 : cellO (hp w b1) (o1 + j) = some (.string (mText q)) := by have := A1 0 _ rfl; simpa only [LStr_n1, Nat.mul_one, Nat.add_zero] using this
    refine Ret.post fun Q hQ => ?_
    simp (maxSteps := 1000000) (disch := first | assumption | omega | (simp only [World.size_alloc, size_setRow, dw_size]; done) | (simp only [World.size_alloc, size_setRow, dw_size] <;> omega) | (simp only [List.length_set, Array.length_toList, List.length_cons, List.length_nil, List.length_append, bts_size] <;> omega) | (simp only [List.all_cons, List.all_nil, Value.oneCell', Bool.and_self, Bool.and_true]; done)) [-Option.bind_some, hp_alloc_lt, hp_alloc_eq, hp_set_ne, wrap_small, ups_ap_cons, ups_ap_nil, upd_same, upd_other, env0_ap0, env0_aps, xt_a, xt_b, xt_c, -splice_eq, -stR_cells, stR_box, stR_boxA, stR_row, stR_row0, stR_row1, stR_rowA, stR_rowA0, splice_rowv, splice_rowv0, splice_rowv1, splice_z, splice_n, splice_s, nth_rowv, nth_rowv0, nth_rowv1, rowv_len, e0, e1, e5, hlt, ia_51, p0, e0, e1, e5, hlt]
    refine Ret.bind (hmt _) ?_
    rintro ⟨_, w1⟩ ⟨rfl, E1⟩
    try dsimp only at E1
    have zE1 := E1.size
    try simp only [World.size_alloc, size_setRow, dw_size] at zE1
    simp (maxSteps := 1000000) (disch := first | assumption | omega | (simp only [World.size_alloc, size_setRow, dw_size]; done) | (simp only [World.size_alloc, size_setRow, dw_size] <;> omega) | (simp only [List.length_set, Array.length_toList, List.length_cons, List.length_nil, List.length_append, bts_size] <;> omega) | (simp only [List.all_cons, List.all_nil, Value.oneCell', Bool.and_self, Bool.and_true]; done)) [-Option.bind_some, hp_alloc_lt, hp_alloc_eq, hp_set_ne, wrap_small, ups_ap_cons, ups_ap_nil, upd_same, upd_other, env0_ap0, env0_aps, xt_a, xt_b, xt_c, -splice_eq, -stR_cells, stR_box, stR_boxA, stR_row, stR_row0, stR_row1, stR_rowA, stR_rowA0, splice_rowv, splice_rowv0, splice_rowv1, splice_z, splice_n, splice_s, nth_rowv, nth_rowv0, nth_rowv1, rowv_len, e0, e1, e5, hlt, ia_51, p0, beq_self_eq_true, e0, e1, e5, hlt, E1.blk]
    refine Ret.mono (ih (j + 1) _ _ (by omega) (by first | omega | assumption | rfl | exact congrArg i64 (by omega) | (simp; done) | (simp; omega)) (by exact congrArg i64 hs.symm) (by first | omega | assumption | rfl | exact congrArg i64 (by omega) | (simp; done) | (simp; omega)) (ho.ext (by (repeat (first | exact Ext.rfl | assumption | (refine Ext.al ?_ _) | (refine Ext.dw ?_) | (refine Ext.set ?_ (by first | omega | (simp only [World.size_alloc, size_setRow, dw_size]; omega)) _) | (refine Ext.tr ?_ (by assumption))))))) ?_
    rintro r ⟨h1, h2⟩
    exact hQ _ ⟨h1, Ext.tr (by (repeat (first | exact Ext.rfl | assumption | (refine Ext.al ?_ _) | (refine Ext.dw ?_) | (refine Ext.set ?_ (by first | omega | (simp only [World.size_alloc, size_setRow, dw_size]; omega)) _) | (refine Ext.tr ?_ (by assumption))))) h2⟩
theorem laws_heldStringS_m {a : Option Addr} {n c : Nat} {S : Nat → Prop} {xs : List ByteArray} {k : Int} (h0 : 0 ≤ k) (hk : k + 10 * MStr.wtL xs ≤ 100000000000000) {w : World} (ho : D tStrs S w [.slice a n c] (MStr.mkL k xs)) :
    Ret (EV P 81 #[.slice a n c, i64 k] w) fun r => r.1 = i64 (MStr.nxL k xs) ∧ Ext w r.2 := by
  obtain ⟨rfl, _⟩ := ho.n
  rw [Mk.mkL_length] at *
  refine Ret.enter plain mixed (laws_heldStringS_fn _ _ _) (by kernel_rfl) (n := 2) (by kernel_rfl) rfl ?_
  simp (maxSteps := 1000000) (disch := first | assumption | omega | (simp only [World.size_alloc, size_setRow, dw_size]; done) | (simp only [World.size_alloc, size_setRow, dw_size] <;> omega) | (simp only [List.length_set, Array.length_toList, List.length_cons, List.length_nil, List.length_append, bts_size] <;> omega) | (simp only [List.all_cons, List.all_nil, Value.oneCell', Bool.and_self, Bool.and_true]; done)) [-Option.bind_some, hp_alloc_lt, hp_alloc_eq, hp_set_ne, wrap_small, ups_ap_cons, ups_ap_nil, upd_same, upd_other, env0_ap0, env0_aps, xt_a, xt_b, xt_c]
  exact laws_heldStringS_n h0 hk xs.length 0 _ w (by omega) rfl (by rw [Mk.at_zero]; rfl) rfl ho
end Go.Proofs.Ytcafhepclddcaaa.X
