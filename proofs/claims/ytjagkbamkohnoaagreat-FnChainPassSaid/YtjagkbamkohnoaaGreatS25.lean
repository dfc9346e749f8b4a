/- A part of the proof: an evaluator of the model, its laws, and contracts of functions; no condition. -/
import Derived.Test.YtjagkbamkohnoaaGreatEvQ
import Derived.Test.YtjagkbamkohnoaaGreatS20
set_option linter.unusedVariables false
set_option linter.unusedSimpArgs false
set_option maxRecDepth 100000
set_option maxHeartbeats 1000000
namespace Go.Proofs.YtjagkbamkohnoaaGreat.X
open Go Go.Ev Go.RowKit
theorem slices_Delete_Ver_n {a : Option Addr} {n c : Nat} {S : Nat → Prop} {v : Ver} {l : List Ver} {w : World} (ho : O tVers S w [.slice a n c] (v :: l)) :
    ∃ g cs S1, a = some ⟨g, 0, none⟩ ∧ S g ∧ g < w.heap.size ∧ At w g 0 cs ∧ cs.length = 6 ∧ O tVer S1 w cs v ∧ (∀ b, S1 b → S b ∧ b ≠ g ∧ b < w.heap.size) ∧ (∃ S3 css, Els tVer S3 w css l ∧ At w g 6 css.flatten ∧ ∀ b, S3 b → S b ∧ ¬ S1 b ∧ b ≠ g ∧ b < w.heap.size) ∧
      ∀ w', Ext w w' → Ret (EV P 47 #[.slice a n c, i64 0, i64 1] w') fun r => r.1 = .slice a l.length c ∧ O tVers (fun b => S b ∧ ¬ S1 b) r.2 [.slice a l.length c] l ∧ Mod (fun b => b = g) w' r.2 := by
  obtain ⟨rfl, hm, _⟩ := ho.n
  obtain ⟨css, hO, hE, hb, hmx⟩ := ho.un
  obtain ⟨hl, hn9, hO⟩ := hO
  simp only [List.length_cons] at hl hn9 hm hmx
  rcases hO with ⟨h1, h0⟩ | ⟨g, cap, cur, h1, _, hh, hc, hcm, hcs, ht⟩
  · simp at h0
  cases h1
  simp only [List.length_cons] at hc hcs ht
  have hb' := hb g (by simp [blkOf])
  obtain ⟨cl1, cl2⟩ := hE.lay
  cases css with
  | nil => simp at cl1
  | cons cs css =>
  obtain ⟨S1, S2, L1, L2, k1, k2⟩ := hE.cut 1
  simp only [List.take_succ_cons, List.take_zero, List.drop_succ_cons, List.drop_zero] at L1 L2
  have hcs6 : cs.length = 6 := cl2 cs List.mem_cons_self
  rw [List.flatten_cons] at hl ht
  have hnl : css.flatten.length = l.length * 6 := by rw [List.length_append, hcs6, LVer_n] at hl; omega
  rw [LVer_n] at ht hcs
  have hA0 : At w g 0 (cs ++ css.flatten) := by
    intro j u hu
    rw [hh, cellO_some, ← nth_eq, Nat.zero_add]
    rw [← ht, List.getElem?_take] at hu
    split at hu
    · simpa using hu
    · contradiction
  have hA1 : At w g 0 cs := fun j u hu => hA0 j u (by rw [List.getElem?_append_left (List.getElem?_eq_some_iff.1 hu).1]; exact hu)
  have hA2 : At w g 6 css.flatten := by
    intro j u hu
    have := hA0 (6 + j) u (by rw [List.getElem?_append_right (by omega), hcs6, Nat.add_sub_cancel_left]; exact hu)
    rwa [Nat.zero_add] at this
  have ov : O tVer S1 w cs v := by
    obtain ⟨bss, q1, q2, q3⟩ := L1
    cases bss with
    | nil => exact q1.elim
    | cons bl bss =>
      cases bss with
      | nil => exact ⟨bl, q1.1, by simpa using q2, fun b hb => q3 b (by simpa using hb)⟩
      | cons _ _ => exact q1.2.elim
  have hcur : (l.length + 1) * 6 ≤ cur.size := Nat.le_trans (Nat.mul_le_mul_right _ hc) hcs
  have fin : ∀ (wb : World), Ext w wb → ∀ (w' : World) (cur' : Array Value), hp w' g = some (.cells cur' 45 (0, 0)) → cur'.size = cur.size → cur'.toList.take (l.length * 6) = css.flatten → Mod (fun b => b = g) wb w' →
      O tVers (fun b => S b ∧ ¬ S1 b) w' [.slice (some ⟨g, 0, none⟩) l.length c] l := by
    intro wb Eb w' cur' q1 q2 q3 M
    have hO' : Own w' 0 45 (LVer 40).n (.slice (some ⟨g, 0, none⟩) l.length c) l.length css.flatten := by
      refine ⟨hnl, by omega, .inr ⟨g, c, cur', rfl, Nat.zero_le _, q1, by omega, hcm, ?_, q3⟩⟩
      rw [q2]
      exact hcs
    refine (O.mk hO' (L2.keep (w' := w') (fun b hS hbl => (M.blk b (Nat.lt_of_lt_of_le hbl Eb.size) (fun e => (k2 b hS).1.2.1 (by simp [blkOf, e]))).trans (Eb.blk hbl))) (fun b hb hS => ?_) (by omega)).wide ?_
    · simp only [blkOf, Option.toList_some, List.mem_singleton] at hb
      exact (k2 b hS).1.2.1 (by simp [blkOf, hb])
    · intro b h1 h2
      rcases h1 with h | h
      · exact ⟨(k2 b h).1.1, (k2 b h).2.1⟩
      · simp only [blkOf, Option.toList_some, List.mem_singleton] at h
        subst h
        exact ⟨hb'.1, fun hS => (k1 b hS).1.2.1 (by simp [blkOf])⟩
  refine ⟨g, cs, S1, rfl, hb'.1, hb'.2, hA1, hcs6, ov, fun b h => ⟨(k1 b h).1.1, fun e => (k1 b h).1.2.1 (by simp [blkOf, e]), (k1 b h).2.2⟩, ⟨S2, css, L2, hA2, fun b h => ⟨(k2 b h).1.1, (k2 b h).2.1, fun e => (k2 b h).1.2.1 (by simp [blkOf, e]), (k2 b h).2.2⟩⟩, ?_⟩
  intro w' E'
  have hh := (E'.blk hb'.2).trans hh
  have hA2 := hA2.mono (Ext.keep E')
  have L2 := L2.keep (w' := w') (fun b _ hbl => E'.blk hbl)
  have fin := fin w' E'
  refine Ret.post fun Q hQ => ?_
  refine Ret.enter plain Yo (slices_Delete_Ver_fn _ _ _ _) (by kernel_rfl) (n := 3) (by kernel_rfl) rfl ?_
  obtain ⟨sv, hsv⟩ := sl_lhm (P := P) el_32 (a := some ⟨g, 0, none⟩) (len := l.length + 1) (cap := c) (l := 0) (n := 1) (m := (l.length : Int) + 1) (by omega) (by omega) (by omega) (by omega) w'
  have e10 : ((0 : Int) == 1) = false := by decide
  cases hz : decide (l.length = 0)
  · simp only [decide_eq_false_iff_not] at hz
    have hc1 : (1 : Int).toNat ≠ c := by simp; omega
    have hd : hp (dw w') g = some (.cells cur 45 (0, 0)) := (Ym _ _).trans hh
    have hf : css.flatten.length ≤ cur.size := by
      have : css.flatten.length = l.length * 6 := hnl
      omega
    have ap := app_at (P := P) (ty := 32) el_32 (w := dw w') (cap := c) (m := l.length) (c := c - 1) hd (hA2.mono (Ext.keep (dw_ext w'))) hnl L2.ones (by omega) hf
    obtain ⟨n1, hn1⟩ : ∃ n1 : List Value, n1 = css.flatten ++ cur.toList.drop css.flatten.length := ⟨_, rfl⟩
    rw [← hn1] at ap
    have hn1l : n1.length = cur.size := by
      rw [hn1]
      simp only [List.length_append, List.length_drop, Array.length_toList]
      exact Nat.add_sub_of_le hf
    have h1 : hp ((dw w').setRow g n1.toArray) g = some (.cells n1.toArray 45 (0, 0)) := (by first | assumption | rfl | (simp (maxSteps := 1000000) (disch := first | assumption | omega | (simp only [World.size_alloc, size_setRow, Za] <;> omega) | (simp only [List.length_set, Array.length_toList, List.length_cons, List.length_nil, List.length_append, Zn] <;> omega) | (simp only [List.all_cons, List.all_nil, Value.oneCell', Bool.and_self, Bool.and_true]; done)) [-Option.bind_some, Zb, Zc, Zd, Zh, Ze, Zi, Zt, Zk, Zr, Zs, Yg, Yf, Yh, -Zl, -Zm, Ye, Ya, Yd, Zx, Zz, Zw, Zq, Zj, Zf, Zg, Zy, Yb, Yc, Zv, Zp, Zo, Zu, hd, e10]; done))
    have cl := clr_at (P := P) (ty := 0) el_32 zz_45 rfl (by rfl) (w := (dw w').setRow g n1.toArray) (o := l.length * 6) (c := c - l.length) h1 (by simp only [List.size_toArray, hn1l]; omega)
    simp (maxSteps := 1000000) (disch := first | assumption | omega | (simp only [World.size_alloc, size_setRow, Za] <;> omega) | (simp only [List.length_set, Array.length_toList, List.length_cons, List.length_nil, List.length_append, Zn] <;> omega) | (simp only [List.all_cons, List.all_nil, Value.oneCell', Bool.and_self, Bool.and_true]; done)) [-Option.bind_some, Zb, Zc, Zd, Zh, Ze, Zi, Zt, Zk, Zr, Zs, Yg, Yf, Yh, -Zl, -Zm, Ye, Ya, Yd, Zx, Zz, Zw, Zq, Zj, Zf, Zg, Zy, Yb, Yc, Zv, Zp, Zo, Zu, hsv, e10, sl_h (P := P) el_32, sl_l (P := P) el_32, hc1, ap, e10]
    have sh := sl_lh (P := P) el_32 (b := g) (o := 0) (len := l.length) (cap := c) (l := (l.length : Int)) (n := (l.length : Int) + 1) (by omega) (by omega) (by omega) (by simp only [Int.toNat_natCast]; omega) ((dw w').setRow g n1.toArray)
    rw [show ((l.length : Int) + 1).toNat - (l.length : Int).toNat = 1 by omega, show c - (l.length : Int).toNat = c - l.length by simp, show 0 + (l.length : Int).toNat * 6 = l.length * 6 by simp] at sh
    rw [sh, Option.bind_some]
    dsimp only
    rw [cl, Option.bind_some]
    have h2 : hp (((dw w').setRow g n1.toArray).setRow g (n1.toArray.toList.take (l.length * 6) ++ [i64 0, i64 0, i64 0, .slice none 0 0, .string ⟨#[]⟩, .bool false] ++ n1.toArray.toList.drop (l.length * 6 + 6)).toArray) g = some (.cells (n1.toArray.toList.take (l.length * 6) ++ [i64 0, i64 0, i64 0, .slice none 0 0, .string ⟨#[]⟩, .bool false] ++ n1.toArray.toList.drop (l.length * 6 + 6)).toArray 45 (0, 0)) := by
      rw [hp_set_eq, h1]
      rfl
    have M2 : Mod (fun b => b = g) w' (((dw w').setRow g n1.toArray).setRow g (n1.toArray.toList.take (l.length * 6) ++ [i64 0, i64 0, i64 0, .slice none 0 0, .string ⟨#[]⟩, .bool false] ++ n1.toArray.toList.drop (l.length * 6 + 6)).toArray) := ((Mod.dw (fun b => b = g) w').set' (.inr rfl) _).set' (.inr rfl) _
    have zM2 := M2.size
    try simp only [World.size_alloc, size_setRow, Za] at zM2
    refine ⟨_, rfl, hQ _ ⟨rfl, fin _ _ h2 ?_ ?_ M2, M2⟩⟩
    · simp only [List.size_toArray, List.length_append, List.length_take, List.length_drop, hn1l, List.length_cons, List.length_nil]
      omega
    · rw [List.toList_toArray, List.append_assoc, List.take_append_of_le_length (by rw [List.length_take, List.toList_toArray, hn1l]; omega), List.take_take, Nat.min_self, List.toList_toArray, hn1, ← hnl, List.take_left]
  · simp only [decide_eq_true_eq] at hz
    obtain rfl : l = [] := List.eq_nil_of_length_eq_zero hz
    simp only [List.length_nil, Nat.zero_mul, Nat.zero_add, Nat.one_mul] at *
    obtain rfl : css = [] := List.eq_nil_of_length_eq_zero (by simpa using cl1)
    have hd : hp (dw w') g = some (.cells cur 45 (0, 0)) := (Ym _ _).trans hh
    have cl := clr_at (P := P) (ty := 0) el_32 zz_45 rfl (by rfl) (w := dw w') (o := 0) (c := c) hd (by omega)
    have sh := sl_lh (P := P) el_32 (b := g) (o := 0) (len := 0) (cap := c) (l := 0) (n := 1) (by omega) (by omega) (by omega) (by simp; omega) (dw w')
    have tl : ∃ q d, sl P 32 (.slice (some ⟨g, 0, none⟩) 1 c) (some (i64 1)) none none (dw w') = some (.slice (some ⟨g, q, none⟩) 0 d, dw w') := by
      by_cases hc1 : c = 1
      · subst hc1
        exact ⟨_, _, sl_l1 (P := P) el_32 (by omega) (dw w')⟩
      · exact ⟨_, _, sl_l (P := P) el_32 (n := 1) (by omega) (by omega) (by simp; omega) (dw w')⟩
    obtain ⟨q, d, tl⟩ := tl
    have an := app_none (P := P) (ty := 32) el_32 (some ⟨g, 0, none⟩) (some ⟨g, q, none⟩) 0 c d (by omega) (dw w')
    obtain ⟨sv', hsv'⟩ := sl_lhm (P := P) el_32 (a := some ⟨g, 0, none⟩) (len := 1) (cap := c) (l := 0) (n := 1) (m := 1) (by omega) (by omega) (by omega) (by omega) w'
    rw [show (1 : Int).toNat - (0 : Int).toNat = 1 by decide, show c - (0 : Int).toNat = c by simp, show 0 + (0 : Int).toNat * 6 = 0 by simp] at sh
    simp (maxSteps := 1000000) (disch := first | assumption | omega | (simp only [World.size_alloc, size_setRow, Za] <;> omega) | (simp only [List.length_set, Array.length_toList, List.length_cons, List.length_nil, List.length_append, Zn] <;> omega) | (simp only [List.all_cons, List.all_nil, Value.oneCell', Bool.and_self, Bool.and_true]; done)) [-Option.bind_some, Zb, Zc, Zd, Zh, Ze, Zi, Zt, Zk, Zr, Zs, Yg, Yf, Yh, -Zl, -Zm, Ye, Ya, Yd, Zx, Zz, Zw, Zq, Zj, Zf, Zg, Zy, Yb, Yc, Zv, Zp, Zo, Zu, hsv', e10, sl_h (P := P) el_32, tl, an, e10]
    rw [sh, Option.bind_some]
    dsimp only
    rw [cl, Option.bind_some]
    have M2 := (Mod.dw (fun b => b = g) w').set' (k := g) (.inr rfl) (cur.toList.take 0 ++ [i64 0, i64 0, i64 0, .slice none 0 0, .string ⟨#[]⟩, .bool false] ++ cur.toList.drop (0 + 6)).toArray
    have zM2 := M2.size
    try simp only [World.size_alloc, size_setRow, Za] at zM2
    refine ⟨_, rfl, hQ _ ⟨rfl, fin _ (cur.toList.take 0 ++ [i64 0, i64 0, i64 0, .slice none 0 0, .string ⟨#[]⟩, .bool false] ++ cur.toList.drop (0 + 6)).toArray ?_ ?_ ?_ M2, M2⟩⟩
    · rw [hp_set_eq, hd]
      rfl
    · simp only [List.size_toArray, List.length_append, List.length_take, List.length_drop, List.length_cons, List.length_nil, Array.length_toList]
      omega
    · simp
end Go.Proofs.YtjagkbamkohnoaaGreat.X
set_option linter.unusedVariables false
set_option linter.unusedSimpArgs false
set_option maxRecDepth 100000
set_option maxHeartbeats 1000000
namespace Go.Proofs.YtjagkbamkohnoaaGreat.X
open Go Go.Ev Go.RowKit
def passAt (ns : List CNode) (k : Nat) : List CNode := match ns[k]? with
  | some n => (match n.wait with
    | v :: l => addAt (ns.set k ⟨n.store, l⟩) (k + 1) v
    | [] => ns)
  | none => ns
theorem passAt_eq {ns : List CNode} {k : Nat} {n : CNode} {v : Ver} {l : List Ver} (hn : ns[k]? = some n) (hw : n.wait = v :: l) : passAt ns k = addAt (ns.set k ⟨n.store, l⟩) (k + 1) v := by
  rw [passAt, hn]
  simp only [hw]
def passP (ns : List CNode) (i : Int) : List CNode := if canPass ns i then passAt ns i.toNat else ns
theorem impl_Chain_pass_n {a : Option Addr} {c g1 : Nat} {i : Int} {S : Nat → Prop} {ns : List CNode} {w : World} (hok : chainOk ns = true) (ho : O Yr S w [.slice a ns.length c] ns) (X : hp w g1 = some (.cells #[.slice a ns.length c] 25 (0, 0))) (hg1 : ¬ S g1) :
    Ret (EV P 18 #[pt g1 0, i64 i] w) fun r => r.1 = .bool (canPass ns i) ∧ ∃ a' c', hp r.2 g1 = some (.cells #[.slice a' (passP ns i).length c'] 25 (0, 0)) ∧
      O Yr (fun b => S b ∨ In w.heap.size r.2.heap.size b) r.2 [.slice a' (passP ns i).length c'] (passP ns i) ∧ Mod (fun b => S b ∨ b = g1) w r.2 := by
  obtain ⟨_, _, _, hl0, hl4⟩ := chainOk_head hok
  have hm := ho.n
  have y1 := Yq X
  have hw : IntKind.i64.wrap ((ns.length : Int) - 2) = (ns.length : Int) - 2 := w64 (by omega) (by omega)
  have neg : canPass ns i = false → passP ns i = ns := fun h => by rw [passP, h]; rfl
  refine Ret.post fun Q hQ => ?_
  refine Ret.enter plain Yo (impl_Chain_pass_fn _ _ _) (by kernel_rfl) (n := 2) (by kernel_rfl) rfl ?_
  simp (maxSteps := 1000000) (disch := first | assumption | omega | (simp only [World.size_alloc, size_setRow, Za] <;> omega) | (simp only [List.length_set, Array.length_toList, List.length_cons, List.length_nil, List.length_append, Zn] <;> omega) | (simp only [List.all_cons, List.all_nil, Value.oneCell', Bool.and_self, Bool.and_true]; done)) [-Option.bind_some, Zb, Zc, Zd, Zh, Ze, Zi, Zt, Zk, Zr, Zs, Yg, Yf, Yh, -Zl, -Zm, Ye, Ya, Yd, Zx, Zz, Zw, Zq, Zj, Zf, Zg, Zy, Yb, Yc, Zv, Zp, Zo, Zu, nk_ptr, X, hw]
  refine Ret.bind (impl_within_c _ _ _ _) ?_
  rintro _ rfl
  cases hi : (decide (0 ≤ i) && decide (i ≤ (ns.length : Int) - 2))
  · have h1 : canPass ns i = false := by simp only [canPass, hi, Bool.false_and]
    rw [neg h1, h1] at hQ
    simp (maxSteps := 1000000) (disch := first | assumption | omega | (simp only [World.size_alloc, size_setRow, Za] <;> omega) | (simp only [List.length_set, Array.length_toList, List.length_cons, List.length_nil, List.length_append, Zn] <;> omega) | (simp only [List.all_cons, List.all_nil, Value.oneCell', Bool.and_self, Bool.and_true]; done)) [-Option.bind_some, Zb, Zc, Zd, Zh, Ze, Zi, Zt, Zk, Zr, Zs, Yg, Yf, Yh, -Zl, -Zm, Ye, Ya, Yd, Zx, Zz, Zw, Zq, Zj, Zf, Zg, Zy, Yb, Yc, Zv, Zp, Zo, Zu, hi]
    exact hQ _ ⟨rfl, a, c, (by first | assumption | rfl | (simp (maxSteps := 1000000) (disch := first | assumption | omega | (simp only [World.size_alloc, size_setRow, Za] <;> omega) | (simp only [List.length_set, Array.length_toList, List.length_cons, List.length_nil, List.length_append, Zn] <;> omega) | (simp only [List.all_cons, List.all_nil, Value.oneCell', Bool.and_self, Bool.and_true]; done)) [-Option.bind_some, Zb, Zc, Zd, Zh, Ze, Zi, Zt, Zk, Zr, Zs, Yg, Yf, Yh, -Zl, -Zm, Ye, Ya, Yd, Zx, Zz, Zw, Zq, Zj, Zf, Zg, Zy, Yb, Yc, Zv, Zp, Zo, Zu, X]; done)), (ho.keep (by intro b hS hb; (try dsimp only at hS); (try simp only [In, World.size_alloc, size_setRow, Za] at hS hb); first | rfl | (simp (disch := first | assumption | omega | (simp only [World.size_alloc, size_setRow, Za]; omega) | (simp only [World.size_alloc, size_setRow, Za, In]; omega)) only [Zb, Zd, Ym]; done))).wide (fun b h _ => .inl h), Mod.of (by (repeat (first | exact Ext.rfl | assumption | (refine Ext.al ?_ _) | (refine Ext.dw ?_) | (refine Ext.set ?_ (by first | omega | (simp only [World.size_alloc, size_setRow, Za]; omega)) _) | (refine Ext.tr ?_ (by assumption))))) _⟩
  have hi' := hi
  simp only [Bool.and_eq_true, decide_eq_true_eq] at hi'
  obtain ⟨k, rfl⟩ := Int.eq_ofNat_of_zero_le hi'.1
  obtain ⟨x, hx, _⟩ := Yk (l := ns) (k := k) (by omega)
  obtain ⟨y, hy, _⟩ := Yk (l := ns) (k := k + 1) (by omega)
  have h1 : canPass ns k = (decide (0 < x.wait.length) && decide (y.wait.length < 6)) := by simp only [canPass, hi, Int.toNat_natCast, hx, hy, Bool.true_and]
  have hkl : k < ns.length := by omega
  obtain ⟨g, cur, ds, S2, rfl, hSg, hgl, hg, hle, hx1, hS2, put⟩ := ho.row2 (by decide) hx
  obtain ⟨a2, c2, a3, c3, Ss, Sw, rfl, o2, o3, hSs, hSw⟩ := O.node_un hx1
  simp only [Yn] at hg hle put
  cases hxw : x.wait with
  | nil =>
    have h2 : canPass ns k = false := by rw [h1, hxw]; rfl
    rw [neg h2, h2] at hQ
    have hz : ((x.wait.length : Int) == 0) = true := by rw [hxw]; rfl
    rw [hxw] at hg
    simp (maxSteps := 1000000) (disch := first | assumption | omega | (simp only [World.size_alloc, size_setRow, Za] <;> omega) | (simp only [List.length_set, Array.length_toList, List.length_cons, List.length_nil, List.length_append, Zn] <;> omega) | (simp only [List.all_cons, List.all_nil, Value.oneCell', Bool.and_self, Bool.and_true]; done)) [-Option.bind_some, Zb, Zc, Zd, Zh, Ze, Zi, Zt, Zk, Zr, Zs, Yg, Yf, Yh, -Zl, -Zm, Ye, Ya, Yd, Zx, Zz, Zw, Zq, Zj, Zf, Zg, Zy, Yb, Yc, Zv, Zp, Zo, Zu, hi, nk_ptr, X, ia_23, hg, hkl, hg]
    exact hQ _ ⟨rfl, _, c, (by first | assumption | rfl | (simp (maxSteps := 1000000) (disch := first | assumption | omega | (simp only [World.size_alloc, size_setRow, Za] <;> omega) | (simp only [List.length_set, Array.length_toList, List.length_cons, List.length_nil, List.length_append, Zn] <;> omega) | (simp only [List.all_cons, List.all_nil, Value.oneCell', Bool.and_self, Bool.and_true]; done)) [-Option.bind_some, Zb, Zc, Zd, Zh, Ze, Zi, Zt, Zk, Zr, Zs, Yg, Yf, Yh, -Zl, -Zm, Ye, Ya, Yd, Zx, Zz, Zw, Zq, Zj, Zf, Zg, Zy, Yb, Yc, Zv, Zp, Zo, Zu, X, hg]; done)), (ho.keep (by intro b hS hb; (try dsimp only at hS); (try simp only [In, World.size_alloc, size_setRow, Za] at hS hb); first | rfl | (simp (disch := first | assumption | omega | (simp only [World.size_alloc, size_setRow, Za]; omega) | (simp only [World.size_alloc, size_setRow, Za, In]; omega)) only [Zb, Zd, Ym]; done))).wide (fun b h _ => .inl h), Mod.of (by (repeat (first | exact Ext.rfl | assumption | (refine Ext.al ?_ _) | (refine Ext.dw ?_) | (refine Ext.set ?_ (by first | omega | (simp only [World.size_alloc, size_setRow, Za]; omega)) _) | (refine Ext.tr ?_ (by assumption))))) _⟩
  | cons v l =>
    have hnz : ((x.wait.length : Int) == 0) = false := by rw [hxw, beq_eq_false_iff_ne]; simp; omega
    simp (maxSteps := 1000000) (disch := first | assumption | omega | (simp only [World.size_alloc, size_setRow, Za] <;> omega) | (simp only [List.length_set, Array.length_toList, List.length_cons, List.length_nil, List.length_append, Zn] <;> omega) | (simp only [List.all_cons, List.all_nil, Value.oneCell', Bool.and_self, Bool.and_true]; done)) [-Option.bind_some, Zb, Zc, Zd, Zh, Ze, Zi, Zt, Zk, Zr, Zs, Yg, Yf, Yh, -Zl, -Zm, Ye, Ya, Yd, Zx, Zz, Zw, Zq, Zj, Zf, Zg, Zy, Yb, Yc, Zv, Zp, Zo, Zu, hi, nk_ptr, X, ia_23, hg, hkl, hnz, hg]
    refine Ret.bind (impl_Chain_full_m (i := k + 1) hy (ho.d.ext (by (repeat (first | exact Ext.rfl | assumption | (refine Ext.al ?_ _) | (refine Ext.dw ?_) | (refine Ext.set ?_ (by first | omega | (simp only [World.size_alloc, size_setRow, Za]; omega)) _) | (refine Ext.tr ?_ (by assumption)))))) (by first | assumption | rfl | (simp (maxSteps := 1000000) (disch := first | assumption | omega | (simp only [World.size_alloc, size_setRow, Za] <;> omega) | (simp only [List.length_set, Array.length_toList, List.length_cons, List.length_nil, List.length_append, Zn] <;> omega) | (simp only [List.all_cons, List.all_nil, Value.oneCell', Bool.and_self, Bool.and_true]; done)) [-Option.bind_some, Zb, Zc, Zd, Zh, Ze, Zi, Zt, Zk, Zr, Zs, Yg, Yf, Yh, -Zl, -Zm, Ye, Ya, Yd, Zx, Zz, Zw, Zq, Zj, Zf, Zg, Zy, Yb, Yc, Zv, Zp, Zo, Zu, X, hg]; done))) ?_
    rintro ⟨_, w1⟩ ⟨rfl, E1⟩
    try dsimp only at E1
    have zE1 := E1.size
    try simp only [World.size_alloc, size_setRow, Za] at zE1
    cases h6 : decide (6 ≤ y.wait.length)
    · have h2 : canPass ns k = true := by
        simp only [decide_eq_false_iff_not] at h6
        rw [h1, hxw]
        simp only [List.length_cons, Bool.and_eq_true, decide_eq_true_eq]
        omega
      have hp2 : passP ns k = addAt (ns.set k ⟨x.store, l⟩) (k + 1) v := by rw [passP, h2, if_pos rfl, Int.toNat_natCast, passAt_eq hx hxw]
      rw [h2, hp2, addAt_length, List.length_set] at hQ
      rw [hxw] at o3 hg
      obtain ⟨gw, cs, S1, rfl, hSgw, hgwl, Aw, hcs6, ov, hS1, _, del⟩ := slices_Delete_Ver_n o3
      have ov' := ov
      obtain ⟨av, cv, hcs, ov1, ovt⟩ := O.ver.1 ov
      subst hcs
      have p0 := Aw 0 _ rfl
      have p1 := Aw 1 _ rfl
      have p2 := Aw 2 _ rfl
      have p3 := Aw 3 _ rfl
      have p4 := Aw 4 _ rfl
      have p5 := Aw 5 _ rfl
      simp only [LVer_n, LTag_n, Yn, Nat.add_zero] at p0 p1 p2 p3 p4 p5
      have hne : gw ≠ g := (hS2 gw (hSw gw hSgw).1).2.1
      have hn1 : g1 ≠ g := fun h => hg1 (h ▸ hSg)
      have hn2 : g1 ≠ gw := fun h => hg1 (h ▸ (hS2 gw (hSw gw hSgw).1).1)
      simp (maxSteps := 1000000) (disch := first | assumption | omega | (simp only [World.size_alloc, size_setRow, Za] <;> omega) | (simp only [List.length_set, Array.length_toList, List.length_cons, List.length_nil, List.length_append, Zn] <;> omega) | (simp only [List.all_cons, List.all_nil, Value.oneCell', Bool.and_self, Bool.and_true]; done)) [-Option.bind_some, Zb, Zc, Zd, Zh, Ze, Zi, Zt, Zk, Zr, Zs, Yg, Yf, Yh, -Zl, -Zm, Ye, Ya, Yd, Zx, Zz, Zw, Zq, Zj, Zf, Zg, Zy, Yb, Yc, Zv, Zp, Zo, Zu, hi, nk_ptr, X, ia_23, ia_32, hg, hkl, hg, E1.blk, p0, p1, p2, p3, p4, p5]
      refine Ret.bind (del _ (by (repeat (first | exact Ext.rfl | assumption | (refine Ext.al ?_ _) | (refine Ext.dw ?_) | (refine Ext.set ?_ (by first | omega | (simp only [World.size_alloc, size_setRow, Za]; omega)) _) | (refine Ext.tr ?_ (by assumption)))))) ?_
      rintro ⟨_, w2⟩ ⟨rfl, o4, M2⟩
      have zM2 := M2.size
      try simp only [World.size_alloc, size_setRow, Za] at zM2
      try dsimp only at o4 M2
      have zM2 := M2.size
      simp only [World.size_alloc, Za] at zM2
      obtain ⟨k1, k2, o5⟩ := o4.clip
      have hk2 : ∀ b, b < w.heap.size → b ≠ gw → hp w2 b = hp w b := fun b q1 q2 => (M2.blk b (by (try simp only [In, World.size_alloc, size_setRow, Za] at *); omega) q2).trans (by first | assumption | rfl | (simp (maxSteps := 1000000) (disch := first | assumption | omega | (simp only [World.size_alloc, size_setRow, Za] <;> omega) | (simp only [List.length_set, Array.length_toList, List.length_cons, List.length_nil, List.length_append, Zn] <;> omega) | (simp only [List.all_cons, List.all_nil, Value.oneCell', Bool.and_self, Bool.and_true]; done)) [-Option.bind_some, Zb, Zc, Zd, Zh, Ze, Zi, Zt, Zk, Zr, Zs, Yg, Yf, Yh, hg, E1.blk, p0, p1, p2, p3, p4, p5, M2.blk]; done))
      have G2 := (hk2 g hgl (Ne.symm hne)).trans hg
      have X2 := (hk2 g1 y1 hn2).trans X
      have B2 : hp w2 w1.heap.size = some (.cells #[i64 v.key, i64 v.tag.t, i64 v.tag.p, .slice av v.past.length cv, .string v.text, .bool v.gone] 45 (0, 0)) := (M2.blk w1.heap.size (by (try simp only [In, World.size_alloc, size_setRow, Za] at *); omega) (by have := E1.size; (try simp only [World.size_alloc, Za] at this); omega)).trans (by first | assumption | rfl | (simp (maxSteps := 1000000) (disch := first | assumption | omega | (simp only [World.size_alloc, size_setRow, Za] <;> omega) | (simp only [List.length_set, Array.length_toList, List.length_cons, List.length_nil, List.length_append, Zn] <;> omega) | (simp only [List.all_cons, List.all_nil, Value.oneCell', Bool.and_self, Bool.and_true]; done)) [-Option.bind_some, Zb, Zc, Zd, Zh, Ze, Zi, Zt, Zk, Zr, Zs, Yg, Yf, Yh, -Zl, -Zm, Ye, Ya, Yd, Zx, Zz, Zw, Zq, Zj, Zf, Zg, Zy, Yb, Yc, Zv, Zp, Zo, Zu, hg, E1.blk, p0, p1, p2, p3, p4, p5, M2.blk, X2]; done))
      simp (maxSteps := 1000000) (disch := first | assumption | omega | (simp only [World.size_alloc, size_setRow, Za] <;> omega) | (simp only [List.length_set, Array.length_toList, List.length_cons, List.length_nil, List.length_append, Zn] <;> omega) | (simp only [List.all_cons, List.all_nil, Value.oneCell', Bool.and_self, Bool.and_true]; done)) [-Option.bind_some, Zb, Zc, Zd, Zh, Ze, Zi, Zt, Zk, Zr, Zs, Yg, Yf, Yh, -Zl, -Zm, Ye, Ya, Yd, Zx, Zz, Zw, Zq, Zj, Zf, Zg, Zy, Yb, Yc, Zv, Zp, Zo, Zu, nk_ptr, X2, hg, E1.blk, p0, p1, p2, p3, p4, p5, M2.blk, X2]
      refine Ret.bind (slices_Clip_Ver_m k1 k2) ?_
      rintro _ rfl
      simp (maxSteps := 1000000) (disch := first | assumption | omega | (simp only [World.size_alloc, size_setRow, Za] <;> omega) | (simp only [List.length_set, Array.length_toList, List.length_cons, List.length_nil, List.length_append, Zn] <;> omega) | (simp only [List.all_cons, List.all_nil, Value.oneCell', Bool.and_self, Bool.and_true]; done)) [-Option.bind_some, Zb, Zc, Zd, Zh, Ze, Zi, Zt, Zk, Zr, Zs, Yg, Yf, Yh, -Zl, -Zm, Ye, Ya, Yd, Zx, Zz, Zw, Zq, Zj, Zf, Zg, Zy, Yb, Yc, Zv, Zp, Zo, Zu, nk_ptr, X2, G2, B2, ia_23, hkl, hg, E1.blk, p0, p1, p2, p3, p4, p5, M2.blk, X2]
      obtain ⟨W3, hW3⟩ : ∃ W3 : World, W3 = w2.setRow g (rowv cur (k * 2) [.slice a2 x.store.length c2, .slice (some ⟨gw, 0, none⟩) l.length l.length]).toArray := ⟨_, rfl⟩
      rw [← hW3]
      have F1 : Ext w w1 := by (repeat (first | exact Ext.rfl | assumption | (refine Ext.al ?_ _) | (refine Ext.dw ?_) | (refine Ext.set ?_ (by first | omega | (simp only [World.size_alloc, size_setRow, Za]; omega)) _) | (refine Ext.tr ?_ (by assumption))))
      have zF1 := F1.size
      have sW : W3.heap.size = w2.heap.size := by rw [hW3, size_setRow]
      have kW : ∀ b, b ≠ g → hp W3 b = hp w2 b := fun b q => by rw [hW3, Zd q]
      have gW : hp W3 g = some (.cells (rowv cur (k * 2) [.slice a2 x.store.length c2, .slice (some ⟨gw, 0, none⟩) l.length l.length]).toArray 36 (0, 0)) := by
        rw [hW3]
        exact (by first | assumption | rfl | (simp (maxSteps := 1000000) (disch := first | assumption | omega | (simp only [World.size_alloc, size_setRow, Za] <;> omega) | (simp only [List.length_set, Array.length_toList, List.length_cons, List.length_nil, List.length_append, Zn] <;> omega) | (simp only [List.all_cons, List.all_nil, Value.oneCell', Bool.and_self, Bool.and_true]; done)) [-Option.bind_some, Zb, Zc, Zd, Zh, Ze, Zi, Zt, Zk, Zr, Zs, Yg, Yf, Yh, -Zl, -Zm, Ye, Ya, Yd, Zx, Zz, Zw, Zq, Zj, Zf, Zg, Zy, Yb, Yc, Zv, Zp, Zo, Zu, G2, hg, E1.blk, p0, p1, p2, p3, p4, p5, M2.blk, X2]; done))
      have MM : Mod S w W3 := by
        rw [hW3]
        exact (Mod.after' (Mod.of (by (repeat (first | exact Ext.rfl | assumption | (refine Ext.al ?_ _) | (refine Ext.dw ?_) | (refine Ext.set ?_ (by first | omega | (simp only [World.size_alloc, size_setRow, Za]; omega)) _) | (refine Ext.tr ?_ (by assumption))))) S) M2 (fun x _ h => (by rw [h]; exact (hS2 _ (hSw _ hSgw).1).1))).set' (.inr hSg) _
      have oW := put W3 _ ⟨x.store, l⟩ _ (O.node_mk (v := ⟨x.store, l⟩) (o2.keep (w' := W3) (fun b hS hb => (kW b (hS2 b (hSs b hS).1).2.1).trans (hk2 b hb (fun e => (hSs b hS).2.1 (e ▸ hSgw))))) (o5.keep (w' := W3) (fun b hS hb => kW b (hS2 b (hSw b hS.1).1).2.1)) (fun b _ h1 h2 => (hSs b h1).2.1 h2.1)) gW
        (fun b hb _ hne' hn => (kW b hne').trans (hk2 b hb (fun e => hn (e ▸ (hSw gw hSgw).1)))) (fun b _ h => .inl (h.elim (fun h => (hSs b h).1) (fun h => (hSw b h.1).1)))
      have hv3 := ov'.d.keep (w' := W3) (fun b hS hb => (kW b (hS2 b (hSw b (hS1 b hS).1).1).2.1).trans (hk2 b hb (hS1 b hS).2.1))
      have X3 := (kW g1 hn1).trans X2
      obtain ⟨ns', hns'⟩ : ∃ ns' : List CNode, ns' = ns.set k ⟨x.store, l⟩ := ⟨_, rfl⟩
      have hl' : ns'.length = ns.length := by rw [hns', List.length_set]
      have hy' : ns'[k + 1]? = some y := by rw [hns', List.getElem?_set_ne (by omega)]; exact hy
      rw [← hns'] at oW hQ
      rw [← hl'] at oW X3 hQ
      have hall : ∀ n ∈ ns, nodeOk n = true := by
        simp only [chainOk, Bool.and_eq_true, List.all_eq_true] at hok
        exact hok.1.2
      obtain ⟨_, _, xv⟩ := nodeOk_parts (hall x (List.mem_of_getElem? hx))
      obtain ⟨ys, y6, _⟩ := nodeOk_parts (hall y (List.mem_of_getElem? hy))
      have ys4 := storeOk_len ys
      have hvk := verOk_key (xv v (by rw [hxw]; exact List.mem_cons_self))
      refine Ret.bind (impl_Chain_apply_n (i := k + 1) oW X3 ?_ hv3 ?_ hy' hvk.1 (by omega) (by omega) (by omega)) ?_
      · rintro (h | h | h)
        · exact hg1 h.1
        · exact hg1 (hS2 _ (hSs _ h).1).1
        · exact hg1 (hS2 _ (hSw _ h.1).1).1
      · intro b _ hb h
        rcases h with h | h | h
        · exact h.2 (hSw b (hS1 b hb).1).1
        · exact (hSw b (hS1 b hb).1).2.1 h
        · exact h.2 hb
      rintro ⟨_, w5⟩ ⟨rfl, X5, o6, M5⟩
      have zM5 := M5.size
      try simp only [World.size_alloc, size_setRow, Za] at zM5
      try dsimp only at o6 M5 X5
      have zM5 := M5.size
      simp (maxSteps := 1000000) (disch := first | assumption | omega | (simp only [World.size_alloc, size_setRow, Za] <;> omega) | (simp only [List.length_set, Array.length_toList, List.length_cons, List.length_nil, List.length_append, Zn] <;> omega) | (simp only [List.all_cons, List.all_nil, Value.oneCell', Bool.and_self, Bool.and_true]; done)) [-Option.bind_some, Zb, Zc, Zd, Zh, Ze, Zi, Zt, Zk, Zr, Zs, Yg, Yf, Yh, -Zl, -Zm, Ye, Ya, Yd, Zx, Zz, Zw, Zq, Zj, Zf, Zg, Zy, Yb, Yc, Zv, Zp, Zo, Zu, hg, E1.blk, p0, p1, p2, p3, p4, p5, M2.blk, X2, X3, X5, M5.blk]
      have sub : ∀ b, ((S b ∧ ¬ S2 b) ∨ (Ss b ∨ (Sw b ∧ ¬ S1 b))) → S b := fun b h => h.elim (fun h => h.1) (fun h => h.elim (fun h => (hS2 b (hSs b h).1).1) (fun h => (hS2 b (hSw b h.1).1).1))
      refine hQ _ ⟨rfl, _, c, X5, o6.wide ?_, Mod.weak (Mod.after' MM M5 (fun b _ h => sub b h)) (fun b _ h => .inl h)⟩
      intro b h1 h2
      rcases h1 with h | h
      · exact .inl (sub b h)
      · simp only [In] at *
        exact .inr (by omega)
    · have h2 : canPass ns k = false := by
        simp only [decide_eq_true_eq] at h6
        rw [h1]
        simp only [Bool.and_eq_false_iff, decide_eq_false_iff_not]
        omega
      rw [neg h2, h2] at hQ
      simp (maxSteps := 1000000) (disch := first | assumption | omega | (simp only [World.size_alloc, size_setRow, Za] <;> omega) | (simp only [List.length_set, Array.length_toList, List.length_cons, List.length_nil, List.length_append, Zn] <;> omega) | (simp only [List.all_cons, List.all_nil, Value.oneCell', Bool.and_self, Bool.and_true]; done)) [-Option.bind_some, Zb, Zc, Zd, Zh, Ze, Zi, Zt, Zk, Zr, Zs, Yg, Yf, Yh, -Zl, -Zm, Ye, Ya, Yd, Zx, Zz, Zw, Zq, Zj, Zf, Zg, Zy, Yb, Yc, Zv, Zp, Zo, Zu, hg, E1.blk]
      exact hQ _ ⟨rfl, _, c, (by first | assumption | rfl | (simp (maxSteps := 1000000) (disch := first | assumption | omega | (simp only [World.size_alloc, size_setRow, Za] <;> omega) | (simp only [List.length_set, Array.length_toList, List.length_cons, List.length_nil, List.length_append, Zn] <;> omega) | (simp only [List.all_cons, List.all_nil, Value.oneCell', Bool.and_self, Bool.and_true]; done)) [-Option.bind_some, Zb, Zc, Zd, Zh, Ze, Zi, Zt, Zk, Zr, Zs, Yg, Yf, Yh, -Zl, -Zm, Ye, Ya, Yd, Zx, Zz, Zw, Zq, Zj, Zf, Zg, Zy, Yb, Yc, Zv, Zp, Zo, Zu, X, hg, E1.blk]; done)), (ho.keep (by intro b hS hb; (try dsimp only at hS); (try simp only [In, World.size_alloc, size_setRow, Za] at hS hb); first | rfl | (simp (disch := first | assumption | omega | (simp only [World.size_alloc, size_setRow, Za]; omega) | (simp only [World.size_alloc, size_setRow, Za, In]; omega)) only [E1.blk, Zb, Zd, Ym]; done))).wide (fun b h _ => .inl h), Mod.of (by (repeat (first | exact Ext.rfl | assumption | (refine Ext.al ?_ _) | (refine Ext.dw ?_) | (refine Ext.set ?_ (by first | omega | (simp only [World.size_alloc, size_setRow, Za]; omega)) _) | (refine Ext.tr ?_ (by assumption))))) _⟩
end Go.Proofs.YtjagkbamkohnoaaGreat.X
set_option linter.unusedVariables false
set_option linter.unusedSimpArgs false
set_option maxRecDepth 100000
set_option maxHeartbeats 1000000
namespace Go.Proofs.YtjagkbamkohnoaaGreat.X
open Go Go.Ev Go.RowKit
def chainPassP (ns : List CNode) (i : Int) : List CNode := if chainOk ns then passP ns i else []
def chainPassB (ns : List CNode) (i : Int) : Bool := chainOk ns && canPass ns i
theorem impl_ChainPass_n {a : Option Addr} {n c : Nat} {i : Int} {S : Nat → Prop} {ns : List CNode} {w : World} (ha : D Yr S w [.slice a n c] ns) :
    Ret (EV P 5 #[.agg #[.slice a n c], i64 i] w) fun r => ∃ a' c', r.1 = .tuple #[.agg #[.slice a' (chainPassP ns i).length c'], .bool (chainPassB ns i)] ∧ O Yr (In w.heap.size r.2.heap.size) r.2 [.slice a' (chainPassP ns i).length c'] (chainPassP ns i) ∧ Ext w r.2 := by
  obtain ⟨rfl, hm, _⟩ := ha.n
  refine Ret.post fun Q hQ => ?_
  refine Ret.enter plain Yo (impl_ChainPass_fn _ _ _) (by kernel_rfl) (n := 2) (by kernel_rfl) rfl ?_
  simp (maxSteps := 1000000) (disch := first | assumption | omega | (simp only [World.size_alloc, size_setRow, Za] <;> omega) | (simp only [List.length_set, Array.length_toList, List.length_cons, List.length_nil, List.length_append, Zn] <;> omega) | (simp only [List.all_cons, List.all_nil, Value.oneCell', Bool.and_self, Bool.and_true]; done)) [-Option.bind_some, Zb, Zc, Zd, Zh, Ze, Zi, Zt, Zk, Zr, Zs, Yg, Yf, Yh, -Zl, -Zm, Ye, Ya, Yd, Zx, Zz, Zw, Zq, Zj, Zf, Zg, Zy, Yb, Yc, Zv, Zp, Zo, Zu]
  refine Ret.bind (impl_ChainOk_m (ha.ext (by (repeat (first | exact Ext.rfl | assumption | (refine Ext.al ?_ _) | (refine Ext.dw ?_) | (refine Ext.set ?_ (by first | omega | (simp only [World.size_alloc, size_setRow, Za]; omega)) _) | (refine Ext.tr ?_ (by assumption))))))) ?_
  rintro ⟨_, w1⟩ ⟨rfl, E1⟩
  try dsimp only at E1
  have zE1 := E1.size
  try simp only [World.size_alloc, size_setRow, Za] at zE1
  cases h : chainOk ns
  · have h1 : chainPassP ns i = [] := by simp [chainPassP, h]
    have h2 : chainPassB ns i = false := by simp [chainPassB, h]
    rw [h1, h2] at hQ
    simp (maxSteps := 1000000) (disch := first | assumption | omega | (simp only [World.size_alloc, size_setRow, Za] <;> omega) | (simp only [List.length_set, Array.length_toList, List.length_cons, List.length_nil, List.length_append, Zn] <;> omega) | (simp only [List.all_cons, List.all_nil, Value.oneCell', Bool.and_self, Bool.and_true]; done)) [-Option.bind_some, Zb, Zc, Zd, Zh, Ze, Zi, Zt, Zk, Zr, Zs, Yg, Yf, Yh, -Zl, -Zm, Ye, Ya, Yd, Zx, Zz, Zw, Zq, Zj, Zf, Zg, Zy, Yb, Yc, Zv, Zp, Zo, Zu, E1.blk]
    exact hQ _ ⟨_, _, rfl, O.nil, by (repeat (first | exact Ext.rfl | assumption | (refine Ext.al ?_ _) | (refine Ext.dw ?_) | (refine Ext.set ?_ (by first | omega | (simp only [World.size_alloc, size_setRow, Za]; omega)) _) | (refine Ext.tr ?_ (by assumption))))⟩
  have h1 : chainPassP ns i = passP ns i := by simp [chainPassP, h]
  have h2 : chainPassB ns i = canPass ns i := by simp [chainPassB, h]
  rw [h1, h2] at hQ
  simp (maxSteps := 1000000) (disch := first | assumption | omega | (simp only [World.size_alloc, size_setRow, Za] <;> omega) | (simp only [List.length_set, Array.length_toList, List.length_cons, List.length_nil, List.length_append, Zn] <;> omega) | (simp only [List.all_cons, List.all_nil, Value.oneCell', Bool.and_self, Bool.and_true]; done)) [-Option.bind_some, Zb, Zc, Zd, Zh, Ze, Zi, Zt, Zk, Zr, Zs, Yg, Yf, Yh, -Zl, -Zm, Ye, Ya, Yd, Zx, Zz, Zw, Zq, Zj, Zf, Zg, Zy, Yb, Yc, Zv, Zp, Zo, Zu, E1.blk]
  have F2 : Ext w w1 := by (repeat (first | exact Ext.rfl | assumption | (refine Ext.al ?_ _) | (refine Ext.dw ?_) | (refine Ext.set ?_ (by first | omega | (simp only [World.size_alloc, size_setRow, Za]; omega)) _) | (refine Ext.tr ?_ (by assumption))))
  have zF2 := F2.size
  have X2 : hp w1 (w.heap.size + 1) = some (.cells #[i64 i] 3 (0, 0)) := (by first | assumption | rfl | (simp (maxSteps := 1000000) (disch := first | assumption | omega | (simp only [World.size_alloc, size_setRow, Za] <;> omega) | (simp only [List.length_set, Array.length_toList, List.length_cons, List.length_nil, List.length_append, Zn] <;> omega) | (simp only [List.all_cons, List.all_nil, Value.oneCell', Bool.and_self, Bool.and_true]; done)) [-Option.bind_some, Zb, Zc, Zd, Zh, Ze, Zi, Zt, Zk, Zr, Zs, Yg, Yf, Yh, -Zl, -Zm, Ye, Ya, Yd, Zx, Zz, Zw, Zq, Zj, Zf, Zg, Zy, Yb, Yc, Zv, Zp, Zo, Zu, E1.blk]; done))
  have hf : ∀ (S : Nat → Prop) (g : Nat) (w' : World) (a : Option Addr) (c : Nat), O Yr S w' [.slice a ns.length c] ns → hp w' g = some (.cells #[.slice a ns.length c] 25 (0, 0)) → ¬ S g → w1.heap.size ≤ g → Ext w1 w' → (∀ b, S b → w1.heap.size ≤ b) →
      Ret (clo P (.func (.func 17) #[] #[pt (w.heap.size + 1) 0]) #[pt g 0] w') fun r => r.1 = .bool (canPass ns i) ∧ ∃ a' c', hp r.2 g = some (.cells #[.slice a' (passP ns i).length c'] 25 (0, 0)) ∧ O Yr (fun b => S b ∨ In w'.heap.size r.2.heap.size b) r.2 [.slice a' (passP ns i).length c'] (passP ns i) ∧ Mod (fun b => S b ∨ b = g) w' r.2 := by
    intro S g w' a c ho X hg hge E3 hS
    have zE3 := E3.size
    try simp only [World.size_alloc, size_setRow, Za] at zE3
    rw [clo_eq (P := P) (g := 17) (by kernel_rfl) [] [pt (w.heap.size + 1) 0] [pt g 0] w']
    have X3 := (E3.blk (Yq X2)).trans X2
    refine Ret.post fun Q hQ => ?_
    refine Ret.enter plain Yo (impl_ChainPass_1_fn _ _ _) (by kernel_rfl) (n := 2) (by kernel_rfl) rfl ?_
    simp (maxSteps := 1000000) (disch := first | assumption | omega | (simp only [World.size_alloc, size_setRow, Za] <;> omega) | (simp only [List.length_set, Array.length_toList, List.length_cons, List.length_nil, List.length_append, Zn] <;> omega) | (simp only [List.all_cons, List.all_nil, Value.oneCell', Bool.and_self, Bool.and_true]; done)) [-Option.bind_some, Zb, Zc, Zd, Zh, Ze, Zi, Zt, Zk, Zr, Zs, Yg, Yf, Yh, -Zl, -Zm, Ye, Ya, Yd, Zx, Zz, Zw, Zq, Zj, Zf, Zg, Zy, Yb, Yc, Zv, Zp, Zo, Zu, X3, E1.blk, X2, hg, E3.blk, X3]
    refine Ret.bind (impl_Chain_pass_n h ho X hg) ?_
    rintro ⟨_, w4⟩ ⟨rfl, rest⟩
    simp (maxSteps := 1000000) (disch := first | assumption | omega | (simp only [World.size_alloc, size_setRow, Za] <;> omega) | (simp only [List.length_set, Array.length_toList, List.length_cons, List.length_nil, List.length_append, Zn] <;> omega) | (simp only [List.all_cons, List.all_nil, Value.oneCell', Bool.and_self, Bool.and_true]; done)) [-Option.bind_some, Zb, Zc, Zd, Zh, Ze, Zi, Zt, Zk, Zr, Zs, Yg, Yf, Yh, -Zl, -Zm, Ye, Ya, Yd, Zx, Zz, Zw, Zq, Zj, Zf, Zg, Zy, Yb, Yc, Zv, Zp, Zo, Zu, E1.blk, X2, hg, E3.blk, X3]
    exact hQ _ ⟨rfl, rest⟩
  refine Ret.bind (impl_tried_n (ha.ext F2) hf) ?_
  rintro ⟨_, w3⟩ ⟨a3, c3, rfl, o3, E3⟩
  try dsimp only at a3 c3 o3 E3
  have zE3 := E3.size
  try simp only [World.size_alloc, size_setRow, Za] at zE3
  simp (maxSteps := 1000000) (disch := first | assumption | omega | (simp only [World.size_alloc, size_setRow, Za] <;> omega) | (simp only [List.length_set, Array.length_toList, List.length_cons, List.length_nil, List.length_append, Zn] <;> omega) | (simp only [List.all_cons, List.all_nil, Value.oneCell', Bool.and_self, Bool.and_true]; done)) [-Option.bind_some, Zb, Zc, Zd, Zh, Ze, Zi, Zt, Zk, Zr, Zs, Yg, Yf, Yh, -Zl, -Zm, Ye, Ya, Yd, Zx, Zz, Zw, Zq, Zj, Zf, Zg, Zy, Yb, Yc, Zv, Zp, Zo, Zu, Yg, Yf, E1.blk, X2, E3.blk]
  exact hQ _ ⟨_, _, rfl, (o3.keep (by intro b hS hb; (try dsimp only at hS); (try simp only [In, World.size_alloc, size_setRow, Za] at hS hb); first | rfl | (simp (disch := first | assumption | omega | (simp only [World.size_alloc, size_setRow, Za]; omega) | (simp only [World.size_alloc, size_setRow, Za, In]; omega)) only [E1.blk, E3.blk, Zb, Zd, Ym]; done))).wide (by intro b h1 h2; (try dsimp only at h1); (try simp only [In, World.size_alloc, size_setRow, Za] at *); omega), by (repeat (first | exact Ext.rfl | assumption | (refine Ext.al ?_ _) | (refine Ext.dw ?_) | (refine Ext.set ?_ (by first | omega | (simp only [World.size_alloc, size_setRow, Za]; omega)) _) | (refine Ext.tr ?_ (by assumption))))⟩
theorem spec_l3Pass_g {a : Option Addr} {n c k : Nat} {S : Nat → Prop} {ns : List CNode} {x y : CNode} {v : Ver} {l : List Ver} {w : World} (hl4 : ns.length ≤ 1000) (hvk : 0 ≤ v.key ∧ v.key ≤ 3) (ys4 : y.store.length = 4) (hx : ns[k]? = some x) (hy : ns[k + 1]? = some y) (hxw : x.wait = v :: l) (hy6 : y.wait.length < 6) (ho : O Yr S w [.slice a n c] ns) :
    Ret (EV P 22 #[.agg #[.slice a n c], i64 k] w) fun r => r.1 = .agg #[.slice a ns.length c] ∧ O Yr (fun b => S b ∨ In w.heap.size r.2.heap.size b) r.2 [.slice a ns.length c] (passAt ns k) ∧ Mod S w r.2 := by
  obtain ⟨rfl, hm, _⟩ := ho.n
  have ho := ho.wide (S' := fun b => S b ∧ b < w.heap.size) (fun b h1 h2 => ⟨h1, h2⟩)
  have hkl : k < ns.length := (List.getElem?_eq_some_iff.1 hx).1
  rw [passAt_eq hx hxw]
  obtain ⟨g, cur, ds, S2, rfl, hSg, hgl, hg, hle, hx1, hS2, put⟩ := ho.row2 (by decide) hx
  obtain ⟨a2, c2, a3, c3, Ss, Sw, rfl, o2, o3, hSs, hSw⟩ := O.node_un hx1
  simp only [Yn] at hg hle put
  rw [hxw] at o3 hg
  obtain ⟨gw, cs, S1, rfl, hSgw, hgwl, Aw, hcs6, ov, hS1, ⟨S3, css, L3, A3, hS3⟩, _⟩ := slices_Delete_Ver_n o3
  have ov' := ov
  obtain ⟨av, cv, hcs, ov1, ovt⟩ := O.ver.1 ov
  subst hcs
  have p0 := Aw 0 _ rfl
  have p1 := Aw 1 _ rfl
  have p2 := Aw 2 _ rfl
  have p3 := Aw 3 _ rfl
  have p4 := Aw 4 _ rfl
  have p5 := Aw 5 _ rfl
  simp only [LVer_n, LTag_n, Yn, Nat.add_zero] at p0 p1 p2 p3 p4 p5
  have hne : gw ≠ g := (hS2 gw (hSw gw hSgw).1).2.1
  refine Ret.post fun Q hQ => ?_
  refine Ret.enter plain Yo (spec_l3Pass_fn _ _ _) (by kernel_rfl) (n := 2) (by kernel_rfl) rfl ?_
  obtain ⟨q, d, ct, hq6⟩ : ∃ q d, (∀ w', sl P 32 (.slice (some ⟨gw, 0, none⟩) (l.length + 1) c3) (some (i64 1)) none none w' = some (.slice (some ⟨gw, q, none⟩) l.length d, w')) ∧ (0 < l.length → q = 6) := by
    by_cases hc1 : c3 = 1
    · have h0 : l.length = 0 := by have := o3.clip.1; simp only [List.length_cons] at this; omega
      subst hc1
      exact ⟨0, 0, fun w' => by have := sl_l1 (P := P) el_32 (b := gw) (o := 0) (len := l.length + 1) (by omega) w'; exact this, fun h => by omega⟩
    · exact ⟨6, c3 - 1, fun w' => sl_l (P := P) el_32 (b := gw) (o := 0) (len := l.length + 1) (cap := c3) (n := 1) (by omega) (by omega) (by simp; omega) w', fun _ => rfl⟩
  have hlm : l.length ≤ 1954687338211 := by have := o3.n.2.1; simp only [List.length_cons] at this; omega
  have ap : ∀ (gE : Nat) (wb : World), Ext w wb → hp wb gE = some (.cells #[] 45 (0, 0)) → w.heap.size ≤ gE →
      Ret (b_append P #[32, 32] 32 #[.slice (some ⟨gE, 0, none⟩) 0 0, .slice (some ⟨gw, q, none⟩) l.length d] wb) fun r => ∃ a' c', r.1 = .slice a' l.length c' ∧ O tVers (fun b => S3 b ∨ (gE ≤ b ∧ b < r.2.heap.size)) r.2 [.slice a' l.length c'] l ∧ Mod (fun b => b = gE) wb r.2 := by
    intro gE wb Eb hE hge
    have hEl := Yq hE
    by_cases hl0 : l.length = 0
    · have hnil : l = [] := List.eq_nil_of_length_eq_zero hl0
      rw [hnil]
      have an := app_none (P := P) (ty := 32) el_32 (some ⟨gE, 0, none⟩) (some ⟨gw, q, none⟩) 0 0 d (by omega) wb
      exact ⟨_, an, _, _, rfl, (O.empty (L := tVer) (mx := 1954687338211) hE).wide (fun b (h : b = gE) hb => .inr ⟨by omega, hb⟩), Mod.rfl⟩
    · obtain rfl := hq6 (by omega)
      refine Ret.mono (O.apps (L := tVer) (mx := 1954687338211) (xs := []) (ys := l) (S1 := S3) (ty := 32) (m := l.length) (c := d) el_32 zz_45 rfl (by decide) (O.empty (g := gE) hE) (L3.keep fun b _ hb => Eb.blk hb) ?_ (A3.mono (Ext.keep Eb)) rfl (by omega) (by simp; omega) (by decide) (by decide)) ?_
      · intro b hb h1 h2
        have := (hS3 b h2).2.2.2
        have h1 : b = gE := h1
        omega
      · rintro r ⟨a', c', h1, h2, h3⟩
        simp only [List.length_nil, Nat.zero_add, List.nil_append] at h1 h2
        rw [h1] at h2
        refine ⟨a', c', h1, h2.wide ?_, h3.weak ?_⟩
        · intro b hb hb2
          rcases hb with h | h | h
          · have h : b = gE := h
            exact .inr (by omega)
          · exact .inl h
          · exact .inr (by have := Eb.size; omega)
        · intro b hb h
          exact h
  simp (maxSteps := 1000000) (disch := first | assumption | omega | (simp only [World.size_alloc, size_setRow, Za] <;> omega) | (simp only [List.length_set, Array.length_toList, List.length_cons, List.length_nil, List.length_append, Zn] <;> omega) | (simp only [List.all_cons, List.all_nil, Value.oneCell', Bool.and_self, Bool.and_true]; done)) [-Option.bind_some, Zb, Zc, Zd, Zh, Ze, Zi, Zt, Zk, Zr, Zs, Yg, Yf, Yh, -Zl, -Zm, Ye, Ya, Yd, Zx, Zz, Zw, Zq, Zj, Zf, Zg, Zy, Yb, Yc, Zv, Zp, Zo, Zu, ia_23, ia_32, hg, hkl, ct, hg, p0, p1, p2, p3, p4, p5]
  refine Ret.bind (ap _ _ (by (repeat (first | exact Ext.rfl | assumption | (refine Ext.al ?_ _) | (refine Ext.dw ?_) | (refine Ext.set ?_ (by first | omega | (simp only [World.size_alloc, size_setRow, Za]; omega)) _) | (refine Ext.tr ?_ (by assumption))))) (by first | assumption | rfl | (simp (maxSteps := 1000000) (disch := first | assumption | omega | (simp only [World.size_alloc, size_setRow, Za] <;> omega) | (simp only [List.length_set, Array.length_toList, List.length_cons, List.length_nil, List.length_append, Zn] <;> omega) | (simp only [List.all_cons, List.all_nil, Value.oneCell', Bool.and_self, Bool.and_true]; done)) [-Option.bind_some, Zb, Zc, Zd, Zh, Ze, Zi, Zt, Zk, Zr, Zs, Yg, Yf, Yh, -Zl, -Zm, Ye, Ya, Yd, Zx, Zz, Zw, Zq, Zj, Zf, Zg, Zy, Yb, Yc, Zv, Zp, Zo, Zu, hg, p0, p1, p2, p3, p4, p5]; done)) (by omega)) ?_
  rintro ⟨_, w2⟩ ⟨a7, c7, rfl, o7, M2⟩
  have zM2 := M2.size
  try simp only [World.size_alloc, size_setRow, Za] at zM2
  try dsimp only at o7 M2
  have zM2 := M2.size
  simp only [World.size_alloc, size_setRow, Za] at zM2
  have F2 : Ext w w2 := Mod.after (by (repeat (first | exact Ext.rfl | assumption | (refine Ext.al ?_ _) | (refine Ext.dw ?_) | (refine Ext.set ?_ (by first | omega | (simp only [World.size_alloc, size_setRow, Za]; omega)) _) | (refine Ext.tr ?_ (by assumption))))) M2 (fun b h1 h2 => by omega)
  have G2 : hp w2 g = some (.cells (rowv cur (k * 2) [.slice a2 x.store.length c2, .slice (some ⟨gw, 0, none⟩) (v :: l).length c3]).toArray 36 (0, 0)) := (F2.blk hgl).trans hg
  have Y1 : hp w2 w.heap.size = some (.cells #[.slice (some ⟨g, 0, none⟩) ns.length c] 25 (0, 0)) := (M2.blk _ (by (try simp only [In, World.size_alloc, size_setRow, Za] at *); omega) (by omega)).trans (by first | assumption | rfl | (simp (maxSteps := 1000000) (disch := first | assumption | omega | (simp only [World.size_alloc, size_setRow, Za] <;> omega) | (simp only [List.length_set, Array.length_toList, List.length_cons, List.length_nil, List.length_append, Zn] <;> omega) | (simp only [List.all_cons, List.all_nil, Value.oneCell', Bool.and_self, Bool.and_true]; done)) [-Option.bind_some, Zb, Zc, Zd, Zh, Ze, Zi, Zt, Zk, Zr, Zs, Yg, Yf, Yh, -Zl, -Zm, Ye, Ya, Yd, Zx, Zz, Zw, Zq, Zj, Zf, Zg, Zy, Yb, Yc, Zv, Zp, Zo, Zu, hg, p0, p1, p2, p3, p4, p5, M2.blk]; done))
  have Y2 : hp w2 (w.heap.size + 1) = some (.cells #[.slice none 0 0] 25 (0, 0)) := (M2.blk _ (by (try simp only [In, World.size_alloc, size_setRow, Za] at *); omega) (by omega)).trans (by first | assumption | rfl | (simp (maxSteps := 1000000) (disch := first | assumption | omega | (simp only [World.size_alloc, size_setRow, Za] <;> omega) | (simp only [List.length_set, Array.length_toList, List.length_cons, List.length_nil, List.length_append, Zn] <;> omega) | (simp only [List.all_cons, List.all_nil, Value.oneCell', Bool.and_self, Bool.and_true]; done)) [-Option.bind_some, Zb, Zc, Zd, Zh, Ze, Zi, Zt, Zk, Zr, Zs, Yg, Yf, Yh, -Zl, -Zm, Ye, Ya, Yd, Zx, Zz, Zw, Zq, Zj, Zf, Zg, Zy, Yb, Yc, Zv, Zp, Zo, Zu, hg, p0, p1, p2, p3, p4, p5, M2.blk]; done))
  have Y3 : hp w2 (w.heap.size + 1 + 1) = some (.cells #[i64 v.key, i64 v.tag.t, i64 v.tag.p, .slice av v.past.length cv, .string v.text, .bool v.gone] 45 (0, 0)) := (M2.blk _ (by (try simp only [In, World.size_alloc, size_setRow, Za] at *); omega) (by omega)).trans (by first | assumption | rfl | (simp (maxSteps := 1000000) (disch := first | assumption | omega | (simp only [World.size_alloc, size_setRow, Za] <;> omega) | (simp only [List.length_set, Array.length_toList, List.length_cons, List.length_nil, List.length_append, Zn] <;> omega) | (simp only [List.all_cons, List.all_nil, Value.oneCell', Bool.and_self, Bool.and_true]; done)) [-Option.bind_some, Zb, Zc, Zd, Zh, Ze, Zi, Zt, Zk, Zr, Zs, Yg, Yf, Yh, -Zl, -Zm, Ye, Ya, Yd, Zx, Zz, Zw, Zq, Zj, Zf, Zg, Zy, Yb, Yc, Zv, Zp, Zo, Zu, hg, p0, p1, p2, p3, p4, p5, M2.blk]; done))
  simp (maxSteps := 1000000) (disch := first | assumption | omega | (simp only [World.size_alloc, size_setRow, Za] <;> omega) | (simp only [List.length_set, Array.length_toList, List.length_cons, List.length_nil, List.length_append, Zn] <;> omega) | (simp only [List.all_cons, List.all_nil, Value.oneCell', Bool.and_self, Bool.and_true]; done)) [-Option.bind_some, Zb, Zc, Zd, Zh, Ze, Zi, Zt, Zk, Zr, Zs, Yg, Yf, Yh, -Zl, -Zm, Ye, Ya, Yd, Zx, Zz, Zw, Zq, Zj, Zf, Zg, Zy, Yb, Yc, Zv, Zp, Zo, Zu, Y1, Y2, Y3, G2, hg, p0, p1, p2, p3, p4, p5, M2.blk]
  obtain ⟨W3, hW3⟩ : ∃ W3 : World, W3 = w2.setRow g (rowv cur (k * 2) [.slice a2 x.store.length c2, .slice a7 l.length c7]).toArray := ⟨_, rfl⟩
  rw [← hW3]
  have sW : W3.heap.size = w2.heap.size := by rw [hW3, size_setRow]
  have kW : ∀ b, b ≠ g → hp W3 b = hp w2 b := fun b q => by rw [hW3, Zd q]
  have gW : hp W3 g = some (.cells (rowv cur (k * 2) [.slice a2 x.store.length c2, .slice a7 l.length c7]).toArray 36 (0, 0)) := by
    rw [hW3]
    exact (by first | assumption | rfl | (simp (maxSteps := 1000000) (disch := first | assumption | omega | (simp only [World.size_alloc, size_setRow, Za] <;> omega) | (simp only [List.length_set, Array.length_toList, List.length_cons, List.length_nil, List.length_append, Zn] <;> omega) | (simp only [List.all_cons, List.all_nil, Value.oneCell', Bool.and_self, Bool.and_true]; done)) [-Option.bind_some, Zb, Zc, Zd, Zh, Ze, Zi, Zt, Zk, Zr, Zs, Yg, Yf, Yh, -Zl, -Zm, Ye, Ya, Yd, Zx, Zz, Zw, Zq, Zj, Zf, Zg, Zy, Yb, Yc, Zv, Zp, Zo, Zu, G2, hg, p0, p1, p2, p3, p4, p5, M2.blk]; done))
  have MM : Mod S w W3 := by
    rw [hW3]
    exact (Mod.of F2 S).set' (.inr hSg.1) _
  have oW := put W3 _ ⟨x.store, l⟩ _ (O.node_mk (v := ⟨x.store, l⟩) (o2.keep (w' := W3) (fun b hS hb => (kW b (hS2 b (hSs b hS).1).2.1).trans (F2.blk hb))) (o7.keep (w' := W3) (fun b hS hb => kW b (by rcases hS with h | h; exact (hS3 b h).2.2.1 |> fun q e => (hS2 b (hSw b (hS3 b h).1).1).2.1 e; omega))) (fun b _ h1 h2 => by rcases h2 with h | h; exact (hSs b h1).2.1 (hS3 b h).1; have := (hSs b h1).2.2; omega)) gW
    (fun b hb _ hne' hn => (kW b hne').trans (F2.blk hb)) (fun b _ h => by rcases h with h | h | h; exact .inl (hSs b h).1; exact .inl (hSw b (hS3 b h).1).1; exact .inr (by omega))
  have hv3 := ov'.d.keep (w' := W3) (fun b hS hb => (kW b (hS2 b (hSw b (hS1 b hS).1).1).2.1).trans (F2.blk hb))
  obtain ⟨ns', hns'⟩ : ∃ ns' : List CNode, ns' = ns.set k ⟨x.store, l⟩ := ⟨_, rfl⟩
  have hl' : ns'.length = ns.length := by rw [hns', List.length_set]
  have hy' : ns'[k + 1]? = some y := by rw [hns', List.getElem?_set_ne (by omega)]; exact hy
  rw [← hns'] at oW hQ
  rw [← hl'] at oW hQ
  rw [← hl']
  refine Ret.bind (spec_l3Add_n (i := k + 1) oW hv3 ?_ hy' hvk.1 (by omega) (by omega) (by omega)) ?_
  · intro b hb h1 h
    have q := hS1 b h1
    rcases h with h | h | h | h
    · exact h.2 (hSw b q.1).1
    · exact (hSs b h).2.1 q.1
    · exact (hS3 b h).2.1 h1
    · have := q.2.2
      omega
  rintro ⟨_, w5⟩ ⟨rfl, o6, M5⟩
  have zM5 := M5.size
  try simp only [World.size_alloc, size_setRow, Za] at zM5
  try dsimp only at o6 M5
  have zM5 := M5.size
  have Y5 : hp w5 (w.heap.size + 1) = some (.cells #[.slice none 0 0] 25 (0, 0)) := by
    refine (M5.blk _ (by omega) ?_).trans ((kW _ (by omega)).trans Y2)
    rintro (h | h | h | h)
    · have := h.1.2; omega
    · have := (hSs _ h).2.2; omega
    · have := (hS3 _ h).2.2.2; omega
    · omega
  simp (maxSteps := 1000000) (disch := first | assumption | omega | (simp only [World.size_alloc, size_setRow, Za] <;> omega) | (simp only [List.length_set, Array.length_toList, List.length_cons, List.length_nil, List.length_append, Zn] <;> omega) | (simp only [List.all_cons, List.all_nil, Value.oneCell', Bool.and_self, Bool.and_true]; done)) [-Option.bind_some, Zb, Zc, Zd, Zh, Ze, Zi, Zt, Zk, Zr, Zs, Yg, Yf, Yh, -Zl, -Zm, Ye, Ya, Yd, Zx, Zz, Zw, Zq, Zj, Zf, Zg, Zy, Yb, Yc, Zv, Zp, Zo, Zu, Y5, hg, p0, p1, p2, p3, p4, p5, M2.blk, M5.blk]
  have sub : ∀ b, (((S b ∧ b < w.heap.size) ∧ ¬ S2 b) ∨ (Ss b ∨ (S3 b ∨ (w.heap.size + 1 + 1 + 1 ≤ b ∧ b < w2.heap.size)))) → S b ∨ (w.heap.size + 1 + 1 + 1 ≤ b ∧ b < w2.heap.size) := by
    rintro b (h | h | h | h)
    · exact .inl h.1.1
    · exact .inl (hS2 b (hSs b h).1).1.1
    · exact .inl (hS2 b (hSw b (hS3 b h).1).1).1.1
    · exact .inr h
  refine hQ _ ⟨rfl, (o6.keep ?_).wide ?_, (Mod.after' MM M5 ?_).set' (.inl (by omega)) _⟩
  · intro b hS hb
    have : b ≠ w.heap.size + 1 := by
      rintro rfl
      rcases hS with (h | h | h | h) | h
      · have := h.1.2; omega
      · have := (hSs _ h).2.2; omega
      · have := (hS3 _ h).2.2.2; omega
      · omega
      · simp only [In] at h; omega
    rw [Zd this]
  · intro b h1 h2
    simp only [In, size_setRow] at *
    rcases h1 with h | h
    · rcases sub b h with h | h
      · exact .inl h
      · exact .inr (by omega)
    · exact .inr (by omega)
  · intro b hb h
    rcases sub b h with h | h
    · exact h
    · omega
theorem spec_l3Pass_n {a : Option Addr} {n c k : Nat} {S : Nat → Prop} {ns : List CNode} {x y : CNode} {v : Ver} {l : List Ver} {w : World} (hok : chainOk ns = true) (hx : ns[k]? = some x) (hy : ns[k + 1]? = some y) (hxw : x.wait = v :: l) (hy6 : y.wait.length < 6) (ho : O Yr S w [.slice a n c] ns) :
    Ret (EV P 22 #[.agg #[.slice a n c], i64 k] w) fun r => r.1 = .agg #[.slice a ns.length c] ∧ O Yr (fun b => S b ∨ In w.heap.size r.2.heap.size b) r.2 [.slice a ns.length c] (passAt ns k) ∧ Mod S w r.2 := by
  obtain ⟨_, _, _, hl0, hl4⟩ := chainOk_head hok
  have hall : ∀ n ∈ ns, nodeOk n = true := by
    simp only [chainOk, Bool.and_eq_true, List.all_eq_true] at hok
    exact hok.1.2
  obtain ⟨_, _, xv⟩ := nodeOk_parts (hall x (List.mem_of_getElem? hx))
  obtain ⟨ys, y6, _⟩ := nodeOk_parts (hall y (List.mem_of_getElem? hy))
  have ys4 := storeOk_len ys
  have hvk := verOk_key (xv v (by rw [hxw]; exact List.mem_cons_self))
  exact spec_l3Pass_g (by omega) hvk ys4 hx hy hxw hy6 ho
end Go.Proofs.YtjagkbamkohnoaaGreat.X
set_option linter.unusedVariables false
set_option linter.unusedSimpArgs false
set_option maxRecDepth 100000
set_option maxHeartbeats 1000000
namespace Go.Proofs.YtjagkbamkohnoaaGreat.X
open Go Go.Ev Go.RowKit
theorem spec_ChainPass_n {a : Option Addr} {n c : Nat} {i : Int} {S : Nat → Prop} {ns : List CNode} {w : World} (ha : D Yr S w [.slice a n c] ns) :
    Ret (EV P 6 #[.agg #[.slice a n c], i64 i] w) fun r => ∃ a' c', r.1 = .tuple #[.agg #[.slice a' (chainPassP ns i).length c'], .bool (chainPassB ns i)] ∧ O Yr (In w.heap.size r.2.heap.size) r.2 [.slice a' (chainPassP ns i).length c'] (chainPassP ns i) ∧ Ext w r.2 := by
  obtain ⟨rfl, hm, _⟩ := ha.n
  refine Ret.post fun Q hQ => ?_
  refine Ret.enter plain Yo (spec_ChainPass_fn _ _ _) (by kernel_rfl) (n := 2) (by kernel_rfl) rfl ?_
  simp (maxSteps := 1000000) (disch := first | assumption | omega | (simp only [World.size_alloc, size_setRow, Za] <;> omega) | (simp only [List.length_set, Array.length_toList, List.length_cons, List.length_nil, List.length_append, Zn] <;> omega) | (simp only [List.all_cons, List.all_nil, Value.oneCell', Bool.and_self, Bool.and_true]; done)) [-Option.bind_some, Zb, Zc, Zd, Zh, Ze, Zi, Zt, Zk, Zr, Zs, Yg, Yf, Yh, -Zl, -Zm, Ye, Ya, Yd, Zx, Zz, Zw, Zq, Zj, Zf, Zg, Zy, Yb, Yc, Zv, Zp, Zo, Zu]
  refine Ret.bind (spec_l3Ok_m (ha.ext (by (repeat (first | exact Ext.rfl | assumption | (refine Ext.al ?_ _) | (refine Ext.dw ?_) | (refine Ext.set ?_ (by first | omega | (simp only [World.size_alloc, size_setRow, Za]; omega)) _) | (refine Ext.tr ?_ (by assumption))))))) ?_
  rintro ⟨_, w1⟩ ⟨rfl, E1⟩
  try dsimp only at E1
  have zE1 := E1.size
  try simp only [World.size_alloc, size_setRow, Za] at zE1
  cases h : chainOk ns
  · have h1 : chainPassP ns i = [] := by simp [chainPassP, h]
    have h2 : chainPassB ns i = false := by simp [chainPassB, h]
    rw [h1, h2] at hQ
    simp (maxSteps := 1000000) (disch := first | assumption | omega | (simp only [World.size_alloc, size_setRow, Za] <;> omega) | (simp only [List.length_set, Array.length_toList, List.length_cons, List.length_nil, List.length_append, Zn] <;> omega) | (simp only [List.all_cons, List.all_nil, Value.oneCell', Bool.and_self, Bool.and_true]; done)) [-Option.bind_some, Zb, Zc, Zd, Zh, Ze, Zi, Zt, Zk, Zr, Zs, Yg, Yf, Yh, -Zl, -Zm, Ye, Ya, Yd, Zx, Zz, Zw, Zq, Zj, Zf, Zg, Zy, Yb, Yc, Zv, Zp, Zo, Zu, E1.blk]
    exact hQ _ ⟨_, _, rfl, O.nil, by (repeat (first | exact Ext.rfl | assumption | (refine Ext.al ?_ _) | (refine Ext.dw ?_) | (refine Ext.set ?_ (by first | omega | (simp only [World.size_alloc, size_setRow, Za]; omega)) _) | (refine Ext.tr ?_ (by assumption))))⟩
  obtain ⟨_, _, _, hl0, hl4⟩ := chainOk_head h
  simp (maxSteps := 1000000) (disch := first | assumption | omega | (simp only [World.size_alloc, size_setRow, Za] <;> omega) | (simp only [List.length_set, Array.length_toList, List.length_cons, List.length_nil, List.length_append, Zn] <;> omega) | (simp only [List.all_cons, List.all_nil, Value.oneCell', Bool.and_self, Bool.and_true]; done)) [-Option.bind_some, Zb, Zc, Zd, Zh, Ze, Zi, Zt, Zk, Zr, Zs, Yg, Yf, Yh, -Zl, -Zm, Ye, Ya, Yd, Zx, Zz, Zw, Zq, Zj, Zf, Zg, Zy, Yb, Yc, Zv, Zp, Zo, Zu, E1.blk]
  refine Ret.bind (spec_l3Can_m (i := i) (by omega) (ha.ext (by (repeat (first | exact Ext.rfl | assumption | (refine Ext.al ?_ _) | (refine Ext.dw ?_) | (refine Ext.set ?_ (by first | omega | (simp only [World.size_alloc, size_setRow, Za]; omega)) _) | (refine Ext.tr ?_ (by assumption))))))) ?_
  rintro ⟨_, w2⟩ ⟨rfl, E2⟩
  try dsimp only at E2
  have zE2 := E2.size
  try simp only [World.size_alloc, size_setRow, Za] at zE2
  cases hc : canPass ns i
  · have h1 : chainPassP ns i = ns := by simp [chainPassP, passP, h, hc]
    have h2 : chainPassB ns i = false := by simp [chainPassB, hc]
    rw [h1, h2] at hQ
    simp (maxSteps := 1000000) (disch := first | assumption | omega | (simp only [World.size_alloc, size_setRow, Za] <;> omega) | (simp only [List.length_set, Array.length_toList, List.length_cons, List.length_nil, List.length_append, Zn] <;> omega) | (simp only [List.all_cons, List.all_nil, Value.oneCell', Bool.and_self, Bool.and_true]; done)) [-Option.bind_some, Zb, Zc, Zd, Zh, Ze, Zi, Zt, Zk, Zr, Zs, Yg, Yf, Yh, -Zl, -Zm, Ye, Ya, Yd, Zx, Zz, Zw, Zq, Zj, Zf, Zg, Zy, Yb, Yc, Zv, Zp, Zo, Zu, E1.blk, E2.blk]
    refine Ret.bind (spec_l3Copy_n (ha.ext (by (repeat (first | exact Ext.rfl | assumption | (refine Ext.al ?_ _) | (refine Ext.dw ?_) | (refine Ext.set ?_ (by first | omega | (simp only [World.size_alloc, size_setRow, Za]; omega)) _) | (refine Ext.tr ?_ (by assumption))))))) ?_
    rintro ⟨_, w3⟩ ⟨a3, c3, rfl, o3, E3⟩
    try dsimp only at a3 c3 o3 E3
    have zE3 := E3.size
    try simp only [World.size_alloc, size_setRow, Za] at zE3
    simp (maxSteps := 1000000) (disch := first | assumption | omega | (simp only [World.size_alloc, size_setRow, Za] <;> omega) | (simp only [List.length_set, Array.length_toList, List.length_cons, List.length_nil, List.length_append, Zn] <;> omega) | (simp only [List.all_cons, List.all_nil, Value.oneCell', Bool.and_self, Bool.and_true]; done)) [-Option.bind_some, Zb, Zc, Zd, Zh, Ze, Zi, Zt, Zk, Zr, Zs, Yg, Yf, Yh, -Zl, -Zm, Ye, Ya, Yd, Zx, Zz, Zw, Zq, Zj, Zf, Zg, Zy, Yb, Yc, Zv, Zp, Zo, Zu, E1.blk, E2.blk, E3.blk]
    exact hQ _ ⟨_, _, rfl, (o3.keep (by intro b hS hb; (try dsimp only at hS); (try simp only [In, World.size_alloc, size_setRow, Za] at hS hb); first | rfl | (simp (disch := first | assumption | omega | (simp only [World.size_alloc, size_setRow, Za]; omega) | (simp only [World.size_alloc, size_setRow, Za, In]; omega)) only [E1.blk, E2.blk, E3.blk, Zb, Zd, Ym]; done))).wide (by intro b h1 h2; (try dsimp only at h1); (try simp only [In, World.size_alloc, size_setRow, Za] at *); omega), by (repeat (first | exact Ext.rfl | assumption | (refine Ext.al ?_ _) | (refine Ext.dw ?_) | (refine Ext.set ?_ (by first | omega | (simp only [World.size_alloc, size_setRow, Za]; omega)) _) | (refine Ext.tr ?_ (by assumption))))⟩
  obtain ⟨k, x, y, v, l, rfl, hk, hx, hy, hxw, hy6⟩ := canPass_parts hc
  have h1 : chainPassP ns k = passAt ns k := by simp [chainPassP, passP, h, hc]
  have h2 : chainPassB ns k = true := by simp [chainPassB, h, hc]
  have hl : (passAt ns k).length = ns.length := by rw [passAt_eq hx hxw, addAt_length, List.length_set]
  rw [h1, h2, hl] at hQ
  simp (maxSteps := 1000000) (disch := first | assumption | omega | (simp only [World.size_alloc, size_setRow, Za] <;> omega) | (simp only [List.length_set, Array.length_toList, List.length_cons, List.length_nil, List.length_append, Zn] <;> omega) | (simp only [List.all_cons, List.all_nil, Value.oneCell', Bool.and_self, Bool.and_true]; done)) [-Option.bind_some, Zb, Zc, Zd, Zh, Ze, Zi, Zt, Zk, Zr, Zs, Yg, Yf, Yh, -Zl, -Zm, Ye, Ya, Yd, Zx, Zz, Zw, Zq, Zj, Zf, Zg, Zy, Yb, Yc, Zv, Zp, Zo, Zu, E1.blk, E2.blk]
  refine Ret.bind (spec_l3Copy_n (ha.ext (by (repeat (first | exact Ext.rfl | assumption | (refine Ext.al ?_ _) | (refine Ext.dw ?_) | (refine Ext.set ?_ (by first | omega | (simp only [World.size_alloc, size_setRow, Za]; omega)) _) | (refine Ext.tr ?_ (by assumption))))))) ?_
  rintro ⟨_, w3⟩ ⟨a3, c3, rfl, o3, E3⟩
  try dsimp only at a3 c3 o3 E3
  have zE3 := E3.size
  try simp only [World.size_alloc, size_setRow, Za] at zE3
  simp (maxSteps := 1000000) (disch := first | assumption | omega | (simp only [World.size_alloc, size_setRow, Za] <;> omega) | (simp only [List.length_set, Array.length_toList, List.length_cons, List.length_nil, List.length_append, Zn] <;> omega) | (simp only [List.all_cons, List.all_nil, Value.oneCell', Bool.and_self, Bool.and_true]; done)) [-Option.bind_some, Zb, Zc, Zd, Zh, Ze, Zi, Zt, Zk, Zr, Zs, Yg, Yf, Yh, -Zl, -Zm, Ye, Ya, Yd, Zx, Zz, Zw, Zq, Zj, Zf, Zg, Zy, Yb, Yc, Zv, Zp, Zo, Zu, E1.blk, E2.blk, E3.blk]
  have F3 : Ext w w3 := by (repeat (first | exact Ext.rfl | assumption | (refine Ext.al ?_ _) | (refine Ext.dw ?_) | (refine Ext.set ?_ (by first | omega | (simp only [World.size_alloc, size_setRow, Za]; omega)) _) | (refine Ext.tr ?_ (by assumption))))
  have zF3 := F3.size
  refine Ret.bind (spec_l3Pass_n h hx hy hxw hy6 o3) ?_
  rintro ⟨_, w4⟩ ⟨rfl, o4, M4⟩
  have zM4 := M4.size
  try simp only [World.size_alloc, size_setRow, Za] at zM4
  try dsimp only at o4 M4
  have zM4 := M4.size
  have X4 : hp w4 (w.heap.size + 1) = some (.cells #[.slice none 0 0] 25 (0, 0)) := (M4.blk _ (by omega) (by simp only [In]; omega)).trans (by first | assumption | rfl | (simp (maxSteps := 1000000) (disch := first | assumption | omega | (simp only [World.size_alloc, size_setRow, Za] <;> omega) | (simp only [List.length_set, Array.length_toList, List.length_cons, List.length_nil, List.length_append, Zn] <;> omega) | (simp only [List.all_cons, List.all_nil, Value.oneCell', Bool.and_self, Bool.and_true]; done)) [-Option.bind_some, Zb, Zc, Zd, Zh, Ze, Zi, Zt, Zk, Zr, Zs, Yg, Yf, Yh, -Zl, -Zm, Ye, Ya, Yd, Zx, Zz, Zw, Zq, Zj, Zf, Zg, Zy, Yb, Yc, Zv, Zp, Zo, Zu, E1.blk, E2.blk, E3.blk, M4.blk]; done))
  simp (maxSteps := 1000000) (disch := first | assumption | omega | (simp only [World.size_alloc, size_setRow, Za] <;> omega) | (simp only [List.length_set, Array.length_toList, List.length_cons, List.length_nil, List.length_append, Zn] <;> omega) | (simp only [List.all_cons, List.all_nil, Value.oneCell', Bool.and_self, Bool.and_true]; done)) [-Option.bind_some, Zb, Zc, Zd, Zh, Ze, Zi, Zt, Zk, Zr, Zs, Yg, Yf, Yh, -Zl, -Zm, Ye, Ya, Yd, Zx, Zz, Zw, Zq, Zj, Zf, Zg, Zy, Yb, Yc, Zv, Zp, Zo, Zu, X4, E1.blk, E2.blk, E3.blk, M4.blk, X4]
  have E5 : Ext w w4 := Mod.after F3 M4 (by intro x hx h; simp only [In] at h; omega)
  have zE5 := E5.size
  try simp only [World.size_alloc, size_setRow, Za] at zE5
  refine hQ _ ⟨_, _, rfl, (o4.keep ?_).wide ?_, by (repeat (first | exact Ext.rfl | assumption | (refine Ext.al ?_ _) | (refine Ext.dw ?_) | (refine Ext.set ?_ (by first | omega | (simp only [World.size_alloc, size_setRow, Za]; omega)) _) | (refine Ext.tr ?_ (by assumption))))⟩
  · intro b hS hb
    simp only [In] at hS
    rw [Zd (by omega)]
  · intro b h1 h2
    simp only [In, size_setRow] at *
    omega
end Go.Proofs.YtjagkbamkohnoaaGreat.X
set_option linter.unusedVariables false
set_option linter.unusedSimpArgs false
set_option maxRecDepth 100000
set_option maxHeartbeats 1000000
namespace Go.Proofs.YtjagkbamkohnoaaGreat.X
open Go Go.Ev Go.RowKit
theorem spec_l20Tag_m {B g p : Nat} (hp0 : p ≤ 950000000000) {w : World} (hr : R w B g p) :
    Ret (EV P 95 #[pt g 0] w) fun r => ∃ (t : Tag) (p' : Nat), r.1 = t.v ∧ 0 ≤ t.t ∧ t.t ≤ 9 ∧ p' ≤ p + 3 ∧ R r.2 B g p' ∧ Mod (fun b => b = g) w r.2 := by
  have hl := hr.lt
  refine Ret.post fun Q hQ => ?_
  refine Ret.enter plain Yo (spec_l20Tag_fn _ _) (by kernel_rfl) (n := 1) (by kernel_rfl) rfl ?_
  simp (maxSteps := 1000000) (disch := first | assumption | omega | (simp only [World.size_alloc, size_setRow, Za] <;> omega) | (simp only [List.length_set, Array.length_toList, List.length_cons, List.length_nil, List.length_append, Zn] <;> omega) | (simp only [List.all_cons, List.all_nil, Value.oneCell', Bool.and_self, Bool.and_true]; done)) [-Option.bind_some, Zb, Zc, Zd, Zh, Ze, Zi, Zt, Zk, Zr, Zs, Yg, Yf, Yh, -Zl, -Zm, Ye, Ya, Yd, Zx, Zz, Zw, Zq, Zj, Zf, Zg, Zy, Yb, Yc, Zv, Zp, Zo, Zu]
  refine Ret.bind (Yl (k := 3) (by omega) (by omega) (by omega) (hr.ext (by (repeat (first | exact Ext.rfl | assumption | (refine Ext.al ?_ _) | (refine Ext.dw ?_) | (refine Ext.set ?_ (by first | omega | (simp only [World.size_alloc, size_setRow, Za]; omega)) _) | (refine Ext.tr ?_ (by assumption))))))) ?_
  rintro ⟨_, w1⟩ ⟨m, rfl, hm, R1, M1⟩
  have zM1 := M1.size
  try simp only [World.size_alloc, size_setRow, Za] at zM1
  try dsimp only at R1 M1
  have zM1 := M1.size
  simp only [World.size_alloc, Za] at zM1
  have X1 : hp w1 w.heap.size = some (.cells #[i64 0, i64 0] 40 (0, 0)) := (M1.blk w.heap.size (by (try simp only [In, World.size_alloc, size_setRow, Za] at *); omega) (by omega)).trans (by first | assumption | rfl | (simp (maxSteps := 1000000) (disch := first | assumption | omega | (simp only [World.size_alloc, size_setRow, Za] <;> omega) | (simp only [List.length_set, Array.length_toList, List.length_cons, List.length_nil, List.length_append, Zn] <;> omega) | (simp only [List.all_cons, List.all_nil, Value.oneCell', Bool.and_self, Bool.and_true]; done)) [-Option.bind_some, Zb, Zc, Zd, Zh, Ze, Zi, Zt, Zk, Zr, Zs, Yg, Yf, Yh, -Zl, -Zm, Ye, Ya, Yd, Zx, Zz, Zw, Zq, Zj, Zf, Zg, Zy, Yb, Yc, Zv, Zp, Zo, Zu, M1.blk]; done))
  have N1 : Mod (fun b => b = g) w w1 := (Mod.of (by (repeat (first | exact Ext.rfl | assumption | (refine Ext.al ?_ _) | (refine Ext.dw ?_) | (refine Ext.set ?_ (by first | omega | (simp only [World.size_alloc, size_setRow, Za]; omega)) _) | (refine Ext.tr ?_ (by assumption))))) _).tr M1
  cases hz : ((m : Int) == 0)
  · simp (maxSteps := 1000000) (disch := first | assumption | omega | (simp only [World.size_alloc, size_setRow, Za] <;> omega) | (simp only [List.length_set, Array.length_toList, List.length_cons, List.length_nil, List.length_append, Zn] <;> omega) | (simp only [List.all_cons, List.all_nil, Value.oneCell', Bool.and_self, Bool.and_true]; done)) [-Option.bind_some, Zb, Zc, Zd, Zh, Ze, Zi, Zt, Zk, Zr, Zs, Yg, Yf, Yh, -Zl, -Zm, Ye, Ya, Yd, Zx, Zz, Zw, Zq, Zj, Zf, Zg, Zy, Yb, Yc, Zv, Zp, Zo, Zu, hz, M1.blk, X1]
    refine Ret.bind (Yl (k := 9) (by omega) (by omega) (by omega) (R1.ext (by (repeat (first | exact Ext.rfl | assumption | (refine Ext.al ?_ _) | (refine Ext.dw ?_) | (refine Ext.set ?_ (by first | omega | (simp only [World.size_alloc, size_setRow, Za]; omega)) _) | (refine Ext.tr ?_ (by assumption))))))) ?_
    rintro ⟨_, w2⟩ ⟨m2, rfl, hm2, R2, M2⟩
    have zM2 := M2.size
    try simp only [World.size_alloc, size_setRow, Za] at zM2
    try dsimp only at R2 M2
    have zM2 := M2.size
    simp (maxSteps := 1000000) (disch := first | assumption | omega | (simp only [World.size_alloc, size_setRow, Za] <;> omega) | (simp only [List.length_set, Array.length_toList, List.length_cons, List.length_nil, List.length_append, Zn] <;> omega) | (simp only [List.all_cons, List.all_nil, Value.oneCell', Bool.and_self, Bool.and_true]; done)) [-Option.bind_some, Zb, Zc, Zd, Zh, Ze, Zi, Zt, Zk, Zr, Zs, Yg, Yf, Yh, -Zl, -Zm, Ye, Ya, Yd, Zx, Zz, Zw, Zq, Zj, Zf, Zg, Zy, Yb, Yc, Zv, Zp, Zo, Zu, M1.blk, X1, M2.blk]
    refine Ret.bind (Yl (k := 3) (by omega) (by omega) (by omega) (R2.ext (by (repeat (first | exact Ext.rfl | assumption | (refine Ext.al ?_ _) | (refine Ext.dw ?_) | (refine Ext.set ?_ (by first | omega | (simp only [World.size_alloc, size_setRow, Za]; omega)) _) | (refine Ext.tr ?_ (by assumption))))))) ?_
    rintro ⟨_, w3⟩ ⟨m3, rfl, hm3, R3, M3⟩
    have zM3 := M3.size
    try simp only [World.size_alloc, size_setRow, Za] at zM3
    try dsimp only at R3 M3
    have zM3 := M3.size
    have X3 : hp w3 w.heap.size = some (.cells #[i64 0, i64 0] 40 (0, 0)) := (M3.blk w.heap.size (by (try simp only [In, World.size_alloc, size_setRow, Za] at *); omega) (by omega)).trans ((M2.blk w.heap.size (by (try simp only [In, World.size_alloc, size_setRow, Za] at *); omega) (by omega)).trans X1)
    have hw : IntKind.i64.wrap (1 + (m2 : Int)) = 1 + (m2 : Int) := w64 (by omega) (by omega)
    simp (maxSteps := 1000000) (disch := first | assumption | omega | (simp only [World.size_alloc, size_setRow, Za] <;> omega) | (simp only [List.length_set, Array.length_toList, List.length_cons, List.length_nil, List.length_append, Zn] <;> omega) | (simp only [List.all_cons, List.all_nil, Value.oneCell', Bool.and_self, Bool.and_true]; done)) [-Option.bind_some, Zb, Zc, Zd, Zh, Ze, Zi, Zt, Zk, Zr, Zs, Yg, Yf, Yh, -Zl, -Zm, Ye, Ya, Yd, Zx, Zz, Zw, Zq, Zj, Zf, Zg, Zy, Yb, Yc, Zv, Zp, Zo, Zu, X3, hw, M1.blk, X1, M2.blk, M3.blk, X3]
    have N3 := (N1.tr M2).tr M3
    refine hQ _ ⟨⟨1 + m2, m3⟩, p + 1 + 1 + 1, rfl, ?_, ?_, by omega, R3.keep (fun b h hb => Zd (by omega)), N3.set' (.inl (by omega)) _⟩
    · show (0 : Int) ≤ 1 + m2
      omega
    · show (1 : Int) + m2 ≤ 9
      omega
  · simp (maxSteps := 1000000) (disch := first | assumption | omega | (simp only [World.size_alloc, size_setRow, Za] <;> omega) | (simp only [List.length_set, Array.length_toList, List.length_cons, List.length_nil, List.length_append, Zn] <;> omega) | (simp only [List.all_cons, List.all_nil, Value.oneCell', Bool.and_self, Bool.and_true]; done)) [-Option.bind_some, Zb, Zc, Zd, Zh, Ze, Zi, Zt, Zk, Zr, Zs, Yg, Yf, Yh, -Zl, -Zm, Ye, Ya, Yd, Zx, Zz, Zw, Zq, Zj, Zf, Zg, Zy, Yb, Yc, Zv, Zp, Zo, Zu, hz, X1, M1.blk, X1]
    exact hQ _ ⟨⟨0, 0⟩, p + 1, rfl, by decide, by decide, by omega, R1.keep (fun b h hb => Zd (by omega)), N1.set' (.inl (by omega)) _⟩
theorem spec_l20Rd_of_m {B g p b k c : Nat} {strs : List ByteArray} (hk : 1 ≤ k) (hk2 : k ≤ 1000000) (hp0 : p ≤ 1000000000000) {w : World} (hl : strs.length = k) (hA : At w b 0 (strs.map Value.string)) (hbg : b ≠ g) (hr : R w B g p) :
    Ret (EV P 75 #[pt g 0, .slice (some ⟨b, 0, none⟩) k c] w) fun r => ∃ n ∈ strs, r.1 = .string n ∧ R r.2 B g (p + 1) ∧ Mod (fun b => b = g) w r.2 := by
  refine Ret.post fun Q hQ => ?_
  refine Ret.enter plain Yo (spec_l20Rd_of_fn _ _ _) (by kernel_rfl) (n := 2) (by kernel_rfl) rfl ?_
  simp (maxSteps := 1000000) (disch := first | assumption | omega | (simp only [World.size_alloc, size_setRow, Za] <;> omega) | (simp only [List.length_set, Array.length_toList, List.length_cons, List.length_nil, List.length_append, Zn] <;> omega) | (simp only [List.all_cons, List.all_nil, Value.oneCell', Bool.and_self, Bool.and_true]; done)) [-Option.bind_some, Zb, Zc, Zd, Zh, Ze, Zi, Zt, Zk, Zr, Zs, Yg, Yf, Yh, -Zl, -Zm, Ye, Ya, Yd, Zx, Zz, Zw, Zq, Zj, Zf, Zg, Zy, Yb, Yc, Zv, Zp, Zo, Zu]
  refine Ret.bind (Yl hk hk2 hp0 hr) ?_
  rintro ⟨_, w1⟩ ⟨m, rfl, hm, R1, M1⟩
  have zM1 := M1.size
  try simp only [World.size_alloc, size_setRow, Za] at zM1
  try dsimp only at R1 M1
  obtain ⟨n, hn, _⟩ := Yk (l := strs) (k := m) (by omega)
  have hA1 := hA m (.string n) (by rw [List.getElem?_map, hn]; rfl)
  have hbl : b < w.heap.size := by
    rcases Nat.lt_or_ge b w.heap.size with h | h
    · exact h
    · rw [hp, Array.getElem?_eq_none h] at hA1; simp [cellO] at hA1
  rw [Nat.zero_add] at hA1
  simp (maxSteps := 1000000) (disch := first | assumption | omega | (simp only [World.size_alloc, size_setRow, Za] <;> omega) | (simp only [List.length_set, Array.length_toList, List.length_cons, List.length_nil, List.length_append, Zn] <;> omega) | (simp only [List.all_cons, List.all_nil, Value.oneCell', Bool.and_self, Bool.and_true]; done)) [-Option.bind_some, Zb, Zc, Zd, Zh, Ze, Zi, Zt, Zk, Zr, Zs, Yg, Yf, Yh, -Zl, -Zm, Ye, Ya, Yd, Zx, Zz, Zw, Zq, Zj, Zf, Zg, Zy, Yb, Yc, Zv, Zp, Zo, Zu, ia_92, show (m : Int) < k by omega, hA1, M1.blk]
  exact hQ _ ⟨n, List.mem_of_getElem? hn, rfl, R1, M1⟩
def textsL : List ByteArray := [⟨#[]⟩, ⟨#[97]⟩, ⟨#[98]⟩, ⟨#[120, 35, 49]⟩, ⟨#[61]⟩, ⟨#[45]⟩, ⟨#[108, 111, 110, 103, 116, 101, 120, 116]⟩, ⟨#[122, 122]⟩]
theorem spec_l20Text_m {B g p : Nat} (hp0 : p ≤ 900000000000) {w : World} (hr : R w B g p) :
    Ret (EV P 94 #[pt g 0] w) fun r => ∃ n ∈ textsL, r.1 = .string n ∧ R r.2 B g (p + 1) ∧ Mod (fun b => b = g) w r.2 := by
  have hl := hr.lt
  refine Ret.post fun Q hQ => ?_
  refine Ret.enter plain Yo (spec_l20Text_fn _ _) (by kernel_rfl) (n := 1) (by kernel_rfl) rfl ?_
  simp (maxSteps := 1000000) (disch := first | assumption | omega | (simp only [World.size_alloc, size_setRow, Za] <;> omega) | (simp only [List.length_set, Array.length_toList, List.length_cons, List.length_nil, List.length_append, Zn] <;> omega) | (simp only [List.all_cons, List.all_nil, Value.oneCell', Bool.and_self, Bool.and_true]; done)) [-Option.bind_some, Zb, Zc, Zd, Zh, Ze, Zi, Zt, Zk, Zr, Zs, Yg, Yf, Yh, -Zl, -Zm, Ye, Ya, Yd, Zx, Zz, Zw, Zq, Zj, Zf, Zg, Zy, Yb, Yc, Zv, Zp, Zo, Zu]
  refine Ret.bind (spec_l20Rd_of_m (strs := textsL) (k := 8) (by omega) (by omega) (by omega) rfl (At.new (cs := textsL.map Value.string)) (by omega) (hr.ext (by (repeat (first | exact Ext.rfl | assumption | (refine Ext.al ?_ _) | (refine Ext.dw ?_) | (refine Ext.set ?_ (by first | omega | (simp only [World.size_alloc, size_setRow, Za]; omega)) _) | (refine Ext.tr ?_ (by assumption))))))) ?_
  rintro ⟨_, w1⟩ ⟨n, hn, rfl, R1, M1⟩
  have zM1 := M1.size
  try simp only [World.size_alloc, size_setRow, Za] at zM1
  try dsimp only at R1 M1
  simp (maxSteps := 1000000) (disch := first | assumption | omega | (simp only [World.size_alloc, size_setRow, Za] <;> omega) | (simp only [List.length_set, Array.length_toList, List.length_cons, List.length_nil, List.length_append, Zn] <;> omega) | (simp only [List.all_cons, List.all_nil, Value.oneCell', Bool.and_self, Bool.and_true]; done)) [-Option.bind_some, Zb, Zc, Zd, Zh, Ze, Zi, Zt, Zk, Zr, Zs, Yg, Yf, Yh, -Zl, -Zm, Ye, Ya, Yd, Zx, Zz, Zw, Zq, Zj, Zf, Zg, Zy, Yb, Yc, Zv, Zp, Zo, Zu, M1.blk]
  exact hQ _ ⟨n, hn, rfl, R1, (Mod.of (by (repeat (first | exact Ext.rfl | assumption | (refine Ext.al ?_ _) | (refine Ext.dw ?_) | (refine Ext.set ?_ (by first | omega | (simp only [World.size_alloc, size_setRow, Za]; omega)) _) | (refine Ext.tr ?_ (by assumption))))) _).tr M1⟩
theorem spec_l20AnyTag_m {B g p : Nat} (hp0 : p ≤ 900000000000) {w : World} (hr : R w B g p) :
    Ret (EV P 76 #[pt g 0] w) fun r => ∃ (t : Tag) (p' : Nat), r.1 = t.v ∧ p' ≤ p + 4 ∧ R r.2 B g p' ∧ Mod (fun b => b = g) w r.2 := by
  have hl := hr.lt
  refine Ret.post fun Q hQ => ?_
  refine Ret.enter plain Yo (spec_l20AnyTag_fn _ _) (by kernel_rfl) (n := 1) (by kernel_rfl) rfl ?_
  simp (maxSteps := 1000000) (disch := first | assumption | omega | (simp only [World.size_alloc, size_setRow, Za] <;> omega) | (simp only [List.length_set, Array.length_toList, List.length_cons, List.length_nil, List.length_append, Zn] <;> omega) | (simp only [List.all_cons, List.all_nil, Value.oneCell', Bool.and_self, Bool.and_true]; done)) [-Option.bind_some, Zb, Zc, Zd, Zh, Ze, Zi, Zt, Zk, Zr, Zs, Yg, Yf, Yh, -Zl, -Zm, Ye, Ya, Yd, Zx, Zz, Zw, Zq, Zj, Zf, Zg, Zy, Yb, Yc, Zv, Zp, Zo, Zu]
  refine Ret.bind (Yl (k := 8) (by omega) (by omega) (by omega) (hr.ext (by (repeat (first | exact Ext.rfl | assumption | (refine Ext.al ?_ _) | (refine Ext.dw ?_) | (refine Ext.set ?_ (by first | omega | (simp only [World.size_alloc, size_setRow, Za]; omega)) _) | (refine Ext.tr ?_ (by assumption))))))) ?_
  rintro ⟨_, w1⟩ ⟨m, rfl, hm, R1, M1⟩
  have zM1 := M1.size
  try simp only [World.size_alloc, size_setRow, Za] at zM1
  try dsimp only at R1 M1
  have zM1 := M1.size
  simp only [World.size_alloc, Za] at zM1
  have X1 : hp w1 w.heap.size = some (.cells #[i64 0, i64 0] 40 (0, 0)) := (M1.blk w.heap.size (by (try simp only [In, World.size_alloc, size_setRow, Za] at *); omega) (by omega)).trans (by first | assumption | rfl | (simp (maxSteps := 1000000) (disch := first | assumption | omega | (simp only [World.size_alloc, size_setRow, Za] <;> omega) | (simp only [List.length_set, Array.length_toList, List.length_cons, List.length_nil, List.length_append, Zn] <;> omega) | (simp only [List.all_cons, List.all_nil, Value.oneCell', Bool.and_self, Bool.and_true]; done)) [-Option.bind_some, Zb, Zc, Zd, Zh, Ze, Zi, Zt, Zk, Zr, Zs, Yg, Yf, Yh, -Zl, -Zm, Ye, Ya, Yd, Zx, Zz, Zw, Zq, Zj, Zf, Zg, Zy, Yb, Yc, Zv, Zp, Zo, Zu, M1.blk]; done))
  have N1 : Mod (fun b => b = g) w w1 := (Mod.of (by (repeat (first | exact Ext.rfl | assumption | (refine Ext.al ?_ _) | (refine Ext.dw ?_) | (refine Ext.set ?_ (by first | omega | (simp only [World.size_alloc, size_setRow, Za]; omega)) _) | (refine Ext.tr ?_ (by assumption))))) _).tr M1
  have y1 := R1.lt
  cases hz : ((m : Int) == 0)
  · simp (maxSteps := 1000000) (disch := first | assumption | omega | (simp only [World.size_alloc, size_setRow, Za] <;> omega) | (simp only [List.length_set, Array.length_toList, List.length_cons, List.length_nil, List.length_append, Zn] <;> omega) | (simp only [List.all_cons, List.all_nil, Value.oneCell', Bool.and_self, Bool.and_true]; done)) [-Option.bind_some, Zb, Zc, Zd, Zh, Ze, Zi, Zt, Zk, Zr, Zs, Yg, Yf, Yh, -Zl, -Zm, Ye, Ya, Yd, Zx, Zz, Zw, Zq, Zj, Zf, Zg, Zy, Yb, Yc, Zv, Zp, Zo, Zu, hz, M1.blk, X1]
    refine Ret.bind (spec_l20Tag_m (by omega) (R1.ext (by (repeat (first | exact Ext.rfl | assumption | (refine Ext.al ?_ _) | (refine Ext.dw ?_) | (refine Ext.set ?_ (by first | omega | (simp only [World.size_alloc, size_setRow, Za]; omega)) _) | (refine Ext.tr ?_ (by assumption))))))) ?_
    rintro ⟨_, w2⟩ ⟨t, p2, rfl, _, _, hp2, R2, M2⟩
    have zM2 := M2.size
    try simp only [World.size_alloc, size_setRow, Za] at zM2
    try dsimp only at R2 M2
    have zM2 := M2.size
    have X2 : hp w2 w.heap.size = some (.cells #[i64 0, i64 0] 40 (0, 0)) := (M2.blk w.heap.size (by (try simp only [In, World.size_alloc, size_setRow, Za] at *); omega) (by omega)).trans X1
    simp (maxSteps := 1000000) (disch := first | assumption | omega | (simp only [World.size_alloc, size_setRow, Za] <;> omega) | (simp only [List.length_set, Array.length_toList, List.length_cons, List.length_nil, List.length_append, Zn] <;> omega) | (simp only [List.all_cons, List.all_nil, Value.oneCell', Bool.and_self, Bool.and_true]; done)) [-Option.bind_some, Zb, Zc, Zd, Zh, Ze, Zi, Zt, Zk, Zr, Zs, Yg, Yf, Yh, -Zl, -Zm, Ye, Ya, Yd, Zx, Zz, Zw, Zq, Zj, Zf, Zg, Zy, Yb, Yc, Zv, Zp, Zo, Zu, X2, M1.blk, X1, M2.blk, X2]
    refine hQ _ ⟨t, p2, rfl, by omega, R2.keep (fun b h hb => Zd (by omega)), (N1.tr M2).set' (.inl (by omega)) _⟩
  · simp (maxSteps := 1000000) (disch := first | assumption | omega | (simp only [World.size_alloc, size_setRow, Za] <;> omega) | (simp only [List.length_set, Array.length_toList, List.length_cons, List.length_nil, List.length_append, Zn] <;> omega) | (simp only [List.all_cons, List.all_nil, Value.oneCell', Bool.and_self, Bool.and_true]; done)) [-Option.bind_some, Zb, Zc, Zd, Zh, Ze, Zi, Zt, Zk, Zr, Zs, Yg, Yf, Yh, -Zl, -Zm, Ye, Ya, Yd, Zx, Zz, Zw, Zq, Zj, Zf, Zg, Zy, Yb, Yc, Zv, Zp, Zo, Zu, hz, M1.blk, X1]
    refine Ret.bind (spec_l20Rd_one_m (ints := [0, -1, 1000, 999]) (k := 4) (by omega) (by omega) (by omega) rfl (At.new (cs := [i64 0, i64 (-1), i64 1000, i64 999])) (by omega) (R1.ext (by (repeat (first | exact Ext.rfl | assumption | (refine Ext.al ?_ _) | (refine Ext.dw ?_) | (refine Ext.set ?_ (by first | omega | (simp only [World.size_alloc, size_setRow, Za]; omega)) _) | (refine Ext.tr ?_ (by assumption))))))) ?_
    rintro ⟨_, w2⟩ ⟨n1, _, rfl, R2, M2⟩
    have zM2 := M2.size
    try simp only [World.size_alloc, size_setRow, Za] at zM2
    try dsimp only at R2 M2
    have zM2 := M2.size
    simp only [World.size_alloc, Za] at zM2
    simp (maxSteps := 1000000) (disch := first | assumption | omega | (simp only [World.size_alloc, size_setRow, Za] <;> omega) | (simp only [List.length_set, Array.length_toList, List.length_cons, List.length_nil, List.length_append, Zn] <;> omega) | (simp only [List.all_cons, List.all_nil, Value.oneCell', Bool.and_self, Bool.and_true]; done)) [-Option.bind_some, Zb, Zc, Zd, Zh, Ze, Zi, Zt, Zk, Zr, Zs, Yg, Yf, Yh, -Zl, -Zm, Ye, Ya, Yd, Zx, Zz, Zw, Zq, Zj, Zf, Zg, Zy, Yb, Yc, Zv, Zp, Zo, Zu, M1.blk, X1, M2.blk]
    have N2 := (N1.al _).tr M2
    refine Ret.bind (spec_l20Rd_one_m (ints := [0, 1, 3, -1]) (k := 4) (by omega) (by omega) (by omega) rfl (At.new (cs := [i64 0, i64 1, i64 3, i64 (-1)])) (by omega) (R2.ext (by (repeat (first | exact Ext.rfl | assumption | (refine Ext.al ?_ _) | (refine Ext.dw ?_) | (refine Ext.set ?_ (by first | omega | (simp only [World.size_alloc, size_setRow, Za]; omega)) _) | (refine Ext.tr ?_ (by assumption))))))) ?_
    rintro ⟨_, w3⟩ ⟨n2, _, rfl, R3, M3⟩
    have zM3 := M3.size
    try simp only [World.size_alloc, size_setRow, Za] at zM3
    try dsimp only at R3 M3
    have zM3 := M3.size
    simp only [World.size_alloc, Za] at zM3
    have N3 := (N2.al _).tr M3
    have X3 : hp w3 w.heap.size = some (.cells #[i64 0, i64 0] 40 (0, 0)) := (M3.blk w.heap.size (by (try simp only [In, World.size_alloc, size_setRow, Za] at *); omega) (by omega)).trans ((Zb (by omega)).trans ((M2.blk w.heap.size (by (try simp only [In, World.size_alloc, size_setRow, Za] at *); omega) (by omega)).trans ((Zb (by omega)).trans X1)))
    simp (maxSteps := 1000000) (disch := first | assumption | omega | (simp only [World.size_alloc, size_setRow, Za] <;> omega) | (simp only [List.length_set, Array.length_toList, List.length_cons, List.length_nil, List.length_append, Zn] <;> omega) | (simp only [List.all_cons, List.all_nil, Value.oneCell', Bool.and_self, Bool.and_true]; done)) [-Option.bind_some, Zb, Zc, Zd, Zh, Ze, Zi, Zt, Zk, Zr, Zs, Yg, Yf, Yh, -Zl, -Zm, Ye, Ya, Yd, Zx, Zz, Zw, Zq, Zj, Zf, Zg, Zy, Yb, Yc, Zv, Zp, Zo, Zu, X3, M1.blk, X1, M2.blk, M3.blk, X3]
    refine hQ _ ⟨⟨n1, n2⟩, p + 1 + 1 + 1, rfl, by omega, R3.keep (fun b h hb => Zd (by omega)), N3.set' (.inl (by omega)) _⟩
end Go.Proofs.YtjagkbamkohnoaaGreat.X
