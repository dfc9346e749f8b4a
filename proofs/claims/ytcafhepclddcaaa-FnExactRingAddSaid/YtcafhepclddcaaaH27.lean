/- A part of the proof: an evaluator of the model, its laws, and contracts of functions; no condition. -/
import Derived.Test.YtcafhepclddcaaaH24
set_option linter.unusedVariables false
set_option linter.unusedSimpArgs false
set_option maxRecDepth 100000
set_option maxHeartbeats 1000000
namespace Go.Proofs.Ytcafhepclddcaaa.X
open Go Go.Ev Go.RowKit
theorem slices_Insert_string_m {g c i gv : Nat} {xs : List ByteArray} {s : ByteArray} {w : World} (h : Raw 9 w g xs c) (hm : xs.length ≤ 6) (hi : i < xs.length) (hs : s.size ≤ 140737488351232) (hv : hp w gv = some (.cells #[.string s] 9 (0, 0))) (hne : gv ≠ g) :
    Ret (EV P 77 #[.slice (some ⟨g, 0, none⟩) xs.length c, i64 i, .slice (some ⟨gv, 0, none⟩) 1 1] w) fun r => ∃ g' c', r.1 = .slice (some ⟨g', 0, none⟩) (xs.length + 1) c' ∧ Raw 9 r.2 g' (xs.take i ++ ([s] ++ xs.drop i)) c' ∧ (g' = g ∨ w.heap.size ≤ g') ∧ Mod (fun b => b = g) w r.2 := by
  obtain ⟨cur, X1, h2, h3, h4, h5, h6⟩ := h
  have hgl := hp_lt X1
  have hgvl := hp_lt hv
  have hl : (xs.take i ++ ([s] ++ xs.drop i)).length = xs.length + 1 := by simp; omega
  have h6' : ∀ x ∈ xs.take i ++ ([s] ++ xs.drop i), x.size ≤ 140737488351232 := fun x hx => by
    rcases List.mem_append.1 hx with hx | hx
    · exact h6 x (List.mem_of_mem_take hx)
    · rcases List.mem_append.1 hx with hx | hx
      · simp only [List.mem_singleton] at hx
        subst hx
        exact hs
      · exact h6 x (List.mem_of_mem_drop hx)
  have hsl : ∀ w, sl P 51 (.slice (some ⟨g, 0, none⟩) xs.length c) (some (i64 i)) none none w = some (.slice (some ⟨g, i, none⟩) (xs.length - i) (c - i), w) := fun w => by
    simpa using sl_l (P := P) el_51 (b := g) (o := 0) (len := xs.length) (cap := c) (n := (i : Int)) (by omega) (by omega) (by omega) w
  have hnl : ((xs.drop i).map Value.string).length = xs.length - i := by simp
  have hin : ((i : Int) == (xs.length : Int)) = false := by simp; omega
  have hnd : cur.take i = (xs.take i).map Value.string := by rw [List.map_take, ← h5, List.take_take, show min i xs.length = i by omega]
  refine Ret.post fun Q hQ => ?_
  refine Ret.enter plain mixed (slices_Insert_string_fn _ _ _ _) (by kernel_rfl) (n := 3) (by kernel_rfl) rfl ?_
  by_cases hcap : c < xs.length + 1
  · -- no room
    have hcap' : (c : Int) < (xs.length : Int) + 1 := by omega
    have hsi : ∀ w, sl P 51 (.slice (some ⟨g, 0, none⟩) xs.length c) none (some (i64 i)) none w = some (.slice (some ⟨g, 0, none⟩) i c, w) := fun w => by
      simpa using sl_h (P := P) el_51 (a := some ⟨g, 0, none⟩) (len := xs.length) (cap := c) (n := (i : Int)) (by omega) (by omega) w
    obtain ⟨k, hk⟩ : ∃ k, k = xs.length + 1 - i := ⟨_, rfl⟩
    have hki : (xs.length : Int) + 1 - i = (k : Int) := by omega
    have hA0 : At w g 0 ((xs.take i).map Value.string) := fun j v hj => by
      rw [X1]
      have hj' : j < i := by
        have := (List.getElem?_eq_some_iff.1 hj).1
        simp only [List.length_map, List.length_take] at this
        omega
      rw [← hnd, List.getElem?_take_of_lt hj'] at hj
      simpa [cellO] using hj
    obtain ⟨cap, cur0, hap, hc1, hc2, hc3, hc4⟩ := app_zeros (P := P) (ty := 51) el_51 Try.underlying3 zz_9 rfl (by decide) (n := i) (c := c) (k := k) hA0 (by simp; omega) (by omega) (by omega) (by omega) (by omega)
    simp only [Nat.mul_one] at hc3 hc4
    rw [show i + k = xs.length + 1 by omega] at hap hc1
    have Y1 : hp (w.drew.alloc (.cells cur0.toArray 9 (0, 0))) w.heap.size = some (.cells cur0.toArray 9 (0, 0)) := hp_alloc_eq (w := w.drew) rfl
    have Y2 : ∀ b, b < w.heap.size → hp (w.drew.alloc (.cells cur0.toArray 9 (0, 0))) b = hp w b := fun b hb => hp_alloc_lt (w := w.drew) hb
    have Y3 : Ext w (w.drew.alloc (.cells cur0.toArray 9 (0, 0))) := ⟨by rfl, by rfl, by rfl, by simp, fun k hk => hp_alloc_lt (w := w.drew) hk⟩
    generalize w.drew.alloc (.cells cur0.toArray 9 (0, 0)) = wA at *
    have hs2 : ∀ w', sl P 51 (.slice (some ⟨w.heap.size, 0, none⟩) (xs.length + 1) cap) (some (i64 i)) none none w' = some (.slice (some ⟨w.heap.size, i, none⟩) (xs.length + 1 - i) (cap - i), w') := fun w' => by
      simpa using sl_l (P := P) el_51 (b := w.heap.size) (o := 0) (len := xs.length + 1) (cap := cap) (n := (i : Int)) (by omega) (by omega) (by omega) w'
    have hs3 : ∀ w', sl P 51 (.slice (some ⟨w.heap.size, 0, none⟩) (xs.length + 1) cap) (some (i64 ((i : Int) + 1))) none none w' = some (.slice (some ⟨w.heap.size, i + 1, none⟩) (xs.length - i) (cap - (i + 1)), w') := fun w' => by
      have := sl_l (P := P) el_51 (b := w.heap.size) (o := 0) (len := xs.length + 1) (cap := cap) (n := (i : Int) + 1) (by omega) (by omega) (by omega) w'
      rw [show ((i : Int) + 1).toNat = i + 1 by omega] at this
      simpa using this
    have hv2 : At wA gv 0 [Value.string s] := fun j v hj => by rw [Y2 gv hgvl, hv]; simpa [cellO] using hj
    have cp1 := copy_at (P := P) (ty := 3) el_51 (o := i) (dl := xs.length + 1 - i) (dc := cap - i) (sl := 1) (sc := 1) Y1 hv2 (by show 1 = Nat.min 1 _; simp only [Nat.min_def]; split <;> omega) rfl (by simp; omega)
    simp only [List.length_cons, List.length_nil, Nat.zero_add] at cp1
    obtain ⟨n1, hn1⟩ : ∃ n1 : List Value, n1 = cur0.take i ++ [Value.string s] ++ cur0.drop (i + 1) := ⟨_, rfl⟩
    have hn1l : n1.length = cur0.length := by rw [hn1]; simp only [List.length_append, List.length_take, List.length_drop, List.length_cons, List.length_nil]; omega
    have hn1t : n1.take (i + 1) = (xs.take i).map Value.string ++ [Value.string s] := by
      rw [hn1, List.take_append_of_le_length (by simp only [List.length_append, List.length_take, List.length_cons, List.length_nil]; omega), List.take_of_length_le (by simp only [List.length_append, List.length_take, List.length_cons, List.length_nil]; omega), hc4]
    rw [← hn1] at cp1
    have Z1 : hp (dw (wA.setRow w.heap.size n1.toArray)) w.heap.size = some (.cells n1.toArray 9 (0, 0)) := by
      rw [hp_dw, hp_set_eq, Y1]
      rfl
    have Z2 : At (dw (wA.setRow w.heap.size n1.toArray)) g i ((xs.drop i).map Value.string) := by
      refine Raw.at (E := 9) ?_ h5 (m := xs.length - i) (by omega)
      rw [hp_dw, hp_set_ne (by omega), Y2 g hgl]
      exact X1
    have cp2 := copy_at (P := P) (ty := 3) el_51 (o := i + 1) (dl := xs.length - i) (dc := cap - (i + 1)) (sl := xs.length - i) (sc := c - i) Z1 Z2 (by rw [hnl]; simp only [Nat.min_def]; split <;> omega) (strs_one _) (by rw [hnl]; simp only [List.size_toArray]; omega)
    simp only [List.toList_toArray, hn1t, hnl] at cp2
    simp (maxSteps := 1000000) (disch := first | assumption | omega | (simp only [World.size_alloc, size_setRow, dw_size]; done) | (simp only [World.size_alloc, size_setRow, dw_size] <;> omega) | (simp only [List.length_set, Array.length_toList, List.length_cons, List.length_nil, List.length_append, bts_size] <;> omega) | (simp only [List.all_cons, List.all_nil, Value.oneCell', Bool.and_self, Bool.and_true]; done)) [-Option.bind_some, hp_alloc_lt, hp_alloc_eq, hp_set_ne, wrap_small, ups_ap_cons, ups_ap_nil, upd_same, upd_other, env0_ap0, env0_aps, xt_a, xt_b, xt_c, -splice_eq, -stR_cells, stR_box, stR_boxA, stR_row, stR_row0, stR_row1, stR_rowA, stR_rowA0, splice_rowv, splice_rowv0, splice_rowv1, splice_z, splice_n, splice_s, nth_rowv, nth_rowv0, nth_rowv1, rowv_len, hsl, hin, hcap, hcap', hsi, hki, hap, hs2, hs3, cap_sl (P := P) el_51, X1]
    rw [cp1, Option.bind_some]
    simp (maxSteps := 1000000) (disch := first | assumption | omega | (simp only [World.size_alloc, size_setRow, dw_size]; done) | (simp only [World.size_alloc, size_setRow, dw_size] <;> omega) | (simp only [List.length_set, Array.length_toList, List.length_cons, List.length_nil, List.length_append, bts_size] <;> omega) | (simp only [List.all_cons, List.all_nil, Value.oneCell', Bool.and_self, Bool.and_true]; done)) [-Option.bind_some, hp_alloc_lt, hp_alloc_eq, hp_set_ne, wrap_small, ups_ap_cons, ups_ap_nil, upd_same, upd_other, env0_ap0, env0_aps, xt_a, xt_b, xt_c, -splice_eq, -stR_cells, stR_box, stR_boxA, stR_row, stR_row0, stR_row1, stR_rowA, stR_rowA0, splice_rowv, splice_rowv0, splice_rowv1, splice_z, splice_n, splice_s, nth_rowv, nth_rowv0, nth_rowv1, rowv_len, hs3, X1]
    rw [cp2, Option.bind_some]
    obtain ⟨n2, hn2⟩ : ∃ n2 : List Value, n2 = (xs.take i).map Value.string ++ [Value.string s] ++ (xs.drop i).map Value.string ++ n1.drop (i + 1 + (xs.length - i)) := ⟨_, rfl⟩
    rw [← hn2]
    have M2 : Ext w ((dw (wA.setRow w.heap.size n1.toArray)).setRow w.heap.size n2.toArray) := by (repeat (first | exact Ext.rfl | assumption | (refine Ext.al ?_ _) | (refine Ext.dw ?_) | (refine Ext.set ?_ (by first | omega | (simp only [World.size_alloc, size_setRow, dw_size]; omega)) _) | (refine Ext.tr ?_ (by assumption))))
    have zM2 := M2.size
    try simp only [World.size_alloc, size_setRow, dw_size] at zM2
    refine ⟨_, rfl, hQ _ ⟨w.heap.size, cap, rfl, ⟨n2, ?_, by rw [hl]; exact hc1, ?_, hc2, ?_, h6'⟩, .inr (Nat.le_refl _), Mod.of M2 _⟩⟩
    · rw [hp_set_eq, Z1]
      rfl
    · rw [hn2]
      simp only [List.length_append, List.length_map, List.length_take, List.length_drop, hn1l, List.length_cons, List.length_nil]
      omega
    · rw [hl, hn2, List.take_append_of_le_length (by simp only [List.length_append, List.length_map, List.length_take, List.length_drop, List.length_cons, List.length_nil]; omega), List.take_of_length_le (by simp only [List.length_append, List.length_map, List.length_take, List.length_drop, List.length_cons, List.length_nil]; omega)]
      simp
  · -- room
    have hcap' : ¬ (c : Int) < (xs.length : Int) + 1 := by omega
    have hs1 : ∀ w', sl P 51 (.slice (some ⟨g, 0, none⟩) xs.length c) none (some (i64 ((xs.length : Int) + 1))) none w' = some (.slice (some ⟨g, 0, none⟩) (xs.length + 1) c, w') := fun w' => by
      have := sl_h (P := P) el_51 (a := some ⟨g, 0, none⟩) (len := xs.length) (cap := c) (n := (xs.length : Int) + 1) (by omega) (by omega) w'
      rw [show ((xs.length : Int) + 1).toNat = xs.length + 1 by omega] at this
      exact this
    have hs2 : ∀ w', sl P 51 (.slice (some ⟨g, 0, none⟩) (xs.length + 1) c) (some (i64 i)) none none w' = some (.slice (some ⟨g, i, none⟩) (xs.length + 1 - i) (c - i), w') := fun w' => by
      simpa using sl_l (P := P) el_51 (b := g) (o := 0) (len := xs.length + 1) (cap := c) (n := (i : Int)) (by omega) (by omega) (by omega) w'
    have hs3 : ∀ w', sl P 51 (.slice (some ⟨g, 0, none⟩) (xs.length + 1) c) (some (i64 ((i : Int) + 1))) none none w' = some (.slice (some ⟨g, i + 1, none⟩) (xs.length - i) (c - (i + 1)), w') := fun w' => by
      have := sl_l (P := P) el_51 (b := g) (o := 0) (len := xs.length + 1) (cap := c) (n := (i : Int) + 1) (by omega) (by omega) (by omega) w'
      rw [show ((i : Int) + 1).toNat = i + 1 by omega] at this
      simpa using this
    have ov := overlaps_m (g := g) (o := i + 1) (l := xs.length - i) (c := c - (i + 1)) (cv := 1) hv (by simp) X1 (by simp; omega) hne
    have Z1 : hp (dw w) g = some (.cells cur.toArray 9 (0, 0)) := (hp_dw w g).trans X1
    have Z2 : At (dw w) g i ((xs.drop i).map Value.string) := Raw.at (E := 9) Z1 h5 (m := xs.length - i) (by omega)
    have cp1 := copy_at (P := P) (ty := 3) el_51 (o := i + 1) (dl := xs.length - i) (dc := c - (i + 1)) (sl := xs.length + 1 - i) (sc := c - i) Z1 Z2 (by rw [hnl]; simp only [Nat.min_def]; split <;> omega) (strs_one _) (by rw [hnl]; simp only [List.size_toArray]; omega)
    obtain ⟨n1, hn1⟩ : ∃ n1 : List Value, n1 = cur.take (i + 1) ++ (xs.drop i).map Value.string ++ cur.drop (i + 1 + (xs.length - i)) := ⟨_, rfl⟩
    simp only [List.toList_toArray, hnl, ← hn1] at cp1
    have hn1l : n1.length = cur.length := by rw [hn1]; simp only [List.length_append, List.length_take, List.length_drop, hnl]; omega
    have Y1 : hp ((dw w).setRow g n1.toArray) g = some (.cells n1.toArray 9 (0, 0)) := by
      rw [hp_set_eq, Z1]
      rfl
    have Y2 : At ((dw w).setRow g n1.toArray) gv 0 [Value.string s] := fun j v hj => by rw [hp_set_ne hne, hp_dw, hv]; simpa [cellO] using hj
    have cp2 := copy_at (P := P) (ty := 3) el_51 (o := i) (dl := xs.length + 1 - i) (dc := c - i) (sl := 1) (sc := 1) Y1 Y2 (by show 1 = Nat.min 1 _; simp only [Nat.min_def]; split <;> omega) rfl (by simp; omega)
    obtain ⟨n2, hn2⟩ : ∃ n2 : List Value, n2 = n1.take i ++ [Value.string s] ++ n1.drop (i + 1) := ⟨_, rfl⟩
    simp only [List.length_cons, List.length_nil, Nat.zero_add, List.toList_toArray, ← hn2] at cp2
    simp (maxSteps := 1000000) (disch := first | assumption | omega | (simp only [World.size_alloc, size_setRow, dw_size]; done) | (simp only [World.size_alloc, size_setRow, dw_size] <;> omega) | (simp only [List.length_set, Array.length_toList, List.length_cons, List.length_nil, List.length_append, bts_size] <;> omega) | (simp only [List.all_cons, List.all_nil, Value.oneCell', Bool.and_self, Bool.and_true]; done)) [-Option.bind_some, hp_alloc_lt, hp_alloc_eq, hp_set_ne, wrap_small, ups_ap_cons, ups_ap_nil, upd_same, upd_other, env0_ap0, env0_aps, xt_a, xt_b, xt_c, -splice_eq, -stR_cells, stR_box, stR_boxA, stR_row, stR_row0, stR_row1, stR_rowA, stR_rowA0, splice_rowv, splice_rowv0, splice_rowv1, splice_z, splice_n, splice_s, nth_rowv, nth_rowv0, nth_rowv1, rowv_len, hsl, hin, hcap, hcap', hs1, hs2, hs3, ov, cap_sl (P := P) el_51, X1]
    rw [cp1, Option.bind_some]
    simp (maxSteps := 1000000) (disch := first | assumption | omega | (simp only [World.size_alloc, size_setRow, dw_size]; done) | (simp only [World.size_alloc, size_setRow, dw_size] <;> omega) | (simp only [List.length_set, Array.length_toList, List.length_cons, List.length_nil, List.length_append, bts_size] <;> omega) | (simp only [List.all_cons, List.all_nil, Value.oneCell', Bool.and_self, Bool.and_true]; done)) [-Option.bind_some, hp_alloc_lt, hp_alloc_eq, hp_set_ne, wrap_small, ups_ap_cons, ups_ap_nil, upd_same, upd_other, env0_ap0, env0_aps, xt_a, xt_b, xt_c, -splice_eq, -stR_cells, stR_box, stR_boxA, stR_row, stR_row0, stR_row1, stR_rowA, stR_rowA0, splice_rowv, splice_rowv0, splice_rowv1, splice_z, splice_n, splice_s, nth_rowv, nth_rowv0, nth_rowv1, rowv_len, hs2, X1]
    rw [cp2, Option.bind_some]
    have M2 := ((Mod.dw (fun b => b = g) w).set' (k := g) (.inr rfl) n1.toArray).set' (k := g) (.inr rfl) n2.toArray
    have zM2 := M2.size
    try simp only [World.size_alloc, size_setRow, dw_size] at zM2
    refine ⟨_, rfl, hQ _ ⟨g, c, rfl, ⟨n2, ?_, by rw [hl]; omega, ?_, h4, ?_, h6'⟩, .inl rfl, M2⟩⟩
    · rw [hp_set_eq, Y1]
      rfl
    · rw [hn2]
      simp only [List.length_append, List.length_take, List.length_drop, hn1l, List.length_cons, List.length_nil]
      omega
    · have e1 : n1.take i = (xs.take i).map Value.string := by
        rw [hn1, List.append_assoc, List.take_append_of_le_length (by rw [List.length_take]; omega), List.take_take, show min i (i + 1) = i by omega, hnd]
      have e2 : (n1.drop (i + 1)).take (xs.length - i) = (xs.drop i).map Value.string := by
        have hlt : (cur.take (i + 1)).length = i + 1 := by rw [List.length_take]; omega
        rw [hn1, List.append_assoc, List.drop_append_of_le_length (by omega), List.drop_of_length_le (by omega), List.nil_append, List.take_append_of_le_length (by omega), List.take_of_length_le (by omega)]
      rw [hl, hn2, e1]
      rw [show xs.length + 1 = ((xs.take i).map Value.string ++ [Value.string s]).length + (xs.length - i) by simp only [List.length_append, List.length_map, List.length_take, List.length_cons, List.length_nil]; omega, List.take_length_add_append, e2]
      simp
end Go.Proofs.Ytcafhepclddcaaa.X
set_option linter.unusedVariables false
set_option linter.unusedSimpArgs false
set_option maxRecDepth 100000
set_option maxHeartbeats 1000000
namespace Go.Proofs.Ytcafhepclddcaaa.X
open Go Go.Ev Go.RowKit
theorem insert_O {a : Option Addr} {c i gv : Nat} {S : Nat → Prop} {xs : List ByteArray} {s : ByteArray} {w : World} (ho : O tStrs S w [.slice a xs.length c] xs) (hm : xs.length ≤ 6) (hi : i ≤ xs.length) (hs : s.size ≤ 140737488351232) (hv : hp w gv = some (.cells #[.string s] 9 (0, 0))) (hne : ¬ S gv) :
    Ret (EV P 77 #[.slice a xs.length c, i64 i, .slice (some ⟨gv, 0, none⟩) 1 1] w) fun r => ∃ a' c', r.1 = .slice a' (xs.length + 1) c' ∧ O tStrs (fun b => S b ∨ In w.heap.size r.2.heap.size b) r.2 [.slice a' (xs.length + 1) c'] (xs.take i ++ ([s] ++ xs.drop i)) ∧ Mod S w r.2 := by
  have hgvl := hp_lt hv
  by_cases hlt : i < xs.length
  · obtain ⟨g, rfl, hSg, hgl, hraw⟩ := ho.raw (by omega)
    refine Ret.mono (slices_Insert_string_m hraw hm hlt hs hv (fun e => hne (e ▸ hSg))) ?_
    rintro r ⟨g', c', h1, h2, h3, h4⟩
    have hl : (xs.take i ++ ([s] ++ xs.drop i)).length = xs.length + 1 := by simp; omega
    have ho' := h2.o (mx := 8796093021952) (by rw [hl]; omega)
    rw [hl] at ho'
    refine ⟨_, c', h1, ho'.wide (fun b hb hl => ?_), h4.weak (fun x _ h => by rw [h]; exact hSg)⟩
    have hb : b = g' := hb
    subst hb
    rcases h3 with rfl | h3
    · exact .inl hSg
    · exact .inr ⟨h3, hl⟩
  · obtain rfl : i = xs.length := by omega
    have hvr : Raw 9 w gv [s] 1 := ⟨[.string s], hv, by simp, by simp, by omega, rfl, by simpa using hs⟩
    have hvd := (hvr.o (mx := 8796093021952) (by simp)).d
    obtain ⟨a', hsj, _⟩ := sl_lg (P := P) el_51 a (len := xs.length) (cap := c) (n := (xs.length : Int)) (by omega) (by omega)
    have hee : ((xs.length : Int) == (xs.length : Int)) = true := by simp
    rw [List.take_of_length_le (Nat.le_refl _), List.drop_eq_nil_of_le (Nat.le_refl _), List.append_nil]
    refine Ret.post fun Q hQ => ?_
    refine Ret.enter plain mixed (slices_Insert_string_fn _ _ _ _) (by kernel_rfl) (n := 3) (by kernel_rfl) rfl ?_
    simp (maxSteps := 1000000) (disch := first | assumption | omega | (simp only [World.size_alloc, size_setRow, dw_size]; done) | (simp only [World.size_alloc, size_setRow, dw_size] <;> omega) | (simp only [List.length_set, Array.length_toList, List.length_cons, List.length_nil, List.length_append, bts_size] <;> omega) | (simp only [List.all_cons, List.all_nil, Value.oneCell', Bool.and_self, Bool.and_true]; done)) [-Option.bind_some, hp_alloc_lt, hp_alloc_eq, hp_set_ne, wrap_small, ups_ap_cons, ups_ap_nil, upd_same, upd_other, env0_ap0, env0_aps, xt_a, xt_b, xt_c, -splice_eq, -stR_cells, stR_box, stR_boxA, stR_row, stR_row0, stR_row1, stR_rowA, stR_rowA0, splice_rowv, splice_rowv0, splice_rowv1, splice_z, splice_n, splice_s, nth_rowv, nth_rowv0, nth_rowv1, rowv_len, hsj, hee]
    refine Ret.bind (O.appD (L := LStr) (mx := 8796093021952) flat_str el_51 zz_9 rfl (by decide) ho hvd (by simp; omega) (by decide) (by decide)) ?_
    rintro ⟨_, w1⟩ ⟨a1, c1, rfl, o1, M1⟩
    have zM1 := M1.size
    try simp only [World.size_alloc, size_setRow, dw_size] at zM1
    try dsimp only at o1 M1
    exact ⟨_, rfl, hQ _ ⟨a1, c1, rfl, o1.wide (fun b hb _ => hb), M1⟩⟩
theorem impl_RingAdd_m {a : Option Addr} {n c : Nat} {S : Nat → Prop} {xs : List ByteArray} {s : ByteArray} {w : World} (hs : s.size ≤ 140737488351232) (ha : D tStrs S w [.slice a n c] xs) :
    Ret (EV P 40 #[.agg #[.slice a n c], .string s] w) fun r => ∃ a2 c2, r.1 = .tuple #[.agg #[.slice a2 (ringAddP xs s).1.length c2], .bool (ringAddP xs s).2] ∧ O tStrs (In w.heap.size r.2.heap.size) r.2 [.slice a2 (ringAddP xs s).1.length c2] (ringAddP xs s).1 ∧ Ext w r.2 := by
  obtain ⟨rfl, hm, _⟩ := ha.n
  refine Ret.post fun Q hQ => ?_
  refine Ret.enter plain mixed (impl_RingAdd_fn _ _ _) (by kernel_rfl) (n := 2) (by kernel_rfl) rfl ?_
  simp (maxSteps := 1000000) (disch := first | assumption | omega | (simp only [World.size_alloc, size_setRow, dw_size]; done) | (simp only [World.size_alloc, size_setRow, dw_size] <;> omega) | (simp only [List.length_set, Array.length_toList, List.length_cons, List.length_nil, List.length_append, bts_size] <;> omega) | (simp only [List.all_cons, List.all_nil, Value.oneCell', Bool.and_self, Bool.and_true]; done)) [-Option.bind_some, hp_alloc_lt, hp_alloc_eq, hp_set_ne, wrap_small, ups_ap_cons, ups_ap_nil, upd_same, upd_other, env0_ap0, env0_aps, xt_a, xt_b, xt_c, -splice_eq, -stR_cells, stR_box, stR_boxA, stR_row, stR_row0, stR_row1, stR_rowA, stR_rowA0, splice_rowv, splice_rowv0, splice_rowv1, splice_z, splice_n, splice_s, nth_rowv, nth_rowv0, nth_rowv1, rowv_len]
  refine Ret.bind (impl_RingOk_m (ha.ext (by (repeat (first | exact Ext.rfl | assumption | (refine Ext.al ?_ _) | (refine Ext.dw ?_) | (refine Ext.set ?_ (by first | omega | (simp only [World.size_alloc, size_setRow, dw_size]; omega)) _) | (refine Ext.tr ?_ (by assumption))))))) ?_
  rintro ⟨_, w1⟩ ⟨rfl, E1⟩
  have zE1 := E1.size
  try simp only [World.size_alloc, size_setRow, dw_size] at zE1
  try dsimp only at E1
  have zE1 := E1.size
  simp only [World.size_alloc] at zE1
  have X0 : hp w1 w.heap.size = some (.cells #[.slice a xs.length c] 55 (0, 0)) := (E1.blk (by simp; omega)).trans (by first | assumption | rfl | (simp (maxSteps := 1000000) (disch := first | assumption | omega | (simp only [World.size_alloc, size_setRow, dw_size]; done) | (simp only [World.size_alloc, size_setRow, dw_size] <;> omega) | (simp only [List.length_set, Array.length_toList, List.length_cons, List.length_nil, List.length_append, bts_size] <;> omega) | (simp only [List.all_cons, List.all_nil, Value.oneCell', Bool.and_self, Bool.and_true]; done)) [-Option.bind_some, hp_alloc_lt, hp_alloc_eq, hp_set_ne, wrap_small, ups_ap_cons, ups_ap_nil, upd_same, upd_other, env0_ap0, env0_aps, xt_a, xt_b, xt_c, -splice_eq, -stR_cells, stR_box, stR_boxA, stR_row, stR_row0, stR_row1, stR_rowA, stR_rowA0, splice_rowv, splice_rowv0, splice_rowv1, splice_z, splice_n, splice_s, nth_rowv, nth_rowv0, nth_rowv1, rowv_len, E1.blk]; done))
  have X1 : hp w1 (w.heap.size + 1) = some (.cells #[.slice none 0 0] 55 (0, 0)) := (E1.blk (by simp)).trans (by first | assumption | rfl | (simp (maxSteps := 1000000) (disch := first | assumption | omega | (simp only [World.size_alloc, size_setRow, dw_size]; done) | (simp only [World.size_alloc, size_setRow, dw_size] <;> omega) | (simp only [List.length_set, Array.length_toList, List.length_cons, List.length_nil, List.length_append, bts_size] <;> omega) | (simp only [List.all_cons, List.all_nil, Value.oneCell', Bool.and_self, Bool.and_true]; done)) [-Option.bind_some, hp_alloc_lt, hp_alloc_eq, hp_set_ne, wrap_small, ups_ap_cons, ups_ap_nil, upd_same, upd_other, env0_ap0, env0_aps, xt_a, xt_b, xt_c, -splice_eq, -stR_cells, stR_box, stR_boxA, stR_row, stR_row0, stR_row1, stR_rowA, stR_rowA0, splice_rowv, splice_rowv0, splice_rowv1, splice_z, splice_n, splice_s, nth_rowv, nth_rowv0, nth_rowv1, rowv_len, E1.blk, X0]; done))
  have F1 : Ext w w1 := by (repeat (first | exact Ext.rfl | assumption | (refine Ext.al ?_ _) | (refine Ext.dw ?_) | (refine Ext.set ?_ (by first | omega | (simp only [World.size_alloc, size_setRow, dw_size]; omega)) _) | (refine Ext.tr ?_ (by assumption))))
  cases hr : ringP xs
  · rw [show ringAddP xs s = ([], false) by simp [ringAddP, hr]] at hQ
    simp (maxSteps := 1000000) (disch := first | assumption | omega | (simp only [World.size_alloc, size_setRow, dw_size]; done) | (simp only [World.size_alloc, size_setRow, dw_size] <;> omega) | (simp only [List.length_set, Array.length_toList, List.length_cons, List.length_nil, List.length_append, bts_size] <;> omega) | (simp only [List.all_cons, List.all_nil, Value.oneCell', Bool.and_self, Bool.and_true]; done)) [-Option.bind_some, hp_alloc_lt, hp_alloc_eq, hp_set_ne, wrap_small, ups_ap_cons, ups_ap_nil, upd_same, upd_other, env0_ap0, env0_aps, xt_a, xt_b, xt_c, -splice_eq, -stR_cells, stR_box, stR_boxA, stR_row, stR_row0, stR_row1, stR_rowA, stR_rowA0, splice_rowv, splice_rowv0, splice_rowv1, splice_z, splice_n, splice_s, nth_rowv, nth_rowv0, nth_rowv1, rowv_len, hr, X0, X1, E1.blk, X0, X1]
    exact hQ _ ⟨none, 0, rfl, O.nil, by (repeat (first | exact Ext.rfl | assumption | (refine Ext.al ?_ _) | (refine Ext.dw ?_) | (refine Ext.set ?_ (by first | omega | (simp only [World.size_alloc, size_setRow, dw_size]; omega)) _) | (refine Ext.tr ?_ (by assumption))))⟩
  · have hr' := hr
    simp only [ringP, Bool.and_eq_true, decide_eq_true_eq] at hr'
    simp (maxSteps := 1000000) (disch := first | assumption | omega | (simp only [World.size_alloc, size_setRow, dw_size]; done) | (simp only [World.size_alloc, size_setRow, dw_size] <;> omega) | (simp only [List.length_set, Array.length_toList, List.length_cons, List.length_nil, List.length_append, bts_size] <;> omega) | (simp only [List.all_cons, List.all_nil, Value.oneCell', Bool.and_self, Bool.and_true]; done)) [-Option.bind_some, hp_alloc_lt, hp_alloc_eq, hp_set_ne, wrap_small, ups_ap_cons, ups_ap_nil, upd_same, upd_other, env0_ap0, env0_aps, xt_a, xt_b, xt_c, -splice_eq, -stR_cells, stR_box, stR_boxA, stR_row, stR_row0, stR_row1, stR_rowA, stR_rowA0, splice_rowv, splice_rowv0, splice_rowv1, splice_z, splice_n, splice_s, nth_rowv, nth_rowv0, nth_rowv1, rowv_len, hr, X0, X1, E1.blk, X0, X1]
    refine Ret.bind (BinarySearch_string_m (s := s) (ha.ext F1) hr) ?_
    rintro ⟨_, w2⟩ ⟨rfl, E2⟩
    have zE2 := E2.size
    try simp only [World.size_alloc, size_setRow, dw_size] at zE2
    try dsimp only at E2
    have zE2 := E2.size
    have F2 : Ext w w2 := by (repeat (first | exact Ext.rfl | assumption | (refine Ext.al ?_ _) | (refine Ext.dw ?_) | (refine Ext.set ?_ (by first | omega | (simp only [World.size_alloc, size_setRow, dw_size]; omega)) _) | (refine Ext.tr ?_ (by assumption))))
    have X0 := (E2.blk (b := w.heap.size) (by omega)).trans X0
    have X1 := (E2.blk (b := w.heap.size + 1) (by omega)).trans X1
    have hcopy : Q = Q → (ringAddP xs s = (xs, false)) → Ret ((EV P 75 #[.agg #[.slice a xs.length c]] w2).bind fun r34 => (stR P 55 1 (w.heap.size + 1) 0 r34.1 r34.2 (hp r34.2 (w.heap.size + 1))).bind fun r35 => ((ldL P 55 (w.heap.size + 1) 0 r35.2 (consO (cellO (hp r35.2 (w.heap.size + 1)) 0) (some []))).bind fun r37 => ifP (r37.2 = r35.2) (some r37.1)).bind fun v38 => some (.tuple #[v38, .bool false], r35.2)) Q := by
      intro _ hP
      rw [hP] at hQ
      refine Ret.bind (impl_Ring_copied_m (ha.ext F2)) ?_
      rintro ⟨_, w3⟩ ⟨a3, c3, rfl, o3, E3⟩
      have zE3 := E3.size
      try simp only [World.size_alloc, size_setRow, dw_size] at zE3
      try dsimp only at o3 E3
      have zE3 := E3.size
      have X1 := (E3.blk (b := w.heap.size + 1) (by omega)).trans X1
      simp (maxSteps := 1000000) (disch := first | assumption | omega | (simp only [World.size_alloc, size_setRow, dw_size]; done) | (simp only [World.size_alloc, size_setRow, dw_size] <;> omega) | (simp only [List.length_set, Array.length_toList, List.length_cons, List.length_nil, List.length_append, bts_size] <;> omega) | (simp only [List.all_cons, List.all_nil, Value.oneCell', Bool.and_self, Bool.and_true]; done)) [-Option.bind_some, hp_alloc_lt, hp_alloc_eq, hp_set_ne, wrap_small, ups_ap_cons, ups_ap_nil, upd_same, upd_other, env0_ap0, env0_aps, xt_a, xt_b, xt_c, -splice_eq, -stR_cells, stR_box, stR_boxA, stR_row, stR_row0, stR_row1, stR_rowA, stR_rowA0, splice_rowv, splice_rowv0, splice_rowv1, splice_z, splice_n, splice_s, nth_rowv, nth_rowv0, nth_rowv1, rowv_len, X1, E1.blk, X0, X1, E2.blk, X0, X1, E3.blk, X1]
      exact hQ _ ⟨a3, c3, rfl, O.wide (o3.keep (by intro b hS hb; (try dsimp only at hS); (try simp only [In, World.size_alloc, size_setRow, dw_size] at hS hb); first | rfl | (simp (disch := first | assumption | omega | (simp only [World.size_alloc, size_setRow, dw_size]; omega) | (simp only [World.size_alloc, size_setRow, dw_size, In]; omega)) only [E1.blk, E2.blk, E3.blk, hp_alloc_lt, hp_set_ne, hp_dw]; done))) (by intro b h1 h2; (try dsimp only at h1); (try simp only [In, World.size_alloc, size_setRow, dw_size] at *); omega), by (repeat (first | exact Ext.rfl | assumption | (refine Ext.al ?_ _) | (refine Ext.dw ?_) | (refine Ext.set ?_ (by first | omega | (simp only [World.size_alloc, size_setRow, dw_size]; omega)) _) | (refine Ext.tr ?_ (by assumption))))⟩
    cases ht : thereP xs s
    · simp (maxSteps := 1000000) (disch := first | assumption | omega | (simp only [World.size_alloc, size_setRow, dw_size]; done) | (simp only [World.size_alloc, size_setRow, dw_size] <;> omega) | (simp only [List.length_set, Array.length_toList, List.length_cons, List.length_nil, List.length_append, bts_size] <;> omega) | (simp only [List.all_cons, List.all_nil, Value.oneCell', Bool.and_self, Bool.and_true]; done)) [-Option.bind_some, hp_alloc_lt, hp_alloc_eq, hp_set_ne, wrap_small, ups_ap_cons, ups_ap_nil, upd_same, upd_other, env0_ap0, env0_aps, xt_a, xt_b, xt_c, -splice_eq, -stR_cells, stR_box, stR_boxA, stR_row, stR_row0, stR_row1, stR_rowA, stR_rowA0, splice_rowv, splice_rowv0, splice_rowv1, splice_z, splice_n, splice_s, nth_rowv, nth_rowv0, nth_rowv1, rowv_len, ht, X0, X1, E1.blk, X0, X1, E2.blk, X0, X1]
      refine Ret.bind (impl_nameOk_m hs _) ?_
      rintro ⟨_, w2'⟩ h2
      simp only [Prod.mk.injEq] at h2
      obtain ⟨rfl, rfl⟩ := h2
      cases hnm : nameP s
      · simp (maxSteps := 1000000) (disch := first | assumption | omega | (simp only [World.size_alloc, size_setRow, dw_size]; done) | (simp only [World.size_alloc, size_setRow, dw_size] <;> omega) | (simp only [List.length_set, Array.length_toList, List.length_cons, List.length_nil, List.length_append, bts_size] <;> omega) | (simp only [List.all_cons, List.all_nil, Value.oneCell', Bool.and_self, Bool.and_true]; done)) [-Option.bind_some, hp_alloc_lt, hp_alloc_eq, hp_set_ne, wrap_small, ups_ap_cons, ups_ap_nil, upd_same, upd_other, env0_ap0, env0_aps, xt_a, xt_b, xt_c, -splice_eq, -stR_cells, stR_box, stR_boxA, stR_row, stR_row0, stR_row1, stR_rowA, stR_rowA0, splice_rowv, splice_rowv0, splice_rowv1, splice_z, splice_n, splice_s, nth_rowv, nth_rowv0, nth_rowv1, rowv_len, hnm, X0, X1, E1.blk, X0, X1, E2.blk, X0, X1]
        exact hcopy rfl (by simp [ringAddP, hr, ht, hnm])
      · by_cases h6 : 6 ≤ xs.length
        · have h6' : (6 : Int) ≤ xs.length := by omega
          simp (maxSteps := 1000000) (disch := first | assumption | omega | (simp only [World.size_alloc, size_setRow, dw_size]; done) | (simp only [World.size_alloc, size_setRow, dw_size] <;> omega) | (simp only [List.length_set, Array.length_toList, List.length_cons, List.length_nil, List.length_append, bts_size] <;> omega) | (simp only [List.all_cons, List.all_nil, Value.oneCell', Bool.and_self, Bool.and_true]; done)) [-Option.bind_some, hp_alloc_lt, hp_alloc_eq, hp_set_ne, wrap_small, ups_ap_cons, ups_ap_nil, upd_same, upd_other, env0_ap0, env0_aps, xt_a, xt_b, xt_c, -splice_eq, -stR_cells, stR_box, stR_boxA, stR_row, stR_row0, stR_row1, stR_rowA, stR_rowA0, splice_rowv, splice_rowv0, splice_rowv1, splice_z, splice_n, splice_s, nth_rowv, nth_rowv0, nth_rowv1, rowv_len, hnm, X0, X1, h6, h6', E1.blk, X0, X1, E2.blk, X0, X1]
          exact hcopy rfl (by simp [ringAddP, hr, ht, hnm, h6])
        · have h6' : ¬ (6 : Int) ≤ xs.length := by omega
          have hle := posP_le xs s
          rw [show ringAddP xs s = (xs.take (posP xs s) ++ ([s] ++ xs.drop (posP xs s)), true) by simp [ringAddP, hr, ht, hnm, h6]] at hQ
          have hl : (xs.take (posP xs s) ++ ([s] ++ xs.drop (posP xs s))).length = xs.length + 1 := by simp; omega
          rw [hl] at hQ
          simp (maxSteps := 1000000) (disch := first | assumption | omega | (simp only [World.size_alloc, size_setRow, dw_size]; done) | (simp only [World.size_alloc, size_setRow, dw_size] <;> omega) | (simp only [List.length_set, Array.length_toList, List.length_cons, List.length_nil, List.length_append, bts_size] <;> omega) | (simp only [List.all_cons, List.all_nil, Value.oneCell', Bool.and_self, Bool.and_true]; done)) [-Option.bind_some, hp_alloc_lt, hp_alloc_eq, hp_set_ne, wrap_small, ups_ap_cons, ups_ap_nil, upd_same, upd_other, env0_ap0, env0_aps, xt_a, xt_b, xt_c, -splice_eq, -stR_cells, stR_box, stR_boxA, stR_row, stR_row0, stR_row1, stR_rowA, stR_rowA0, splice_rowv, splice_rowv0, splice_rowv1, splice_z, splice_n, splice_s, nth_rowv, nth_rowv0, nth_rowv1, rowv_len, hnm, X0, X1, h6, h6', E1.blk, X0, X1, E2.blk, X0, X1]
          refine Ret.bind (slices_Clone_string_m (ha.ext F2)) ?_
          rintro ⟨_, w3⟩ ⟨a3, c3, rfl, o3, E3⟩
          try dsimp only at a3 c3 o3 E3
          have zE3 := E3.size
          try simp only [World.size_alloc, size_setRow, dw_size] at zE3
          have X1 := (E3.blk (b := w.heap.size + 1) (by omega)).trans X1
          simp (maxSteps := 1000000) (disch := first | assumption | omega | (simp only [World.size_alloc, size_setRow, dw_size]; done) | (simp only [World.size_alloc, size_setRow, dw_size] <;> omega) | (simp only [List.length_set, Array.length_toList, List.length_cons, List.length_nil, List.length_append, bts_size] <;> omega) | (simp only [List.all_cons, List.all_nil, Value.oneCell', Bool.and_self, Bool.and_true]; done)) [-Option.bind_some, hp_alloc_lt, hp_alloc_eq, hp_set_ne, wrap_small, ups_ap_cons, ups_ap_nil, upd_same, upd_other, env0_ap0, env0_aps, xt_a, xt_b, xt_c, -splice_eq, -stR_cells, stR_box, stR_boxA, stR_row, stR_row0, stR_row1, stR_rowA, stR_rowA0, splice_rowv, splice_rowv0, splice_rowv1, splice_z, splice_n, splice_s, nth_rowv, nth_rowv0, nth_rowv1, rowv_len, E1.blk, X0, X1, E2.blk, X0, X1, E3.blk, X1]
          refine Ret.bind (insert_O (gv := w3.heap.size) (s := s) (o3.ext (Ext.alloc w3 (.cells #[.string s] 9 (0, 0)))) hr'.2 hle hs (by first | assumption | rfl | (simp (maxSteps := 1000000) (disch := first | assumption | omega | (simp only [World.size_alloc, size_setRow, dw_size]; done) | (simp only [World.size_alloc, size_setRow, dw_size] <;> omega) | (simp only [List.length_set, Array.length_toList, List.length_cons, List.length_nil, List.length_append, bts_size] <;> omega) | (simp only [List.all_cons, List.all_nil, Value.oneCell', Bool.and_self, Bool.and_true]; done)) [-Option.bind_some, hp_alloc_lt, hp_alloc_eq, hp_set_ne, wrap_small, ups_ap_cons, ups_ap_nil, upd_same, upd_other, env0_ap0, env0_aps, xt_a, xt_b, xt_c, -splice_eq, -stR_cells, stR_box, stR_boxA, stR_row, stR_row0, stR_row1, stR_rowA, stR_rowA0, splice_rowv, splice_rowv0, splice_rowv1, splice_z, splice_n, splice_s, nth_rowv, nth_rowv0, nth_rowv1, rowv_len, E1.blk, X0, X1, E2.blk, X0, X1, E3.blk, X1]; done)) (by simp only [In]; omega)) ?_
          rintro ⟨_, w4⟩ ⟨a4, c4, rfl, o4, M4⟩
          have zM4 := M4.size
          try simp only [World.size_alloc, size_setRow, dw_size] at zM4
          try dsimp only at o4 M4
          have zM4 := M4.size
          simp only [World.size_alloc] at zM4 o4
          have F4 : Ext w w4 := Mod.after (a := w) (F2.tr (E3.tr (Ext.alloc w3 (.cells #[.string s] 9 (0, 0))))) M4 (by intro x hx h; simp only [In] at h; omega)
          have X4 : hp w4 (w.heap.size + 1) = some (.cells #[.slice none 0 0] 55 (0, 0)) := (M4.blk (w.heap.size + 1) (by simp only [World.size_alloc]; omega) (by simp only [In]; omega)).trans ((hp_alloc_lt (by omega)).trans X1)
          obtain ⟨k1, k2, k3⟩ := o4.clip
          simp (maxSteps := 1000000) (disch := first | assumption | omega | (simp only [World.size_alloc, size_setRow, dw_size]; done) | (simp only [World.size_alloc, size_setRow, dw_size] <;> omega) | (simp only [List.length_set, Array.length_toList, List.length_cons, List.length_nil, List.length_append, bts_size] <;> omega) | (simp only [List.all_cons, List.all_nil, Value.oneCell', Bool.and_self, Bool.and_true]; done)) [-Option.bind_some, hp_alloc_lt, hp_alloc_eq, hp_set_ne, wrap_small, ups_ap_cons, ups_ap_nil, upd_same, upd_other, env0_ap0, env0_aps, xt_a, xt_b, xt_c, -splice_eq, -stR_cells, stR_box, stR_boxA, stR_row, stR_row0, stR_row1, stR_rowA, stR_rowA0, splice_rowv, splice_rowv0, splice_rowv1, splice_z, splice_n, splice_s, nth_rowv, nth_rowv0, nth_rowv1, rowv_len, E1.blk, X0, X1, E2.blk, X0, X1, E3.blk, X1, M4.blk, X4]
          refine Ret.bind (slices_Clip_string_m k1 k2) ?_
          rintro ⟨_, w5⟩ h5
          simp only [Prod.mk.injEq] at h5
          obtain ⟨rfl, rfl⟩ := h5
          simp (maxSteps := 1000000) (disch := first | assumption | omega | (simp only [World.size_alloc, size_setRow, dw_size]; done) | (simp only [World.size_alloc, size_setRow, dw_size] <;> omega) | (simp only [List.length_set, Array.length_toList, List.length_cons, List.length_nil, List.length_append, bts_size] <;> omega) | (simp only [List.all_cons, List.all_nil, Value.oneCell', Bool.and_self, Bool.and_true]; done)) [-Option.bind_some, hp_alloc_lt, hp_alloc_eq, hp_set_ne, wrap_small, ups_ap_cons, ups_ap_nil, upd_same, upd_other, env0_ap0, env0_aps, xt_a, xt_b, xt_c, -splice_eq, -stR_cells, stR_box, stR_boxA, stR_row, stR_row0, stR_row1, stR_rowA, stR_rowA0, splice_rowv, splice_rowv0, splice_rowv1, splice_z, splice_n, splice_s, nth_rowv, nth_rowv0, nth_rowv1, rowv_len, X4, E1.blk, X0, X1, E2.blk, X0, X1, E3.blk, X1, M4.blk, X4]
          refine hQ _ ⟨a4, xs.length + 1, rfl, O.wide (k3.keep (fun b hb hl => hp_set_ne ?_)) ?_, by (repeat (first | exact Ext.rfl | assumption | (refine Ext.al ?_ _) | (refine Ext.dw ?_) | (refine Ext.set ?_ (by first | omega | (simp only [World.size_alloc, size_setRow, dw_size]; omega)) _) | (refine Ext.tr ?_ (by assumption))))⟩
          · rcases hb with hb | hb <;> simp only [In] at hb <;> omega
          · intro b hb hl
            simp only [In, size_setRow] at *
            omega
    · simp (maxSteps := 1000000) (disch := first | assumption | omega | (simp only [World.size_alloc, size_setRow, dw_size]; done) | (simp only [World.size_alloc, size_setRow, dw_size] <;> omega) | (simp only [List.length_set, Array.length_toList, List.length_cons, List.length_nil, List.length_append, bts_size] <;> omega) | (simp only [List.all_cons, List.all_nil, Value.oneCell', Bool.and_self, Bool.and_true]; done)) [-Option.bind_some, hp_alloc_lt, hp_alloc_eq, hp_set_ne, wrap_small, ups_ap_cons, ups_ap_nil, upd_same, upd_other, env0_ap0, env0_aps, xt_a, xt_b, xt_c, -splice_eq, -stR_cells, stR_box, stR_boxA, stR_row, stR_row0, stR_row1, stR_rowA, stR_rowA0, splice_rowv, splice_rowv0, splice_rowv1, splice_z, splice_n, splice_s, nth_rowv, nth_rowv0, nth_rowv1, rowv_len, ht, X0, X1, E1.blk, X0, X1, E2.blk, X0, X1]
      exact hcopy rfl (by simp [ringAddP, hr, ht])
end Go.Proofs.Ytcafhepclddcaaa.X
set_option linter.unusedVariables false
set_option linter.unusedSimpArgs false
set_option maxRecDepth 100000
set_option maxHeartbeats 1000000
namespace Go.Proofs.Ytcafhepclddcaaa.X
open Go Go.Ev Go.RowKit
/-- A part of a row of texts, behind one's own. -/
theorem app_part {c n : Nat} {a1 : Option Addr} {n1 c1 : Nat} {S S1 : Nat → Prop} {xs ys : List ByteArray} {a : Option Addr} {w : World} (ho : O tStrs S w [.slice a1 n1 c1] ys) (ha : D tStrs S1 w [.slice a n c] xs) (hl : ys.length + xs.length ≤ 1000) :
    Ret (b_append P #[51, 51] 51 #[.slice a1 n1 c1, .slice a n c] w) fun r => ∃ a' c', r.1 = .slice a' (ys.length + xs.length) c' ∧ O tStrs (fun b => S b ∨ In w.heap.size r.2.heap.size b) r.2 [.slice a' (ys.length + xs.length) c'] (ys ++ xs) ∧ Mod S w r.2 := by
  refine Ret.mono (O.appD (L := LStr) (mx := 8796093021952) flat_str el_51 zz_9 rfl (by decide) ho ha (by omega) (by decide) (by decide)) ?_
  rintro ⟨_, w1⟩ ⟨a', c', rfl, o1, M1⟩
  have zM1 := M1.size
  try simp only [World.size_alloc, size_setRow, dw_size] at zM1
  exact ⟨a', c', rfl, o1, M1⟩
theorem spec_RingAdd_m {a : Option Addr} {n c : Nat} {S : Nat → Prop} {xs : List ByteArray} {s : ByteArray} {w : World} (hs : s.size ≤ 140737488351232) (ha : D tStrs S w [.slice a n c] xs) (hc : n ≤ c) :
    Ret (EV P 38 #[.agg #[.slice a n c], .string s] w) fun r => ∃ a2 c2, r.1 = .tuple #[.agg #[.slice a2 (ringAddP xs s).1.length c2], .bool (ringAddP xs s).2] ∧ O tStrs (In w.heap.size r.2.heap.size) r.2 [.slice a2 (ringAddP xs s).1.length c2] (ringAddP xs s).1 ∧ Ext w r.2 := by
  obtain ⟨rfl, hm, _⟩ := ha.n
  have hle := posP_le xs s
  obtain ⟨k, hk⟩ : ∃ k, k = posP xs s := ⟨_, rfl⟩
  have hlt : (xs.take k).length = k := by simp; omega
  have hDt : D tStrs S w [.slice a (xs.take k).length c] (xs.take k) := by rw [hlt]; exact ha.take (by omega)
  obtain ⟨a', hsd, hDd⟩ := dropS_d (P := P) el_51 (k := k) ha hc (by omega)
  have hst : ∀ w, sl P 51 (.slice a xs.length c) none (some (i64 k)) none w = some (.slice a (xs.take k).length c, w) := fun w => by
    rw [hlt]
    simpa using sl_h (P := P) el_51 (a := a) (len := xs.length) (cap := c) (n := (k : Int)) (by omega) (by omega) w
  have hld : (xs.drop k).length = xs.length - k := by simp
  have hDt' : D tStrs S w [.slice a k c] (xs.take k) := ha.take (by omega)
  have hsd' : ∀ w, sl P 51 (.slice a xs.length c) (some (i64 k)) none none w = some (.slice a' (xs.length - k) (c - k), w) := fun w => by rw [← hld]; exact hsd w
  have hDd' : D tStrs S w [.slice a' (xs.length - k) (c - k)] (xs.drop k) := by rw [← hld]; exact hDd
  refine Ret.post fun Q hQ => ?_
  refine Ret.enter plain mixed (spec_RingAdd_fn _ _ _) (by kernel_rfl) (n := 2) (by kernel_rfl) rfl ?_
  simp (maxSteps := 1000000) (disch := first | assumption | omega | (simp only [World.size_alloc, size_setRow, dw_size]; done) | (simp only [World.size_alloc, size_setRow, dw_size] <;> omega) | (simp only [List.length_set, Array.length_toList, List.length_cons, List.length_nil, List.length_append, bts_size] <;> omega) | (simp only [List.all_cons, List.all_nil, Value.oneCell', Bool.and_self, Bool.and_true]; done)) [-Option.bind_some, hp_alloc_lt, hp_alloc_eq, hp_set_ne, wrap_small, ups_ap_cons, ups_ap_nil, upd_same, upd_other, env0_ap0, env0_aps, xt_a, xt_b, xt_c, -splice_eq, -stR_cells, stR_box, stR_boxA, stR_row, stR_row0, stR_row1, stR_rowA, stR_rowA0, splice_rowv, splice_rowv0, splice_rowv1, splice_z, splice_n, splice_s, nth_rowv, nth_rowv0, nth_rowv1, rowv_len, hlt]
  refine Ret.bind (spec_l10Ok_m (ha.ext (by (repeat (first | exact Ext.rfl | assumption | (refine Ext.al ?_ _) | (refine Ext.dw ?_) | (refine Ext.set ?_ (by first | omega | (simp only [World.size_alloc, size_setRow, dw_size]; omega)) _) | (refine Ext.tr ?_ (by assumption))))))) ?_
  rintro ⟨_, w1⟩ ⟨rfl, E1⟩
  have zE1 := E1.size
  try simp only [World.size_alloc, size_setRow, dw_size] at zE1
  try dsimp only at E1
  have zE1 := E1.size
  simp only [World.size_alloc] at zE1
  have X0 : hp w1 w.heap.size = some (.cells #[.slice a xs.length c] 55 (0, 0)) := (E1.blk (by simp; omega)).trans (by first | assumption | rfl | (simp (maxSteps := 1000000) (disch := first | assumption | omega | (simp only [World.size_alloc, size_setRow, dw_size]; done) | (simp only [World.size_alloc, size_setRow, dw_size] <;> omega) | (simp only [List.length_set, Array.length_toList, List.length_cons, List.length_nil, List.length_append, bts_size] <;> omega) | (simp only [List.all_cons, List.all_nil, Value.oneCell', Bool.and_self, Bool.and_true]; done)) [-Option.bind_some, hp_alloc_lt, hp_alloc_eq, hp_set_ne, wrap_small, ups_ap_cons, ups_ap_nil, upd_same, upd_other, env0_ap0, env0_aps, xt_a, xt_b, xt_c, -splice_eq, -stR_cells, stR_box, stR_boxA, stR_row, stR_row0, stR_row1, stR_rowA, stR_rowA0, splice_rowv, splice_rowv0, splice_rowv1, splice_z, splice_n, splice_s, nth_rowv, nth_rowv0, nth_rowv1, rowv_len, hlt, E1.blk]; done))
  have X1 : hp w1 (w.heap.size + 1) = some (.cells #[.slice none 0 0] 55 (0, 0)) := (E1.blk (by simp)).trans (by first | assumption | rfl | (simp (maxSteps := 1000000) (disch := first | assumption | omega | (simp only [World.size_alloc, size_setRow, dw_size]; done) | (simp only [World.size_alloc, size_setRow, dw_size] <;> omega) | (simp only [List.length_set, Array.length_toList, List.length_cons, List.length_nil, List.length_append, bts_size] <;> omega) | (simp only [List.all_cons, List.all_nil, Value.oneCell', Bool.and_self, Bool.and_true]; done)) [-Option.bind_some, hp_alloc_lt, hp_alloc_eq, hp_set_ne, wrap_small, ups_ap_cons, ups_ap_nil, upd_same, upd_other, env0_ap0, env0_aps, xt_a, xt_b, xt_c, -splice_eq, -stR_cells, stR_box, stR_boxA, stR_row, stR_row0, stR_row1, stR_rowA, stR_rowA0, splice_rowv, splice_rowv0, splice_rowv1, splice_z, splice_n, splice_s, nth_rowv, nth_rowv0, nth_rowv1, rowv_len, hlt, E1.blk, X0]; done))
  have F1 : Ext w w1 := by (repeat (first | exact Ext.rfl | assumption | (refine Ext.al ?_ _) | (refine Ext.dw ?_) | (refine Ext.set ?_ (by first | omega | (simp only [World.size_alloc, size_setRow, dw_size]; omega)) _) | (refine Ext.tr ?_ (by assumption))))
  cases hr : ringP xs
  · rw [show ringAddP xs s = ([], false) by simp [ringAddP, hr]] at hQ
    simp (maxSteps := 1000000) (disch := first | assumption | omega | (simp only [World.size_alloc, size_setRow, dw_size]; done) | (simp only [World.size_alloc, size_setRow, dw_size] <;> omega) | (simp only [List.length_set, Array.length_toList, List.length_cons, List.length_nil, List.length_append, bts_size] <;> omega) | (simp only [List.all_cons, List.all_nil, Value.oneCell', Bool.and_self, Bool.and_true]; done)) [-Option.bind_some, hp_alloc_lt, hp_alloc_eq, hp_set_ne, wrap_small, ups_ap_cons, ups_ap_nil, upd_same, upd_other, env0_ap0, env0_aps, xt_a, xt_b, xt_c, -splice_eq, -stR_cells, stR_box, stR_boxA, stR_row, stR_row0, stR_row1, stR_rowA, stR_rowA0, splice_rowv, splice_rowv0, splice_rowv1, splice_z, splice_n, splice_s, nth_rowv, nth_rowv0, nth_rowv1, rowv_len, hr, X0, X1, hlt, E1.blk, X0, X1]
    exact hQ _ ⟨none, 0, rfl, O.nil, by (repeat (first | exact Ext.rfl | assumption | (refine Ext.al ?_ _) | (refine Ext.dw ?_) | (refine Ext.set ?_ (by first | omega | (simp only [World.size_alloc, size_setRow, dw_size]; omega)) _) | (refine Ext.tr ?_ (by assumption))))⟩
  · have hr' := hr
    simp only [ringP, Bool.and_eq_true, decide_eq_true_eq] at hr'
    simp (maxSteps := 1000000) (disch := first | assumption | omega | (simp only [World.size_alloc, size_setRow, dw_size]; done) | (simp only [World.size_alloc, size_setRow, dw_size] <;> omega) | (simp only [List.length_set, Array.length_toList, List.length_cons, List.length_nil, List.length_append, bts_size] <;> omega) | (simp only [List.all_cons, List.all_nil, Value.oneCell', Bool.and_self, Bool.and_true]; done)) [-Option.bind_some, hp_alloc_lt, hp_alloc_eq, hp_set_ne, wrap_small, ups_ap_cons, ups_ap_nil, upd_same, upd_other, env0_ap0, env0_aps, xt_a, xt_b, xt_c, -splice_eq, -stR_cells, stR_box, stR_boxA, stR_row, stR_row0, stR_row1, stR_rowA, stR_rowA0, splice_rowv, splice_rowv0, splice_rowv1, splice_z, splice_n, splice_s, nth_rowv, nth_rowv0, nth_rowv1, rowv_len, hr, X0, X1, hlt, E1.blk, X0, X1]
    refine Ret.bind (spec_l10At_m (s := s) (ha.ext F1)) ?_
    rintro ⟨_, w2⟩ ⟨rfl, E2⟩
    have zE2 := E2.size
    try simp only [World.size_alloc, size_setRow, dw_size] at zE2
    try dsimp only at E2
    have zE2 := E2.size
    have F2 : Ext w w2 := by (repeat (first | exact Ext.rfl | assumption | (refine Ext.al ?_ _) | (refine Ext.dw ?_) | (refine Ext.set ?_ (by first | omega | (simp only [World.size_alloc, size_setRow, dw_size]; omega)) _) | (refine Ext.tr ?_ (by assumption))))
    have X0 := (E2.blk (b := w.heap.size) (by omega)).trans X0
    have X1 := (E2.blk (b := w.heap.size + 1) (by omega)).trans X1
    simp only [← hk]
    simp (maxSteps := 1000000) (disch := first | assumption | omega | (simp only [World.size_alloc, size_setRow, dw_size]; done) | (simp only [World.size_alloc, size_setRow, dw_size] <;> omega) | (simp only [List.length_set, Array.length_toList, List.length_cons, List.length_nil, List.length_append, bts_size] <;> omega) | (simp only [List.all_cons, List.all_nil, Value.oneCell', Bool.and_self, Bool.and_true]; done)) [-Option.bind_some, hp_alloc_lt, hp_alloc_eq, hp_set_ne, wrap_small, ups_ap_cons, ups_ap_nil, upd_same, upd_other, env0_ap0, env0_aps, xt_a, xt_b, xt_c, -splice_eq, -stR_cells, stR_box, stR_boxA, stR_row, stR_row0, stR_row1, stR_rowA, stR_rowA0, splice_rowv, splice_rowv0, splice_rowv1, splice_z, splice_n, splice_s, nth_rowv, nth_rowv0, nth_rowv1, rowv_len, X0, X1, hst, hlt, E1.blk, X0, X1, E2.blk, X0, X1]
    refine Ret.bind (app_part (O.empty (g := w2.heap.size) (by first | assumption | rfl | (simp (maxSteps := 1000000) (disch := first | assumption | omega | (simp only [World.size_alloc, size_setRow, dw_size]; done) | (simp only [World.size_alloc, size_setRow, dw_size] <;> omega) | (simp only [List.length_set, Array.length_toList, List.length_cons, List.length_nil, List.length_append, bts_size] <;> omega) | (simp only [List.all_cons, List.all_nil, Value.oneCell', Bool.and_self, Bool.and_true]; done)) [-Option.bind_some, hp_alloc_lt, hp_alloc_eq, hp_set_ne, wrap_small, ups_ap_cons, ups_ap_nil, upd_same, upd_other, env0_ap0, env0_aps, xt_a, xt_b, xt_c, -splice_eq, -stR_cells, stR_box, stR_boxA, stR_row, stR_row0, stR_row1, stR_rowA, stR_rowA0, splice_rowv, splice_rowv0, splice_rowv1, splice_z, splice_n, splice_s, nth_rowv, nth_rowv0, nth_rowv1, rowv_len, hlt, E1.blk, X0, X1, E2.blk, X0, X1]; done))) (hDt'.ext (F2.al _)) (by simp; omega)) ?_
    rintro ⟨_, w3⟩ ⟨a3, c3, rfl, o3, M3⟩
    have zM3 := M3.size
    try simp only [World.size_alloc, size_setRow, dw_size] at zM3
    try dsimp only at o3 M3
    have zM3 := M3.size
    simp only [World.size_alloc, List.nil_append, List.length_nil, Nat.zero_add, hlt] at o3 zM3 ⊢
    have F3 : Ext w w3 := Mod.after (a := w) (F2.al (.cells #[] 9 (0, 0))) M3 (by intro x hx h; omega)
    have X0 : hp w3 w.heap.size = some (.cells #[.slice a xs.length c] 55 (0, 0)) := (M3.blk w.heap.size (by simp; omega) (by omega)).trans ((hp_alloc_lt (by omega)).trans X0)
    have X1 : hp w3 (w.heap.size + 1) = some (.cells #[.slice none 0 0] 55 (0, 0)) := (M3.blk (w.heap.size + 1) (by simp; omega) (by omega)).trans ((hp_alloc_lt (by omega)).trans X1)
    have o3 := o3.wide (S' := fun b => w2.heap.size ≤ b ∧ b < w3.heap.size) (fun b hb hl => by rcases hb with hb | hb <;> simp only [In] at * <;> omega)
    have hsame : ringAddP xs s = (xs, false) → Ret ((b_append P #[51, 51] 51 #[.slice a3 k c3, .slice a' (xs.length - k) (c - k)] w3).bind fun r44 => (bd P 55 #[(0, r44.1)] r44.2).bind fun r45 => (stR P 55 1 (w.heap.size + 1) 0 r45.1 r45.2 (hp r45.2 (w.heap.size + 1))).bind fun r46 => ((ldL P 55 (w.heap.size + 1) 0 r46.2 (consO (cellO (hp r46.2 (w.heap.size + 1)) 0) (some []))).bind fun r48 => ifP (r48.2 = r46.2) (some r48.1)).bind fun v49 => some (.tuple #[v49, .bool false], r46.2)) Q := by
      intro hP
      rw [hP] at hQ
      refine Ret.bind (app_part o3 (hDd'.ext F3) (by rw [hlt, hld]; omega)) ?_
      rintro ⟨_, w4⟩ ⟨a4, c4, rfl, o4, M4⟩
      have zM4 := M4.size
      try simp only [World.size_alloc, size_setRow, dw_size] at zM4
      try dsimp only at o4 M4
      have zM4 := M4.size
      have F4 : Ext w w4 := Mod.after (a := w) F3 M4 (by intro x hx h; omega)
      have X4 : hp w4 (w.heap.size + 1) = some (.cells #[.slice none 0 0] 55 (0, 0)) := (M4.blk (w.heap.size + 1) (by omega) (by omega)).trans X1
      rw [hlt, hld, show k + (xs.length - k) = xs.length by omega, List.take_append_drop] at o4
      rw [hlt, hld, show k + (xs.length - k) = xs.length by omega]
      simp (maxSteps := 1000000) (disch := first | assumption | omega | (simp only [World.size_alloc, size_setRow, dw_size]; done) | (simp only [World.size_alloc, size_setRow, dw_size] <;> omega) | (simp only [List.length_set, Array.length_toList, List.length_cons, List.length_nil, List.length_append, bts_size] <;> omega) | (simp only [List.all_cons, List.all_nil, Value.oneCell', Bool.and_self, Bool.and_true]; done)) [-Option.bind_some, hp_alloc_lt, hp_alloc_eq, hp_set_ne, wrap_small, ups_ap_cons, ups_ap_nil, upd_same, upd_other, env0_ap0, env0_aps, xt_a, xt_b, xt_c, -splice_eq, -stR_cells, stR_box, stR_boxA, stR_row, stR_row0, stR_row1, stR_rowA, stR_rowA0, splice_rowv, splice_rowv0, splice_rowv1, splice_z, splice_n, splice_s, nth_rowv, nth_rowv0, nth_rowv1, rowv_len, X4, hlt, E1.blk, X0, X1, E2.blk, X0, X1, M3.blk, M4.blk, X4]
      refine hQ _ ⟨a4, c4, rfl, O.wide (o4.keep (fun b hb hl => hp_set_ne ?_)) ?_, by (repeat (first | exact Ext.rfl | assumption | (refine Ext.al ?_ _) | (refine Ext.dw ?_) | (refine Ext.set ?_ (by first | omega | (simp only [World.size_alloc, size_setRow, dw_size]; omega)) _) | (refine Ext.tr ?_ (by assumption))))⟩
      · rcases hb with hb | hb <;> (try simp only [In] at hb) <;> omega
      · intro b hb hl
        simp only [In, size_setRow] at *
        omega
    cases ht : thereP xs s
    · simp (maxSteps := 1000000) (disch := first | assumption | omega | (simp only [World.size_alloc, size_setRow, dw_size]; done) | (simp only [World.size_alloc, size_setRow, dw_size] <;> omega) | (simp only [List.length_set, Array.length_toList, List.length_cons, List.length_nil, List.length_append, bts_size] <;> omega) | (simp only [List.all_cons, List.all_nil, Value.oneCell', Bool.and_self, Bool.and_true]; done)) [-Option.bind_some, hp_alloc_lt, hp_alloc_eq, hp_set_ne, wrap_small, ups_ap_cons, ups_ap_nil, upd_same, upd_other, env0_ap0, env0_aps, xt_a, xt_b, xt_c, -splice_eq, -stR_cells, stR_box, stR_boxA, stR_row, stR_row0, stR_row1, stR_rowA, stR_rowA0, splice_rowv, splice_rowv0, splice_rowv1, splice_z, splice_n, splice_s, nth_rowv, nth_rowv0, nth_rowv1, rowv_len, ht, X0, X1, hlt, E1.blk, X0, X1, E2.blk, X0, X1, M3.blk]
      refine Ret.bind (spec_l10Name_m hs _) ?_
      rintro ⟨_, w3'⟩ h2
      simp only [Prod.mk.injEq] at h2
      obtain ⟨rfl, rfl⟩ := h2
      cases hnm : nameP s
      · simp (maxSteps := 1000000) (disch := first | assumption | omega | (simp only [World.size_alloc, size_setRow, dw_size]; done) | (simp only [World.size_alloc, size_setRow, dw_size] <;> omega) | (simp only [List.length_set, Array.length_toList, List.length_cons, List.length_nil, List.length_append, bts_size] <;> omega) | (simp only [List.all_cons, List.all_nil, Value.oneCell', Bool.and_self, Bool.and_true]; done)) [-Option.bind_some, hp_alloc_lt, hp_alloc_eq, hp_set_ne, wrap_small, ups_ap_cons, ups_ap_nil, upd_same, upd_other, env0_ap0, env0_aps, xt_a, xt_b, xt_c, -splice_eq, -stR_cells, stR_box, stR_boxA, stR_row, stR_row0, stR_row1, stR_rowA, stR_rowA0, splice_rowv, splice_rowv0, splice_rowv1, splice_z, splice_n, splice_s, nth_rowv, nth_rowv0, nth_rowv1, rowv_len, hnm, X0, X1, hsd', hlt, E1.blk, X0, X1, E2.blk, X0, X1, M3.blk]
        exact hsame (by simp [ringAddP, hr, ht, hnm])
      · by_cases h6 : 6 ≤ xs.length
        · have h6' : (6 : Int) ≤ xs.length := by omega
          simp (maxSteps := 1000000) (disch := first | assumption | omega | (simp only [World.size_alloc, size_setRow, dw_size]; done) | (simp only [World.size_alloc, size_setRow, dw_size] <;> omega) | (simp only [List.length_set, Array.length_toList, List.length_cons, List.length_nil, List.length_append, bts_size] <;> omega) | (simp only [List.all_cons, List.all_nil, Value.oneCell', Bool.and_self, Bool.and_true]; done)) [-Option.bind_some, hp_alloc_lt, hp_alloc_eq, hp_set_ne, wrap_small, ups_ap_cons, ups_ap_nil, upd_same, upd_other, env0_ap0, env0_aps, xt_a, xt_b, xt_c, -splice_eq, -stR_cells, stR_box, stR_boxA, stR_row, stR_row0, stR_row1, stR_rowA, stR_rowA0, splice_rowv, splice_rowv0, splice_rowv1, splice_z, splice_n, splice_s, nth_rowv, nth_rowv0, nth_rowv1, rowv_len, hnm, X0, X1, h6, h6', hsd', hlt, E1.blk, X0, X1, E2.blk, X0, X1, M3.blk]
          exact hsame (by simp [ringAddP, hr, ht, hnm, h6])
        · have h6' : ¬ (6 : Int) ≤ xs.length := by omega
          rw [show ringAddP xs s = (xs.take k ++ ([s] ++ xs.drop k), true) by simp [ringAddP, hr, ht, hnm, h6, hk]] at hQ
          have hl : (xs.take k ++ ([s] ++ xs.drop k)).length = xs.length + 1 := by simp; omega
          rw [hl] at hQ
          simp (maxSteps := 1000000) (disch := first | assumption | omega | (simp only [World.size_alloc, size_setRow, dw_size]; done) | (simp only [World.size_alloc, size_setRow, dw_size] <;> omega) | (simp only [List.length_set, Array.length_toList, List.length_cons, List.length_nil, List.length_append, bts_size] <;> omega) | (simp only [List.all_cons, List.all_nil, Value.oneCell', Bool.and_self, Bool.and_true]; done)) [-Option.bind_some, hp_alloc_lt, hp_alloc_eq, hp_set_ne, wrap_small, ups_ap_cons, ups_ap_nil, upd_same, upd_other, env0_ap0, env0_aps, xt_a, xt_b, xt_c, -splice_eq, -stR_cells, stR_box, stR_boxA, stR_row, stR_row0, stR_row1, stR_rowA, stR_rowA0, splice_rowv, splice_rowv0, splice_rowv1, splice_z, splice_n, splice_s, nth_rowv, nth_rowv0, nth_rowv1, rowv_len, hnm, X0, X1, h6, h6', hlt, E1.blk, X0, X1, E2.blk, X0, X1, M3.blk]
          have hvr : Raw 9 (w3'.alloc (.cells #[.string s] 9 (0, 0))) w3'.heap.size [s] 1 := ⟨[.string s], (by first | assumption | rfl | (simp (maxSteps := 1000000) (disch := first | assumption | omega | (simp only [World.size_alloc, size_setRow, dw_size]; done) | (simp only [World.size_alloc, size_setRow, dw_size] <;> omega) | (simp only [List.length_set, Array.length_toList, List.length_cons, List.length_nil, List.length_append, bts_size] <;> omega) | (simp only [List.all_cons, List.all_nil, Value.oneCell', Bool.and_self, Bool.and_true]; done)) [-Option.bind_some, hp_alloc_lt, hp_alloc_eq, hp_set_ne, wrap_small, ups_ap_cons, ups_ap_nil, upd_same, upd_other, env0_ap0, env0_aps, xt_a, xt_b, xt_c, -splice_eq, -stR_cells, stR_box, stR_boxA, stR_row, stR_row0, stR_row1, stR_rowA, stR_rowA0, splice_rowv, splice_rowv0, splice_rowv1, splice_z, splice_n, splice_s, nth_rowv, nth_rowv0, nth_rowv1, rowv_len, hlt, E1.blk, X0, X1, E2.blk, X0, X1, M3.blk]; done)), by simp, by simp, by omega, rfl, by simpa using hs⟩
          have hvd := (hvr.o (mx := 8796093021952) (by simp)).d
          refine Ret.bind (app_part (o3.ext (Ext.alloc _ _)) hvd (by simp; omega)) ?_
          rintro ⟨_, w4⟩ ⟨a4, c4, rfl, o4, M4⟩
          have zM4 := M4.size
          try simp only [World.size_alloc, size_setRow, dw_size] at zM4
          try dsimp only at o4 M4
          have zM4 := M4.size
          simp only [World.size_alloc] at zM4 o4
          have F4 : Ext w w4 := Mod.after (a := w) (F3.al (.cells #[.string s] 9 (0, 0))) M4 (by intro x hx h; omega)
          have X0 : hp w4 w.heap.size = some (.cells #[.slice a xs.length c] 55 (0, 0)) := (M4.blk w.heap.size (by simp; omega) (by omega)).trans ((hp_alloc_lt (by omega)).trans X0)
          have X1 : hp w4 (w.heap.size + 1) = some (.cells #[.slice none 0 0] 55 (0, 0)) := (M4.blk (w.heap.size + 1) (by simp; omega) (by omega)).trans ((hp_alloc_lt (by omega)).trans X1)
          rw [hlt] at o4
          simp (maxSteps := 1000000) (disch := first | assumption | omega | (simp only [World.size_alloc, size_setRow, dw_size]; done) | (simp only [World.size_alloc, size_setRow, dw_size] <;> omega) | (simp only [List.length_set, Array.length_toList, List.length_cons, List.length_nil, List.length_append, bts_size] <;> omega) | (simp only [List.all_cons, List.all_nil, Value.oneCell', Bool.and_self, Bool.and_true]; done)) [-Option.bind_some, hp_alloc_lt, hp_alloc_eq, hp_set_ne, wrap_small, ups_ap_cons, ups_ap_nil, upd_same, upd_other, env0_ap0, env0_aps, xt_a, xt_b, xt_c, -splice_eq, -stR_cells, stR_box, stR_boxA, stR_row, stR_row0, stR_row1, stR_rowA, stR_rowA0, splice_rowv, splice_rowv0, splice_rowv1, splice_z, splice_n, splice_s, nth_rowv, nth_rowv0, nth_rowv1, rowv_len, X0, hsd', hlt, hlt, E1.blk, X0, X1, E2.blk, X0, X1, M3.blk, M4.blk, X0, X1]
          refine Ret.bind (app_part (by simpa using o4) (hDd'.ext F4) (by simp; omega)) ?_
          rintro ⟨_, w5⟩ ⟨a5, c5, rfl, o5, M5⟩
          have zM5 := M5.size
          try simp only [World.size_alloc, size_setRow, dw_size] at zM5
          try dsimp only at o5 M5
          have zM5 := M5.size
          have F5 : Ext w w5 := Mod.after (a := w) F4 M5 (by intro x hx h; simp only [In] at h; omega)
          have X5 : hp w5 (w.heap.size + 1) = some (.cells #[.slice none 0 0] 55 (0, 0)) := (M5.blk (w.heap.size + 1) (by omega) (by simp only [In]; omega)).trans X1
          have hl5 : (xs.take k ++ [s]).length + (xs.drop k).length = xs.length + 1 := by simp; omega
          rw [hl5, List.append_assoc] at o5
          rw [hl5]
          simp (maxSteps := 1000000) (disch := first | assumption | omega | (simp only [World.size_alloc, size_setRow, dw_size]; done) | (simp only [World.size_alloc, size_setRow, dw_size] <;> omega) | (simp only [List.length_set, Array.length_toList, List.length_cons, List.length_nil, List.length_append, bts_size] <;> omega) | (simp only [List.all_cons, List.all_nil, Value.oneCell', Bool.and_self, Bool.and_true]; done)) [-Option.bind_some, hp_alloc_lt, hp_alloc_eq, hp_set_ne, wrap_small, ups_ap_cons, ups_ap_nil, upd_same, upd_other, env0_ap0, env0_aps, xt_a, xt_b, xt_c, -splice_eq, -stR_cells, stR_box, stR_boxA, stR_row, stR_row0, stR_row1, stR_rowA, stR_rowA0, splice_rowv, splice_rowv0, splice_rowv1, splice_z, splice_n, splice_s, nth_rowv, nth_rowv0, nth_rowv1, rowv_len, X5, hlt, E1.blk, X0, X1, E2.blk, X0, X1, M3.blk, M4.blk, X0, X1, M5.blk, X5]
          refine hQ _ ⟨a5, c5, rfl, O.wide (o5.keep (fun b hb hl => hp_set_ne ?_)) ?_, by (repeat (first | exact Ext.rfl | assumption | (refine Ext.al ?_ _) | (refine Ext.dw ?_) | (refine Ext.set ?_ (by first | omega | (simp only [World.size_alloc, size_setRow, dw_size]; omega)) _) | (refine Ext.tr ?_ (by assumption))))⟩
          · rcases hb with (hb | hb) | hb <;> (try simp only [In] at hb) <;> omega
          · intro b hb hl
            simp only [In, size_setRow] at *
            omega
    · simp (maxSteps := 1000000) (disch := first | assumption | omega | (simp only [World.size_alloc, size_setRow, dw_size]; done) | (simp only [World.size_alloc, size_setRow, dw_size] <;> omega) | (simp only [List.length_set, Array.length_toList, List.length_cons, List.length_nil, List.length_append, bts_size] <;> omega) | (simp only [List.all_cons, List.all_nil, Value.oneCell', Bool.and_self, Bool.and_true]; done)) [-Option.bind_some, hp_alloc_lt, hp_alloc_eq, hp_set_ne, wrap_small, ups_ap_cons, ups_ap_nil, upd_same, upd_other, env0_ap0, env0_aps, xt_a, xt_b, xt_c, -splice_eq, -stR_cells, stR_box, stR_boxA, stR_row, stR_row0, stR_row1, stR_rowA, stR_rowA0, splice_rowv, splice_rowv0, splice_rowv1, splice_z, splice_n, splice_s, nth_rowv, nth_rowv0, nth_rowv1, rowv_len, ht, X0, X1, hsd', hlt, E1.blk, X0, X1, E2.blk, X0, X1, M3.blk]
      exact hsame (by simp [ringAddP, hr, ht])
end Go.Proofs.Ytcafhepclddcaaa.X
