/- The pure law behind FnExactPastWithin, over the functions that were printed of the program: for every two pasts the program's PastWithin and the reference's PastWithin say the same, and both pasts are left as they were. No condition beyond the form's own: each string and each slice that is handed in takes at most 2^47 - 4096 bytes. -/
import Derived.Test.YtfkoecaejfkjpaaPFnExactPastWithinx6
set_option linter.unusedVariables false
set_option linter.unusedSimpArgs false
namespace Go.Proofs.Ytfkoecaejfkjpaa.PureFnExactPastWithin
open Go.RowKit Go.Proofs.Ytfkoecaejfkjpaa.PFnExactPastWithin Go.Proofs.YtfkoecaejfkjpaaV.PrintWords Go.Proofs.YtfkoecaejfkjpaaV.PrintLast Go.Proofs.YtfkoecaejfkjpaaV.PrintMore

theorem w64 {i : Int} (h0 : -9223372036854775808 ≤ i) (h1 : i ≤ 9223372036854775807) : wrap64 i = i := by
  unfold wrap64
  omega

theorem within_eq (a b c : Int) : impl_within.f a b c = some (decide (b ≤ a) && decide (a ≤ c)) := by
  unfold impl_within.f
  split <;> simp_all <;> omega

theorem in_eq (a b c : Int) : spec_l1In.f a b c = some (decide (b ≤ a) && decide (a ≤ c)) := by
  unfold spec_l1In.f
  split <;> simp_all <;> omega

def tagOk (a b : Int) : Bool := (a == 0 && b == 0) || (decide (1 ≤ a) && decide (a ≤ 999) && decide (0 ≤ b) && decide (b ≤ 2))

theorem tagOk_eq (a b : Int) : impl_TagOk.f a b = some (tagOk a b) := by
  unfold impl_TagOk.f impl_placeOk.f tagOk
  simp only [within_eq, Option.bind_some]
  split
  · rename_i h; rw [h]; rfl
  · rename_i h; rw [Bool.not_eq_true] at h; rw [h, Bool.false_or]
    split <;> simp_all <;> omega

theorem l1TagOk_eq (a b : Int) : spec_l1TagOk.f a b = some (tagOk a b) := by
  unfold spec_l1TagOk.f tagOk
  simp only [in_eq, Option.bind_some]
  split
  · rename_i h; rw [h]; rfl
  · rename_i h; rw [Bool.not_eq_true] at h; rw [h, Bool.false_or]
    split <;> simp_all <;> omega

theorem cmp_eq (a b : Int) : cmp_Compare_int.f a b = some (if a < b then -1 else if a > b then 1 else 0) := by
  unfold cmp_Compare_int.f cmp_isNaN_int.f
  simp only [Option.bind_some, bne_self_eq_false, Bool.false_eq_true, if_false]
  split
  · rfl
  · split <;> rfl

theorem or2_eq (k : Nat) (a b : Int) : cmp_Or_int.f (k + 3) [a, b] = some (if a = 0 then b else a) := by
  have h0 : ∀ x : Int, rd [x, b] 0 = x := fun x => rfl
  have h1 : ∀ x : Int, rd [x, b] 1 = b := fun x => rfl
  have w0 : wrap64 (0 + 1) = 1 := by decide +kernel
  have w1 : wrap64 (1 + 1) = 2 := by decide +kernel
  simp only [cmp_Or_int.f, cmp_Or_int.l0, h0, h1, w0, w1, List.length_cons, List.length_nil]
  simp only [show ((0 : Int) < ((0 + 1 + 1 : Nat) : Int)) from by decide, show ((1 : Int) < ((0 + 1 + 1 : Nat) : Int)) from by decide, show ¬ ((2 : Int) < ((0 + 1 + 1 : Nat) : Int)) from by decide, show ((0 : Int) ≤ 0) from by decide, show ((0 : Int) ≤ 1) from by decide, if_true, if_false]
  split
  · split <;> simp_all
  · rfl

def tagLess (a b c d : Int) : Bool := decide (a < c) || (decide (a = c) && decide (b < d))

theorem implLess_eq (k : Nat) (a b c d : Int) : impl_TagLess.f (k + 3) a b c d = some (tagLess a b c d) := by
  unfold impl_TagLess.f impl_Tag_compare.f tagLess
  simp only [cmp_eq, Option.bind_some, or2_eq, Option.some.injEq]
  by_cases h1 : a < c
  · simp [h1]
  · by_cases h2 : a > c
    · have h3 : a ≠ c := by omega
      simp [h1, h2, h3]
    · have h3 : a = c := by omega
      subst h3
      by_cases h4 : b < d
      · simp [h4]
      · by_cases h5 : b > d <;> simp [h4, h5]

theorem eqTag_refl (a b : Int) : laws_eqTag.f a b a b = some true := by
  simp [laws_eqTag.f]

theorem wn {i n : Nat} (hn : n ≤ 4611686018427387904) (hi : i < n) : wrap64 ((i : Int) + 1) = ((i + 1 : Nat) : Int) := by
  rw [w64 (by omega) (by omega)]
  omega

theorem set_take {α : Type} (x : List α) (i : Nat) (v : α) (h : i < x.length) : (x.set i v).take (i + 1) = x.take i ++ [v] := by
  rw [List.take_succ_eq_append_getElem (by rw [List.length_set]; exact h), List.take_set_of_le (Nat.le_refl _), List.getElem_set_self]

theorem cast_lt {i n : Nat} (h : i < n) : ((i : Int) < (n : Int)) := by omega

theorem cast_nn (i : Nat) : (0 : Int) ≤ (i : Int) := by omega

theorem rdTag_eq (l : List S26) (i : Nat) (h : i < l.length) : rd_T26 l (i : Int) = l[i] := by
  unfold rd_T26
  rw [Int.toNat_natCast, List.getD_eq_getElem?_getD, List.getElem?_eq_getElem h]
  rfl

theorem rdTagL_eq (l : List S24) (i : Nat) (h : i < l.length) : rd_T24 l (i : Int) = l[i] := by
  unfold rd_T24
  rw [Int.toNat_natCast, List.getD_eq_getElem?_getD, List.getElem?_eq_getElem h]
  rfl

theorem szPast_cases (l : List S24) (hl : l.length ≤ 8796093021952) (a : Int) (h0 : 0 ≤ a) (h1 : a ≤ 1048576) : ∃ t, laws_szPast.f l a = some t ∧ (t < 0 ∨ 0 ≤ t ∧ t ≤ a ∧ l.length ≤ 1048576) := by
  unfold laws_szPast.f laws_szTagS.f
  rw [w64 (by omega) (by omega)]
  by_cases h : a - (l.length : Int) < 0
  · refine ⟨-1, ?_, Or.inl (by omega)⟩
    simp [h]
  · refine ⟨a - l.length, ?_, Or.inr (by omega)⟩
    simp [h]

def convTag (x : S24) : S26 := ⟨x.f0, x.f1⟩

theorem toTagS_l0 (l : List S24) (hl : l.length ≤ 8796093021952) : ∀ (m i k : Nat) (x : List S26), i + m = l.length → m < k → x.length = l.length → laws_toTagS.l0 k l x (i : Int) = some (x.take i ++ (l.drop i).map convTag) := by
  intro m
  induction m with
  | zero =>
    intro i k x hi hk hx
    obtain ⟨k, rfl⟩ : ∃ j, k = j + 1 := ⟨k - 1, by omega⟩
    have e : i = l.length := by omega
    subst e
    simp only [laws_toTagS.l0, Int.lt_irrefl, if_false]
    rw [List.drop_length, List.map_nil, List.append_nil, ← hx, List.take_length]
  | succ m ih =>
    intro i k x hi hk hx
    obtain ⟨k, rfl⟩ : ∃ j, k = j + 1 := ⟨k - 1, by omega⟩
    have hil : i < l.length := by omega
    have hix : i < x.length := by omega
    simp only [laws_toTagS.l0, laws_toTag.f, Option.bind_some, if_pos (cast_lt hil), if_pos (cast_lt hix), if_pos (cast_nn i), rdTagL_eq l i hil, Int.toNat_natCast]
    rw [wn (by omega) hil, ih (i + 1) k _ (by omega) (by omega) (by rw [List.length_set]; exact hx), set_take x i _ hix, List.drop_eq_getElem_cons hil, List.map_cons, List.append_assoc]
    rfl

theorem toTagS_eq (l : List S24) (hl : l.length ≤ 8796093021952) (k : Nat) (hk : l.length < k) : laws_toTagS.f k l = some (l.map convTag) := by
  unfold laws_toTagS.f
  rw [if_pos (cast_nn _), Int.toNat_natCast, if_pos (by omega)]
  have h := toTagS_l0 l hl l.length 0 k (List.replicate l.length z26) (by omega) hk (by rw [List.length_replicate])
  rw [List.take_zero, List.nil_append, List.drop_zero] at h
  exact h

theorem toPast_eq (l : List S24) (hl : l.length ≤ 8796093021952) (k : Nat) (hk : l.length < k) : laws_toPast.f k l = some (l.map convTag) := by
  unfold laws_toPast.f
  rw [toTagS_eq l hl k hk]
  rfl

theorem eqTagS_l0 (l : List S26) (hl : l.length ≤ 8796093021952) : ∀ (m i k : Nat), i + m = l.length → m < k → laws_eqTagS.l0 k l l (i : Int) = some true := by
  intro m
  induction m with
  | zero =>
    intro i k hi hk
    obtain ⟨k, rfl⟩ : ∃ j, k = j + 1 := ⟨k - 1, by omega⟩
    have e : i = l.length := by omega
    subst e
    simp only [laws_eqTagS.l0, Int.lt_irrefl, if_false]
  | succ m ih =>
    intro i k hi hk
    obtain ⟨k, rfl⟩ : ∃ j, k = j + 1 := ⟨k - 1, by omega⟩
    have hil : i < l.length := by omega
    simp only [laws_eqTagS.l0, eqTag_refl, Option.bind_some, if_pos (cast_lt hil), if_pos (cast_nn i), if_true]
    rw [wn (by omega) hil, ih (i + 1) k (by omega) (by omega)]

theorem eqPast_refl (l : List S26) (hl : l.length ≤ 8796093021952) (k : Nat) (hk : l.length < k) : laws_eqPast.f k l l = some true := by
  unfold laws_eqPast.f laws_eqTagS.f
  have h := eqTagS_l0 l hl l.length 0 k (by omega) hk
  simp only [if_true]
  rw [show (0 : Int) = ((0 : Nat) : Int) from rfl, h]
  rfl

def pastOk (l : List S26) : Bool := ((l.length : Int) == 4) && l.all (fun t => tagOk t.f0 t.f1)

theorem l1PastOk_l0 (l : List S26) (hl : l.length ≤ 8796093021952) : ∀ (m i k : Nat), i + m = l.length → m < k → spec_l1PastOk.l0 k (i : Int) l = some ((l.drop i).all (fun t => tagOk t.f0 t.f1) && ((l.length : Int) == 4)) := by
  intro m
  induction m with
  | zero =>
    intro i k hi hk
    obtain ⟨k, rfl⟩ : ∃ j, k = j + 1 := ⟨k - 1, by omega⟩
    have e : i = l.length := by omega
    subst e
    simp only [spec_l1PastOk.l0, Int.lt_irrefl, if_false, List.drop_length, List.all_nil, Bool.true_and]
  | succ m ih =>
    intro i k hi hk
    obtain ⟨k, rfl⟩ : ∃ j, k = j + 1 := ⟨k - 1, by omega⟩
    have hil : i < l.length := by omega
    simp only [spec_l1PastOk.l0, l1TagOk_eq, Option.bind_some, if_pos (cast_lt hil), if_pos (cast_nn i), rdTag_eq l i hil]
    rw [wn (by omega) hil, ih (i + 1) k (by omega) (by omega), List.drop_eq_getElem_cons hil, List.all_cons]
    split
    · rename_i h
      rw [h, Bool.true_and]
    · rename_i h
      rw [Bool.not_eq_true] at h
      rw [h, Bool.false_and, Bool.false_and]

theorem l1PastOk_eq (l : List S26) (hl : l.length ≤ 8796093021952) (k : Nat) (hk : l.length < k) : spec_l1PastOk.f k l = some (pastOk l) := by
  have h := l1PastOk_l0 l hl l.length 0 k (by omega) hk
  rw [List.drop_zero, Bool.and_comm] at h
  exact h

theorem notTag_l0 (l : List S26) (hl : l.length ≤ 8796093021952) : ∀ (m i k : Nat), i + m = l.length → m < k → ∃ r, slices_IndexFunc_impl_Tag_impl_Tag_PastOk_lit1.l0 k l (l.length : Int) (i : Int) = some r ∧ decide (r ≥ 0) = !(l.drop i).all (fun t => tagOk t.f0 t.f1) := by
  intro m
  induction m with
  | zero =>
    intro i k hi hk
    obtain ⟨k, rfl⟩ : ∃ j, k = j + 1 := ⟨k - 1, by omega⟩
    have e : i = l.length := by omega
    subst e
    refine ⟨-1, ?_, ?_⟩
    · simp only [slices_IndexFunc_impl_Tag_impl_Tag_PastOk_lit1.l0, Int.lt_irrefl, if_false]
    · rw [List.drop_length]
      rfl
  | succ m ih =>
    intro i k hi hk
    obtain ⟨k, rfl⟩ : ∃ j, k = j + 1 := ⟨k - 1, by omega⟩
    have hil : i < l.length := by omega
    simp only [slices_IndexFunc_impl_Tag_impl_Tag_PastOk_lit1.l0, impl_PastOk_lit1.f, tagOk_eq, Option.bind_some, if_pos (cast_lt hil), if_pos (cast_nn i), rdTag_eq l i hil]
    rw [wn (by omega) hil, List.drop_eq_getElem_cons hil, List.all_cons]
    by_cases h : tagOk l[i].f0 l[i].f1 = true
    · rw [h, Bool.true_and]
      exact ih (i + 1) k (by omega) (by omega)
    · rw [Bool.not_eq_true] at h
      rw [h, Bool.false_and]
      exact ⟨(i : Int), rfl, decide_eq_true (cast_nn i)⟩

theorem implPastOk_eq (l : List S26) (hl : l.length ≤ 8796093021952) (k : Nat) (hk : l.length < k) : impl_PastOk.f k l = some (pastOk l) := by
  unfold impl_PastOk.f slices_ContainsFunc_impl_Tag_impl_Tag_PastOk_lit1.f slices_IndexFunc_impl_Tag_impl_Tag_PastOk_lit1.f pastOk
  obtain ⟨r, h1, h2⟩ := notTag_l0 l hl l.length 0 k (by omega) hk
  rw [List.drop_zero] at h2
  rw [show ((0 : Nat) : Int) = 0 from rfl] at h1
  rw [h1]
  simp only [Option.bind_some, h2, Bool.not_not]
  by_cases h : (l.length : Int) = 4
  · rw [if_pos h, h]
    rfl
  · rw [if_neg h, beq_eq_false_iff_ne.mpr h, Bool.false_and]

theorem implLess_ge (k : Nat) (a b c d : Int) (hk : 3 ≤ k) : impl_TagLess.f k a b c d = some (tagLess a b c d) := by
  obtain ⟨k, rfl⟩ : ∃ j, k = j + 3 := ⟨k - 3, by omega⟩
  exact implLess_eq k a b c d

theorem l1Less_eq (a b c d : Int) : spec_l1Less.f a b c d = some (tagLess a b c d) := by
  unfold spec_l1Less.f tagLess
  by_cases h : a < c
  · simp [h]
  · by_cases h2 : a = c <;> simp [h, h2]

def under (x y : List S26) (i : Nat) : Bool := ((x.drop i).zip (y.drop i)).all (fun p => !tagLess p.2.f0 p.2.f1 p.1.f0 p.1.f1)

theorem under_step (x y : List S26) (i : Nat) (hx : i < x.length) (hy : i < y.length) : under x y i = (!tagLess y[i].f0 y[i].f1 x[i].f0 x[i].f1 && under x y (i + 1)) := by
  unfold under
  rw [List.drop_eq_getElem_cons hx, List.drop_eq_getElem_cons hy, List.zip_cons_cons, List.all_cons]

theorem within_l0 (x y : List S26) (hx : x.length = 4) (hy : y.length = 4) : ∀ (m i k : Nat), i + m = 4 → m < k → spec_l1Within.l0 k (i : Int) x y = some (under x y i) := by
  intro m
  induction m with
  | zero =>
    intro i k hi hk
    obtain ⟨k, rfl⟩ : ∃ j, k = j + 1 := ⟨k - 1, by omega⟩
    have e : i = 4 := by omega
    subst e
    have h : under x y 4 = true := by
      unfold under
      rw [← hx, List.drop_length, List.zip_nil_left, List.all_nil]
    rw [h]
    simp only [spec_l1Within.l0, show ¬ (((4 : Nat) : Int) < 4) from by omega, if_false]
  | succ m ih =>
    intro i k hi hk
    obtain ⟨k, rfl⟩ : ∃ j, k = j + 1 := ⟨k - 1, by omega⟩
    have hix : i < x.length := by omega
    have hiy : i < y.length := by omega
    simp only [spec_l1Within.l0, l1Less_eq, Option.bind_some, if_pos (show ((i : Int) < 4) from by omega), if_pos (cast_lt hix), if_pos (cast_lt hiy), if_pos (cast_nn i), rdTag_eq x i hix, rdTag_eq y i hiy]
    rw [wn (by omega) hix, ih (i + 1) k (by omega) (by omega), under_step x y i hix hiy]
    split
    · rename_i h
      rw [h, Bool.not_true, Bool.false_and]
    · rename_i h
      rw [Bool.not_eq_true] at h
      rw [h, Bool.not_false, Bool.true_and]

theorem under_l0 (x y : List S26) (hx : x.length = 4) (hy : y.length = 4) : ∀ (m i k : Nat), i + m = 4 → m + 3 < k → impl_Past_under.l0 k x (x.length : Int) (i : Int) y = some (under x y i) := by
  intro m
  induction m with
  | zero =>
    intro i k hi hk
    obtain ⟨k, rfl⟩ : ∃ j, k = j + 1 := ⟨k - 1, by omega⟩
    have e : i = x.length := by omega
    subst e
    have h : under x y x.length = true := by
      unfold under
      rw [List.drop_length, List.zip_nil_left, List.all_nil]
    rw [h]
    simp only [impl_Past_under.l0, Int.lt_irrefl, if_false]
  | succ m ih =>
    intro i k hi hk
    obtain ⟨k, rfl⟩ : ∃ j, k = j + 1 := ⟨k - 1, by omega⟩
    have hix : i < x.length := by omega
    have hiy : i < y.length := by omega
    simp only [impl_Past_under.l0, implLess_ge k _ _ _ _ (show 3 ≤ k from by omega), Option.bind_some, if_pos (cast_lt hix), if_pos (cast_lt hiy), if_pos (cast_nn i), rdTag_eq x i hix, rdTag_eq y i hiy]
    rw [wn (by omega) hix, ih (i + 1) k (by omega) (by omega), under_step x y i hix hiy]
    split
    · rename_i h
      rw [h, Bool.not_true, Bool.false_and]
    · rename_i h
      rw [Bool.not_eq_true] at h
      rw [h, Bool.not_false, Bool.true_and]

theorem pastOk_len (x : List S26) (h : pastOk x = true) : x.length = 4 := by
  unfold pastOk at h
  rw [Bool.and_eq_true, beq_iff_eq] at h
  omega

def pastWithin (x y : List S26) : Bool := pastOk x && pastOk y && under x y 0

theorem specPastWithin_eq (x y : List S26) (hx : x.length ≤ 8796093021952) (hy : y.length ≤ 8796093021952) (k : Nat) (hkx : x.length < k) (hky : y.length < k) (hk : 8 ≤ k) : spec_PastWithin.f k x y = some (pastWithin x y) := by
  unfold spec_PastWithin.f pastWithin spec_l1Within.f
  rw [l1PastOk_eq x hx k hkx, l1PastOk_eq y hy k hky]
  simp only [Option.bind_some]
  split
  · rename_i h1
    split
    · rename_i h2
      have h3 := within_l0 x y (pastOk_len x h1) (pastOk_len y h2) 4 0 k (by omega) (by omega)
      rw [show (0 : Int) = ((0 : Nat) : Int) from rfl, h3, h1, h2]
      rfl
    · rename_i h2
      rw [Bool.not_eq_true] at h2
      rw [h2, Bool.and_false, Bool.false_and]
  · rename_i h1
    rw [Bool.not_eq_true] at h1
    rw [h1, Bool.false_and, Bool.false_and]

theorem implPastWithin_eq (x y : List S26) (hx : x.length ≤ 8796093021952) (hy : y.length ≤ 8796093021952) (k : Nat) (hkx : x.length < k) (hky : y.length < k) (hk : 8 ≤ k) : impl_PastWithin.f k x y = some (pastWithin x y) := by
  unfold impl_PastWithin.f pastWithin impl_Past_under.f
  rw [implPastOk_eq x hx k hkx, implPastOk_eq y hy k hky]
  simp only [Option.bind_some]
  split
  · rename_i h1
    split
    · rename_i h2
      have h3 := under_l0 x y (pastOk_len x h1) (pastOk_len y h2) 4 0 k (by omega) (by omega)
      rw [show (0 : Int) = ((0 : Nat) : Int) from rfl, h3, h1, h2]
      rfl
    · rename_i h2
      rw [Bool.not_eq_true] at h2
      rw [h2, Bool.and_false, Bool.false_and]
  · rename_i h1
    rw [Bool.not_eq_true] at h1
    rw [h1, Bool.false_and, Bool.false_and]

theorem FnExactPastWithin : laws_FnExactPastWithin.Pure := by
  intro l m hl hm
  have hl' : l.length ≤ 8796093021952 := by have := hl.1; omega
  have hm' : m.length ≤ 8796093021952 := by have := hm.1; omega
  refine ⟨l.length + m.length + 8, ?_⟩
  have hlc : (l.map convTag).length = l.length := List.length_map ..
  have hmc : (m.map convTag).length = m.length := List.length_map ..
  unfold laws_FnExactPastWithin.f
  obtain ⟨t, ht, h⟩ := szPast_cases l hl' 1048576 (by omega) (by omega)
  simp only [ht, Option.bind_some]
  split
  · rfl
  · rename_i hn
    obtain ⟨t2, ht2, h2⟩ := szPast_cases m hm' t (by omega) (by omega)
    simp only [ht2, Option.bind_some]
    split
    · rfl
    · simp only [toPast_eq l hl' (l.length + m.length + 8) (by omega), toPast_eq m hm' (l.length + m.length + 8) (by omega), Option.bind_some, specPastWithin_eq (l.map convTag) (m.map convTag) (by omega) (by omega) (l.length + m.length + 8) (by omega) (by omega) (by omega), implPastWithin_eq (l.map convTag) (m.map convTag) (by omega) (by omega) (l.length + m.length + 8) (by omega) (by omega) (by omega), bne_self_eq_false, Bool.false_eq_true, if_false, eqPast_refl (l.map convTag) (by omega) (l.length + m.length + 8) (by omega), eqPast_refl (m.map convTag) (by omega) (l.length + m.length + 8) (by omega), if_true]

end Go.Proofs.Ytfkoecaejfkjpaa.PureFnExactPastWithin
namespace Go.Proofs.Ytfkoecaejfkjpaa.Pure
theorem FnExactPastWithin : Go.Proofs.Ytfkoecaejfkjpaa.PFnExactPastWithin.laws_FnExactPastWithin.Pure := Go.Proofs.Ytfkoecaejfkjpaa.PureFnExactPastWithin.FnExactPastWithin
end Go.Proofs.Ytfkoecaejfkjpaa.Pure
