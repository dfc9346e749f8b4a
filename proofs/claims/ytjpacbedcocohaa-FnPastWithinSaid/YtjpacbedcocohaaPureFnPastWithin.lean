/- The pure law behind FnPastWithin, over the functions that were printed of the program: for every run of bytes, of the two pasts drawn from it: the program's PastWithin says what the reference's says, one is within the other just if it adds nothing to it, both ways just if they are the same, and no past is below none. No condition beyond the form's own: each string and each slice that is handed in takes at most 2^47 - 4096 bytes. -/
import Derived.Test.YtjpacbedcocohaaPFnPastWithinx8
set_option linter.unusedVariables false
set_option linter.unusedSimpArgs false
namespace Go.Proofs.Ytjpacbedcocohaa.PureFnPastWithin
open Go.RowKit Go.Proofs.Ytjpacbedcocohaa.PFnPastWithin Go.Proofs.YtjpacbedcocohaaV.PrintWords Go.Proofs.YtjpacbedcocohaaV.PrintLast Go.Proofs.YtjpacbedcocohaaV.PrintMore

theorem w64 {i : Int} (h0 : -9223372036854775808 ≤ i) (h1 : i ≤ 9223372036854775807) : wrap64 i = i := by
  unfold wrap64
  omega

theorem within_eq (a b c : Int) : impl_within.f a b c = some (decide (b ≤ a) && decide (a ≤ c)) := by
  unfold impl_within.f
  split <;> simp_all <;> omega

theorem in_eq (a b c : Int) : spec_l1In.f a b c = some (decide (b ≤ a) && decide (a ≤ c)) := by
  unfold spec_l1In.f
  split <;> simp_all <;> omega

def tagOk (a b : Int) : Bool := (a == 0 && b == 0) || (decide (1 ≤ a) && decide (a ≤ 999) && decide (0 ≤ b) && decide (b ≤ 2))

theorem tagOk_eq (a b : Int) : impl_TagOk.f a b = some (tagOk a b) := by
  unfold impl_TagOk.f impl_placeOk.f tagOk
  simp only [within_eq, Option.bind_some]
  split
  · rename_i h; rw [h]; rfl
  · rename_i h; rw [Bool.not_eq_true] at h; rw [h, Bool.false_or]
    split <;> simp_all <;> omega

theorem l1TagOk_eq (a b : Int) : spec_l1TagOk.f a b = some (tagOk a b) := by
  unfold spec_l1TagOk.f tagOk
  simp only [in_eq, Option.bind_some]
  split
  · rename_i h; rw [h]; rfl
  · rename_i h; rw [Bool.not_eq_true] at h; rw [h, Bool.false_or]
    split <;> simp_all <;> omega

theorem cmp_eq (a b : Int) : cmp_Compare_int.f a b = some (if a < b then -1 else if a > b then 1 else 0) := by
  unfold cmp_Compare_int.f cmp_isNaN_int.f
  simp only [Option.bind_some, bne_self_eq_false, Bool.false_eq_true, if_false]
  split
  · rfl
  · split <;> rfl

theorem or2_eq (k : Nat) (a b : Int) : cmp_Or_int.f (k + 3) [a, b] = some (if a = 0 then b else a) := by
  have h0 : ∀ x : Int, rd [x, b] 0 = x := fun x => rfl
  have h1 : ∀ x : Int, rd [x, b] 1 = b := fun x => rfl
  have w0 : wrap64 (0 + 1) = 1 := by decide +kernel
  have w1 : wrap64 (1 + 1) = 2 := by decide +kernel
  simp only [cmp_Or_int.f, cmp_Or_int.l0, h0, h1, w0, w1, List.length_cons, List.length_nil]
  simp only [show ((0 : Int) < ((0 + 1 + 1 : Nat) : Int)) from by decide, show ((1 : Int) < ((0 + 1 + 1 : Nat) : Int)) from by decide, show ¬ ((2 : Int) < ((0 + 1 + 1 : Nat) : Int)) from by decide, show ((0 : Int) ≤ 0) from by decide, show ((0 : Int) ≤ 1) from by decide, if_true, if_false]
  split
  · split <;> simp_all
  · rfl

def tagLess (a b c d : Int) : Bool := decide (a < c) || (decide (a = c) && decide (b < d))

theorem implLess_eq (k : Nat) (a b c d : Int) : impl_TagLess.f (k + 3) a b c d = some (tagLess a b c d) := by
  unfold impl_TagLess.f impl_Tag_compare.f tagLess
  simp only [cmp_eq, Option.bind_some, or2_eq, Option.some.injEq]
  by_cases h1 : a < c
  · simp [h1]
  · by_cases h2 : a > c
    · have h3 : a ≠ c := by omega
      simp [h1, h2, h3]
    · have h3 : a = c := by omega
      subst h3
      by_cases h4 : b < d
      · simp [h4]
      · by_cases h5 : b > d <;> simp [h4, h5]

def tagMax (a b c d : Int) : Int × Int := if tagLess a b c d = true then (c, d) else (a, b)

theorem wn {i n : Nat} (hn : n ≤ 4611686018427387904) (hi : i < n) : wrap64 ((i : Int) + 1) = ((i + 1 : Nat) : Int) := by
  rw [w64 (by omega) (by omega)]
  omega

theorem set_take {α : Type} (x : List α) (i : Nat) (v : α) (h : i < x.length) : (x.set i v).take (i + 1) = x.take i ++ [v] := by
  rw [List.take_succ_eq_append_getElem (by rw [List.length_set]; exact h), List.take_set_of_le (Nat.le_refl _), List.getElem_set_self]

theorem cast_lt {i n : Nat} (h : i < n) : ((i : Int) < (n : Int)) := by omega

theorem cast_nn (i : Nat) : (0 : Int) ≤ (i : Int) := by omega

theorem rdTag_eq (l : List S32) (i : Nat) (h : i < l.length) : rd_T32 l (i : Int) = l[i] := by
  unfold rd_T32
  rw [Int.toNat_natCast, List.getD_eq_getElem?_getD, List.getElem?_eq_getElem h]
  rfl

def pastOk (l : List S32) : Bool := ((l.length : Int) == 4) && l.all (fun t => tagOk t.f0 t.f1)

theorem pastOk_len (x : List S32) (h : pastOk x = true) : x.length = 4 := by
  unfold pastOk at h
  rw [Bool.and_eq_true, beq_iff_eq] at h
  omega

theorem l1PastOk_l0 (l : List S32) (hl : l.length ≤ 8796093021952) : ∀ (m i k : Nat), i + m = l.length → m < k → spec_l1PastOk.l0 k (i : Int) l = some ((l.drop i).all (fun t => tagOk t.f0 t.f1) && ((l.length : Int) == 4)) := by
  intro m
  induction m with
  | zero =>
    intro i k hi hk
    obtain ⟨k, rfl⟩ : ∃ j, k = j + 1 := ⟨k - 1, by omega⟩
    have e : i = l.length := by omega
    subst e
    simp only [spec_l1PastOk.l0, Int.lt_irrefl, if_false, List.drop_length, List.all_nil, Bool.true_and]
  | succ m ih =>
    intro i k hi hk
    obtain ⟨k, rfl⟩ : ∃ j, k = j + 1 := ⟨k - 1, by omega⟩
    have hil : i < l.length := by omega
    simp only [spec_l1PastOk.l0, l1TagOk_eq, Option.bind_some, if_pos (cast_lt hil), if_pos (cast_nn i), rdTag_eq l i hil]
    rw [wn (by omega) hil, ih (i + 1) k (by omega) (by omega), List.drop_eq_getElem_cons hil, List.all_cons]
    split
    · rename_i h
      rw [h, Bool.true_and]
    · rename_i h
      rw [Bool.not_eq_true] at h
      rw [h, Bool.false_and, Bool.false_and]

theorem l1PastOk_eq (l : List S32) (hl : l.length ≤ 8796093021952) (k : Nat) (hk : l.length < k) : spec_l1PastOk.f k l = some (pastOk l) := by
  have h := l1PastOk_l0 l hl l.length 0 k (by omega) hk
  rw [List.drop_zero, Bool.and_comm] at h
  exact h

theorem notTag_l0 (l : List S32) (hl : l.length ≤ 8796093021952) : ∀ (m i k : Nat), i + m = l.length → m < k → ∃ r, slices_IndexFunc_impl_Tag_impl_Tag_PastOk_lit1.l0 k l (l.length : Int) (i : Int) = some r ∧ decide (r ≥ 0) = !(l.drop i).all (fun t => tagOk t.f0 t.f1) := by
  intro m
  induction m with
  | zero =>
    intro i k hi hk
    obtain ⟨k, rfl⟩ : ∃ j, k = j + 1 := ⟨k - 1, by omega⟩
    have e : i = l.length := by omega
    subst e
    refine ⟨-1, ?_, ?_⟩
    · simp only [slices_IndexFunc_impl_Tag_impl_Tag_PastOk_lit1.l0, Int.lt_irrefl, if_false]
    · rw [List.drop_length]
      rfl
  | succ m ih =>
    intro i k hi hk
    obtain ⟨k, rfl⟩ : ∃ j, k = j + 1 := ⟨k - 1, by omega⟩
    have hil : i < l.length := by omega
    simp only [slices_IndexFunc_impl_Tag_impl_Tag_PastOk_lit1.l0, impl_PastOk_lit1.f, tagOk_eq, Option.bind_some, if_pos (cast_lt hil), if_pos (cast_nn i), rdTag_eq l i hil]
    rw [wn (by omega) hil, List.drop_eq_getElem_cons hil, List.all_cons]
    by_cases h : tagOk l[i].f0 l[i].f1 = true
    · rw [h, Bool.true_and]
      exact ih (i + 1) k (by omega) (by omega)
    · rw [Bool.not_eq_true] at h
      rw [h, Bool.false_and]
      exact ⟨(i : Int), rfl, decide_eq_true (cast_nn i)⟩

theorem implPastOk_eq (l : List S32) (hl : l.length ≤ 8796093021952) (k : Nat) (hk : l.length < k) : impl_PastOk.f k l = some (pastOk l) := by
  unfold impl_PastOk.f slices_ContainsFunc_impl_Tag_impl_Tag_PastOk_lit1.f slices_IndexFunc_impl_Tag_impl_Tag_PastOk_lit1.f pastOk
  obtain ⟨r, h1, h2⟩ := notTag_l0 l hl l.length 0 k (by omega) hk
  rw [List.drop_zero] at h2
  rw [show ((0 : Nat) : Int) = 0 from rfl] at h1
  rw [h1]
  simp only [Option.bind_some, h2, Bool.not_not]
  by_cases h : (l.length : Int) = 4
  · rw [if_pos h, h]
    rfl
  · rw [if_neg h, beq_eq_false_iff_ne.mpr h, Bool.false_and]

theorem implLess_ge (k : Nat) (a b c d : Int) (hk : 3 ≤ k) : impl_TagLess.f k a b c d = some (tagLess a b c d) := by
  obtain ⟨k, rfl⟩ : ∃ j, k = j + 3 := ⟨k - 3, by omega⟩
  exact implLess_eq k a b c d

theorem l1Less_eq (a b c d : Int) : spec_l1Less.f a b c d = some (tagLess a b c d) := by
  unfold spec_l1Less.f tagLess
  by_cases h : a < c
  · simp [h]
  · by_cases h2 : a = c <;> simp [h, h2]

def under (x y : List S32) (i : Nat) : Bool := ((x.drop i).zip (y.drop i)).all (fun p => !tagLess p.2.f0 p.2.f1 p.1.f0 p.1.f1)

theorem under_step (x y : List S32) (i : Nat) (hx : i < x.length) (hy : i < y.length) : under x y i = (!tagLess y[i].f0 y[i].f1 x[i].f0 x[i].f1 && under x y (i + 1)) := by
  unfold under
  rw [List.drop_eq_getElem_cons hx, List.drop_eq_getElem_cons hy, List.zip_cons_cons, List.all_cons]

theorem within_l0 (x y : List S32) (hx : x.length = 4) (hy : y.length = 4) : ∀ (m i k : Nat), i + m = 4 → m < k → spec_l1Within.l0 k (i : Int) x y = some (under x y i) := by
  intro m
  induction m with
  | zero =>
    intro i k hi hk
    obtain ⟨k, rfl⟩ : ∃ j, k = j + 1 := ⟨k - 1, by omega⟩
    have e : i = 4 := by omega
    subst e
    have h : under x y 4 = true := by
      unfold under
      rw [← hx, List.drop_length, List.zip_nil_left, List.all_nil]
    rw [h]
    simp only [spec_l1Within.l0, show ¬ (((4 : Nat) : Int) < 4) from by omega, if_false]
  | succ m ih =>
    intro i k hi hk
    obtain ⟨k, rfl⟩ : ∃ j, k = j + 1 := ⟨k - 1, by omega⟩
    have hix : i < x.length := by omega
    have hiy : i < y.length := by omega
    simp only [spec_l1Within.l0, l1Less_eq, Option.bind_some, if_pos (show ((i : Int) < 4) from by omega), if_pos (cast_lt hix), if_pos (cast_lt hiy), if_pos (cast_nn i), rdTag_eq x i hix, rdTag_eq y i hiy]
    rw [wn (by omega) hix, ih (i + 1) k (by omega) (by omega), under_step x y i hix hiy]
    split
    · rename_i h
      rw [h, Bool.not_true, Bool.false_and]
    · rename_i h
      rw [Bool.not_eq_true] at h
      rw [h, Bool.not_false, Bool.true_and]

theorem under_l0 (x y : List S32) (hx : x.length = 4) (hy : y.length = 4) : ∀ (m i k : Nat), i + m = 4 → m + 3 < k → impl_Past_under.l0 k x (x.length : Int) (i : Int) y = some (under x y i) := by
  intro m
  induction m with
  | zero =>
    intro i k hi hk
    obtain ⟨k, rfl⟩ : ∃ j, k = j + 1 := ⟨k - 1, by omega⟩
    have e : i = x.length := by omega
    subst e
    have h : under x y x.length = true := by
      unfold under
      rw [List.drop_length, List.zip_nil_left, List.all_nil]
    rw [h]
    simp only [impl_Past_under.l0, Int.lt_irrefl, if_false]
  | succ m ih =>
    intro i k hi hk
    obtain ⟨k, rfl⟩ : ∃ j, k = j + 1 := ⟨k - 1, by omega⟩
    have hix : i < x.length := by omega
    have hiy : i < y.length := by omega
    simp only [impl_Past_under.l0, implLess_ge k _ _ _ _ (show 3 ≤ k from by omega), Option.bind_some, if_pos (cast_lt hix), if_pos (cast_lt hiy), if_pos (cast_nn i), rdTag_eq x i hix, rdTag_eq y i hiy]
    rw [wn (by omega) hix, ih (i + 1) k (by omega) (by omega), under_step x y i hix hiy]
    split
    · rename_i h
      rw [h, Bool.not_true, Bool.false_and]
    · rename_i h
      rw [Bool.not_eq_true] at h
      rw [h, Bool.not_false, Bool.true_and]

def pastWithin (x y : List S32) : Bool := pastOk x && pastOk y && under x y 0

theorem specPastWithin_eq (x y : List S32) (hx : x.length ≤ 8796093021952) (hy : y.length ≤ 8796093021952) (k : Nat) (hkx : x.length < k) (hky : y.length < k) (hk : 8 ≤ k) : spec_PastWithin.f k x y = some (pastWithin x y) := by
  unfold spec_PastWithin.f pastWithin spec_l1Within.f
  rw [l1PastOk_eq x hx k hkx, l1PastOk_eq y hy k hky]
  simp only [Option.bind_some]
  split
  · rename_i h1
    split
    · rename_i h2
      have h3 := within_l0 x y (pastOk_len x h1) (pastOk_len y h2) 4 0 k (by omega) (by omega)
      rw [show (0 : Int) = ((0 : Nat) : Int) from rfl, h3, h1, h2]
      rfl
    · rename_i h2
      rw [Bool.not_eq_true] at h2
      rw [h2, Bool.and_false, Bool.false_and]
  · rename_i h1
    rw [Bool.not_eq_true] at h1
    rw [h1, Bool.false_and, Bool.false_and]

theorem implPastWithin_eq (x y : List S32) (hx : x.length ≤ 8796093021952) (hy : y.length ≤ 8796093021952) (k : Nat) (hkx : x.length < k) (hky : y.length < k) (hk : 8 ≤ k) : impl_PastWithin.f k x y = some (pastWithin x y) := by
  unfold impl_PastWithin.f pastWithin impl_Past_under.f
  rw [implPastOk_eq x hx k hkx, implPastOk_eq y hy k hky]
  simp only [Option.bind_some]
  split
  · rename_i h1
    split
    · rename_i h2
      have h3 := under_l0 x y (pastOk_len x h1) (pastOk_len y h2) 4 0 k (by omega) (by omega)
      rw [show (0 : Int) = ((0 : Nat) : Int) from rfl, h3, h1, h2]
      rfl
    · rename_i h2
      rw [Bool.not_eq_true] at h2
      rw [h2, Bool.and_false, Bool.false_and]
  · rename_i h1
    rw [Bool.not_eq_true] at h1
    rw [h1, Bool.false_and, Bool.false_and]

theorem xor_nn (a b : Int) (ha : 0 ≤ a) (ha2 : a < 4611686018427387904) (hb : 0 ≤ b) (hb2 : b < 4611686018427387904) : 0 ≤ Go.bits .xor .i64 a b := by
  obtain ⟨m, rfl⟩ := Int.eq_ofNat_of_zero_le ha
  obtain ⟨n, rfl⟩ := Int.eq_ofNat_of_zero_le hb
  have hm : m < 2 ^ 62 := by omega
  have hn : n < 2 ^ 62 := by omega
  have hx := Nat.xor_lt_two_pow hm hn
  have e : (BitVec.ofInt 64 (m : Int) ^^^ BitVec.ofInt 64 (n : Int)).toNat = m ^^^ n := by
    rw [BitVec.toNat_xor, BitVec.toNat_ofInt, BitVec.toNat_ofInt]
    congr 1 <;> omega
  show 0 ≤ IntKind.wrap .i64 (((BitVec.ofInt 64 (m : Int) ^^^ BitVec.ofInt 64 (n : Int)).toNat : Nat) : Int)
  rw [e, i64_w, w64 (by omega) (by omega)]
  omega

theorem mix_eq (r1 r2 p q : Int) (h1 : 0 ≤ r1 ∧ r1 ≤ 255) (h2 : 0 ≤ r2 ∧ r2 ≤ 255) (hp : 0 ≤ p ∧ p ≤ 1000000) (hq : 0 ≤ q ∧ q ≤ 1000000) : wrap64 ((wrap64 ((wrap64 ((wrap64 ((wrap64 r1) * 131)) + (wrap64 ((wrap64 r2) * 1117)))) + (wrap64 (p * 29)))) + (wrap64 ((wrap64 q) * 53))) = r1 * 131 + r2 * 1117 + p * 29 + q * 53 := by
  rw [w64 (i := r1) (by omega) (by omega), w64 (i := r2) (by omega) (by omega), w64 (i := q) (by omega) (by omega), w64 (i := r1 * 131) (by omega) (by omega), w64 (i := r2 * 1117) (by omega) (by omega), w64 (i := p * 29) (by omega) (by omega), w64 (i := q * 53) (by omega) (by omega)]
  rw [w64 (i := r1 * 131 + r2 * 1117) (by omega) (by omega), w64 (i := r1 * 131 + r2 * 1117 + p * 29) (by omega) (by omega), w64 (by omega) (by omega)]

/-- What a law's bytes are: each within 0 to 255, and no more than 2000 of them. -/
def Drawn (l : List Int) : Prop := l.length ≤ 2000 ∧ ∀ i, 0 ≤ rd l i ∧ rd l i ≤ 255

theorem drawn_of (l : List Int) (h : ∀ x ∈ l, (Lit.int .u8 x).wf = true) (i : Int) : 0 ≤ rd l i ∧ rd l i ≤ 255 := by
  unfold rd
  by_cases hi : i.toNat < l.length
  · rw [List.getD_eq_getElem?_getD, List.getElem?_eq_getElem hi]
    have h2 := h l[i.toNat] (List.getElem_mem hi)
    simp [Lit.wf] at h2
    have e0 : IntKind.u8.min = 0 := by decide
    have e1 : IntKind.u8.max = 255 := by decide
    rw [e0, e1] at h2
    simp only [Option.getD_some]
    omega
  · rw [List.getD_eq_getElem?_getD, List.getElem?_eq_none (by omega)]
    simp

theorem pick_step (l : List Int) (hl : Drawn l) (p n : Int) (hp : 0 ≤ p ∧ p ≤ 1000000) (hn : 1 ≤ n) (h0 : ¬ (l.length : Int) = 0) : ∃ v, (if p < (l.length : Int) then (if 0 ≤ p then (if n = 0 then (none) else (some (Int.tmod (wrap64 (rd l p)) n, p + 1))) else (none)) else (if (l.length : Int) = 0 then (none) else (if 0 ≤ (Int.tmod p (l.length : Int)) then (if (Int.tmod p (l.length : Int)) < (l.length : Int) then (if 0 ≤ (Int.tmod (wrap64 ((wrap64 (p * 7)) + 3)) (l.length : Int)) then (if (Int.tmod (wrap64 ((wrap64 (p * 7)) + 3)) (l.length : Int)) < (l.length : Int) then (if n = 0 then (none) else (some (Int.tmod (Go.bits .xor .i64 (wrap64 ((wrap64 ((wrap64 ((wrap64 ((wrap64 (rd l (Int.tmod p (l.length : Int)))) * 131)) + (wrap64 ((wrap64 (rd l (Int.tmod (wrap64 ((wrap64 (p * 7)) + 3)) (l.length : Int)))) * 1117)))) + (wrap64 (p * 29)))) + (wrap64 ((wrap64 (Int.tdiv p (l.length : Int))) * 53)))) (wrap64 (Int.tdiv (wrap64 ((wrap64 ((wrap64 ((wrap64 ((wrap64 (rd l (Int.tmod p (l.length : Int)))) * 131)) + (wrap64 ((wrap64 (rd l (Int.tmod (wrap64 ((wrap64 (p * 7)) + 3)) (l.length : Int)))) * 1117)))) + (wrap64 (p * 29)))) + (wrap64 ((wrap64 (Int.tdiv p (l.length : Int))) * 53)))) 64))) n, p + 1))) else (none)) else (none)) else (none)) else (none))) : Option (Int × Int)) = some (v, p + 1) ∧ 0 ≤ v ∧ v < n := by
  by_cases h1 : p < (l.length : Int)
  · have hb := hl.2 p
    rw [if_pos h1, if_pos hp.1, if_neg (show ¬ n = 0 from by omega), w64 (by omega) (by omega)]
    exact ⟨_, rfl, Int.tmod_nonneg n hb.1, Int.tmod_lt_of_pos _ (by omega)⟩
  · have e7 : wrap64 (p * 7) = p * 7 := w64 (by omega) (by omega)
    have e8 : wrap64 (p * 7 + 3) = p * 7 + 3 := w64 (by omega) (by omega)
    have hlp : (0 : Int) < (l.length : Int) := by omega
    rw [e7, e8, if_neg h1, if_neg h0, if_pos (Int.tmod_nonneg _ hp.1), if_pos (Int.tmod_lt_of_pos _ hlp), if_pos (Int.tmod_nonneg _ (by omega)), if_pos (Int.tmod_lt_of_pos _ hlp), if_neg (show ¬ n = 0 from by omega)]
    have b1 := hl.2 (Int.tmod p (l.length : Int))
    have b2 := hl.2 (Int.tmod (p * 7 + 3) (l.length : Int))
    have hq : 0 ≤ Int.tdiv p (l.length : Int) ∧ Int.tdiv p (l.length : Int) ≤ 1000000 := by
      refine ⟨Int.tdiv_nonneg hp.1 (by omega), ?_⟩
      rw [Int.tdiv_eq_ediv_of_nonneg hp.1]
      have := Int.ediv_le_self (l.length : Int) hp.1
      omega
    generalize rd l (Int.tmod p (l.length : Int)) = r1 at b1
    generalize rd l (Int.tmod (p * 7 + 3) (l.length : Int)) = r2 at b2
    generalize Int.tdiv p (l.length : Int) = q at hq
    rw [mix_eq r1 r2 p q b1 b2 hp hq]
    have hE : 0 ≤ r1 * 131 + r2 * 1117 + p * 29 + q * 53 ∧ r1 * 131 + r2 * 1117 + p * 29 + q * 53 ≤ 1000000000 := by omega
    generalize r1 * 131 + r2 * 1117 + p * 29 + q * 53 = E at hE
    have hd : 0 ≤ Int.tdiv E 64 ∧ Int.tdiv E 64 ≤ E := by
      rw [Int.tdiv_eq_ediv_of_nonneg hE.1]
      omega
    rw [w64 (i := Int.tdiv E 64) (by omega) (by omega)]
    exact ⟨_, rfl, Int.tmod_nonneg n (xor_nn E (Int.tdiv E 64) hE.1 (by omega) hd.1 (by omega)), Int.tmod_lt_of_pos _ (by omega)⟩

theorem pick_eq (l : List Int) (hl : Drawn l) (p n : Int) (hp : 0 ≤ p ∧ p ≤ 1000000) (hn : 1 ≤ n) (k : Nat) (hk : 1 ≤ k) : ∃ v, spec_l20Rd_pick.f k l p n = some (v, p + 1) ∧ 0 ≤ v ∧ v < n := by
  obtain ⟨k, rfl⟩ : ∃ j, k = j + 1 := ⟨k - 1, by omega⟩
  have hw : wrap64 (p + 1 - 1) = p := by
    rw [w64 (by omega) (by omega)]
    omega
  unfold spec_l20Rd_pick.f
  rw [if_neg (show ¬ n < 1 from by omega), w64 (i := p + 1) (by omega) (by omega)]
  simp only [spec_l20Rd_pick.j0, hw]
  by_cases h0 : (l.length : Int) = 0
  · rw [h0, if_pos (by rfl)]
    exact ⟨0, rfl, by omega, by omega⟩
  · rw [if_neg (by rw [beq_iff_eq]; exact h0)]
    exact pick_step l hl p n hp hn h0

theorem one4_eq (l : List Int) (hl : Drawn l) (p : Int) (a b c d : Int) (hp : 0 ≤ p ∧ p ≤ 1000000) (k : Nat) (hk : 1 ≤ k) : ∃ v, spec_l20Rd_one.f k l p [a, b, c, d] = some (v, p + 1) := by
  unfold spec_l20Rd_one.f
  obtain ⟨v, hv, h0, h1⟩ := pick_eq l hl p (([a, b, c, d] : List Int).length : Int) hp (by simp) k hk
  rw [hv, Option.bind_some, if_pos h0, if_pos h1]
  exact ⟨_, rfl⟩

theorem tag_eq (l : List Int) (hl : Drawn l) (p : Int) (hp : 0 ≤ p ∧ p ≤ 900000) (k : Nat) (hk : 1 ≤ k) : ∃ a b q, spec_l20Tag.f k l p = some (a, b, q) ∧ p ≤ q ∧ q ≤ p + 3 := by
  unfold spec_l20Tag.f
  obtain ⟨v, hv, h0, h1⟩ := pick_eq l hl p 3 (by omega) (by omega) k hk
  rw [hv, Option.bind_some]
  by_cases h : v = 0
  · rw [if_pos h]
    exact ⟨_, _, _, rfl, by omega, by omega⟩
  · rw [if_neg h]
    obtain ⟨v2, hv2, h2⟩ := pick_eq l hl (p + 1) 9 (by omega) (by omega) k hk
    obtain ⟨v3, hv3, h3⟩ := pick_eq l hl (p + 1 + 1) 3 (by omega) (by omega) k hk
    simp only [hv2, hv3, Option.bind_some]
    exact ⟨_, _, _, rfl, by omega, by omega⟩

theorem anyTag_eq (l : List Int) (hl : Drawn l) (p : Int) (hp : 0 ≤ p ∧ p ≤ 800000) (k : Nat) (hk : 1 ≤ k) : ∃ a b q, spec_l20AnyTag.f k l p = some (a, b, q) ∧ p ≤ q ∧ q ≤ p + 4 := by
  unfold spec_l20AnyTag.f
  obtain ⟨v, hv, h0, h1⟩ := pick_eq l hl p 8 (by omega) (by omega) k hk
  rw [hv, Option.bind_some]
  by_cases h : v = 0
  · rw [if_pos h]
    obtain ⟨v2, hv2⟩ := one4_eq l hl (p + 1) 0 (-1) 1000 999 (by omega) k hk
    obtain ⟨v3, hv3⟩ := one4_eq l hl (p + 1 + 1) 0 1 3 (-1) (by omega) k hk
    simp only [hv2, hv3, Option.bind_some]
    exact ⟨_, _, _, rfl, by omega, by omega⟩
  · rw [if_neg h]
    obtain ⟨a, b, q, h4, h5, h6⟩ := tag_eq l hl (p + 1) (by omega) k hk
    simp only [h4, Option.bind_some]
    exact ⟨_, _, _, rfl, by omega, by omega⟩

theorem open_eq (l : List Int) (h : ∀ x ∈ l, (Lit.int .u8 x).wf = true) : ∃ m, spec_l20Open.f l = some (m, 0) ∧ Drawn m := by
  unfold spec_l20Open.f
  by_cases h1 : (l.length : Int) > 2000
  · rw [if_pos h1, if_pos (by omega)]
    exact ⟨_, rfl, by rw [List.length_take]; omega, drawn_of _ (fun x hx => h x (List.mem_of_mem_take hx))⟩
  · rw [if_neg h1]
    exact ⟨_, rfl, by omega, drawn_of _ h⟩

theorem tagLess_iff (a b c d : Int) : tagLess a b c d = true ↔ a < c ∨ a = c ∧ b < d := by
  unfold tagLess
  simp only [Bool.or_eq_true, Bool.and_eq_true, decide_eq_true_eq]

theorem tagLess_not (a b c d : Int) : tagLess a b c d = false ↔ ¬ (a < c ∨ a = c ∧ b < d) := by
  rw [← tagLess_iff, Bool.not_eq_true]

def mxS (s t : S32) : S32 := ⟨(tagMax s.f0 s.f1 t.f0 t.f1).1, (tagMax s.f0 s.f1 t.f0 t.f1).2⟩

theorem l1Max_eq (a b c d : Int) : spec_l1Max.f a b c d = some (tagMax a b c d) := by
  unfold spec_l1Max.f tagMax
  rw [l1Less_eq]
  simp only [Option.bind_some]
  split <;> rfl

theorem l1Join_l0 (x y : List S32) (hx : x.length = 4) (hy : y.length = 4) : ∀ (m i k : Nat) (z : List S32), i + m = 4 → m < k → z.length = i → spec_l1Join.l0 k (i : Int) x y z = some (z ++ List.zipWith mxS (x.drop i) (y.drop i)) := by
  intro m
  induction m with
  | zero =>
    intro i k z hi hk hz
    obtain ⟨k, rfl⟩ : ∃ j, k = j + 1 := ⟨k - 1, by omega⟩
    have e : i = 4 := by omega
    subst e
    simp only [spec_l1Join.l0, show ¬ (((4 : Nat) : Int) < 4) from by omega, if_false]
    rw [List.drop_eq_nil_of_le (by omega), List.zipWith_nil_left, List.append_nil]
  | succ m ih =>
    intro i k z hi hk hz
    obtain ⟨k, rfl⟩ : ∃ j, k = j + 1 := ⟨k - 1, by omega⟩
    have hix : i < x.length := by omega
    have hiy : i < y.length := by omega
    simp only [spec_l1Join.l0, l1Max_eq, Option.bind_some, if_pos (show ((i : Int) < 4) from by omega), if_pos (cast_lt hix), if_pos (cast_lt hiy), if_pos (cast_nn i), rdTag_eq x i hix, rdTag_eq y i hiy, if_pos (show z.length < 8796093022208 from by omega)]
    rw [wn (by omega) hix, ih (i + 1) k _ (by omega) (by omega) (by rw [List.length_append, hz]; rfl), List.drop_eq_getElem_cons hix, List.drop_eq_getElem_cons hiy, List.zipWith_cons_cons, List.append_assoc]
    rfl

theorem l1Join_eq (x y : List S32) (hx : x.length = 4) (hy : y.length = 4) (k : Nat) (hk : 5 ≤ k) : spec_l1Join.f k x y = some (List.zipWith mxS x y) := by
  have h := l1Join_l0 x y hx hy 4 0 k [] (by omega) (by omega) rfl
  rw [List.drop_zero, List.drop_zero, List.nil_append] at h
  exact h

theorem copied_eq (x : List S32) (hx : x.length ≤ 8796093021952) : impl_Past_copied.f x = some x := by
  unfold impl_Past_copied.f slices_Clone_impl_Tag_impl_Tag.f slices_Clip_impl_Tag_impl_Tag.f
  simp only [Option.bind_some, List.nil_append, List.length_nil]
  rw [if_pos (by omega)]
  rfl

theorem implMax_ge (k : Nat) (a b c d : Int) (hk : 3 ≤ k) : impl_TagMax.f k a b c d = some (tagMax a b c d) := by
  unfold impl_TagMax.f tagMax
  rw [implLess_ge k a b c d hk]
  simp only [Option.bind_some]
  split <;> rfl

theorem drop_set {α : Type} (x : List α) (i : Nat) (v : α) : (x.set i v).drop (i + 1) = x.drop (i + 1) := by
  rw [List.drop_set_of_lt (by omega)]

theorem join_l0 (y : List S32) (hy : y.length ≤ 8796093021952) : ∀ (m i k : Nat) (z : List S32), i + m = y.length → m + 3 < k → z.length = y.length → impl_Past_join.l0 k y (y.length : Int) (i : Int) z = some (z.take i ++ List.zipWith mxS (z.drop i) (y.drop i)) := by
  intro m
  induction m with
  | zero =>
    intro i k z hi hk hz
    obtain ⟨k, rfl⟩ : ∃ j, k = j + 1 := ⟨k - 1, by omega⟩
    have e : i = y.length := by omega
    subst e
    simp only [impl_Past_join.l0, Int.lt_irrefl, if_false]
    rw [List.drop_length, List.zipWith_nil_right, List.append_nil, ← hz, List.take_length]
  | succ m ih =>
    intro i k z hi hk hz
    obtain ⟨k, rfl⟩ : ∃ j, k = j + 1 := ⟨k - 1, by omega⟩
    have hiy : i < y.length := by omega
    have hiz : i < z.length := by omega
    simp only [impl_Past_join.l0, implMax_ge k _ _ _ _ (show 3 ≤ k from by omega), Option.bind_some, if_pos (cast_lt hiz), if_pos (cast_lt hiy), if_pos (cast_nn i), rdTag_eq z i hiz, rdTag_eq y i hiy, Int.toNat_natCast]
    rw [wn (by omega) hiy, ih (i + 1) k _ (by omega) (by omega) (by rw [List.length_set]; exact hz), set_take z i _ hiz, drop_set, List.drop_eq_getElem_cons hiz, List.drop_eq_getElem_cons hiy, List.zipWith_cons_cons, List.append_assoc]
    rfl

theorem implPastJoin_eq (x y : List S32) (hx : x.length ≤ 8796093021952) (hy : y.length ≤ 8796093021952) (k : Nat) (hkx : x.length < k) (hky : y.length < k) (hk : 8 ≤ k) : impl_PastJoin.f k x y = some (if (pastOk x && pastOk y) = true then List.zipWith mxS x y else []) := by
  unfold impl_PastJoin.f impl_Past_join.f
  rw [implPastOk_eq x hx k hkx, implPastOk_eq y hy k hky, copied_eq x hx]
  simp only [Option.bind_some]
  by_cases h1 : pastOk x = true
  · by_cases h2 : pastOk y = true
    · have e1 := pastOk_len x h1
      have e2 := pastOk_len y h2
      have h := join_l0 y hy y.length 0 k x (by omega) (by omega) (by omega)
      rw [List.take_zero, List.drop_zero, List.drop_zero, List.nil_append] at h
      rw [show (0 : Int) = ((0 : Nat) : Int) from rfl, h]
      simp only [h1, h2, Bool.and_self, if_true, Option.bind_some]
    · rw [Bool.not_eq_true] at h2
      simp only [h1, h2, Bool.and_false, Bool.false_eq_true, if_true, if_false]
  · rw [Bool.not_eq_true] at h1
    simp only [h1, Bool.false_and, Bool.false_eq_true, if_false]

def sameP (x y : List S32) (i : Nat) : Bool := ((x.drop i).zip (y.drop i)).all (fun p => p.1.f0 == p.2.f0 && (p.1.f1 == p.2.f1))

theorem cfPast_l0 (x y : List S32) (hx : x.length ≤ 8796093021952) (hxy : x.length = y.length) : ∀ (m i k : Nat), i + m = x.length → m < k → laws_cfPast.l0 k (i : Int) x y = some (sameP x y i) := by
  intro m
  induction m with
  | zero =>
    intro i k hi hk
    obtain ⟨k, rfl⟩ : ∃ j, k = j + 1 := ⟨k - 1, by omega⟩
    have e : i = x.length := by omega
    subst e
    unfold sameP
    rw [List.drop_length, List.zip_nil_left, List.all_nil]
    simp only [laws_cfPast.l0, Int.lt_irrefl, if_false]
  | succ m ih =>
    intro i k hi hk
    obtain ⟨k, rfl⟩ : ∃ j, k = j + 1 := ⟨k - 1, by omega⟩
    have hix : i < x.length := by omega
    have hiy : i < y.length := by omega
    have hst : sameP x y i = ((x[i].f0 == y[i].f0 && (x[i].f1 == y[i].f1)) && sameP x y (i + 1)) := by
      unfold sameP
      rw [List.drop_eq_getElem_cons hix, List.drop_eq_getElem_cons hiy, List.zip_cons_cons, List.all_cons]
    simp only [laws_cfPast.l0, if_pos (cast_lt hix), if_pos (cast_lt hiy), if_pos (cast_nn i), rdTag_eq x i hix, rdTag_eq y i hiy]
    rw [wn (by omega) hix, ih (i + 1) k (by omega) (by omega), hst, ← Bool.not_and]
    cases (x[i].f0 == y[i].f0 && (x[i].f1 == y[i].f1)) with
    | true => simp only [Bool.not_true, Bool.false_eq_true, if_false, Bool.true_and]
    | false => simp only [Bool.not_false, if_true, Bool.false_and]

theorem cfPast_eq (x y : List S32) (hx : x.length ≤ 8796093021952) (hxy : x.length = y.length) (k : Nat) (hk : x.length < k) : laws_cfPast.f k x y = some (sameP x y 0) := by
  unfold laws_cfPast.f
  rw [if_pos (by omega)]
  exact cfPast_l0 x y hx hxy x.length 0 k (by omega) hk

theorem four (x : List S32) (h : x.length = 4) : ∃ a b c d, x = [a, b, c, d] := by
  match x, h with
  | [a, b, c, d], _ => exact ⟨a, b, c, d, rfl⟩

theorem tagMax_same (a b c d : Int) : ((tagMax a b c d).1 == c && ((tagMax a b c d).2 == d)) = !tagLess c d a b := by
  unfold tagMax
  by_cases h : tagLess a b c d = true
  · have hi := (tagLess_iff a b c d).mp h
    have h2 : tagLess c d a b = false := (tagLess_not c d a b).mpr (by omega)
    rw [if_pos h, h2]
    simp
  · rw [if_neg h]
    rw [Bool.not_eq_true] at h
    have hi := (tagLess_not a b c d).mp h
    by_cases h2 : tagLess c d a b = true
    · have hj := (tagLess_iff c d a b).mp h2
      rw [h2, Bool.not_true, Bool.and_eq_false_iff, beq_eq_false_iff_ne, beq_eq_false_iff_ne]
      omega
    · rw [Bool.not_eq_true] at h2
      have hj := (tagLess_not c d a b).mp h2
      rw [h2, Bool.not_false, Bool.and_eq_true, beq_iff_eq, beq_iff_eq]
      omega

theorem tag_same (a b c d : Int) : (!tagLess c d a b && !tagLess a b c d) = (a == c && (b == d)) := by
  rw [Bool.eq_iff_iff, Bool.and_eq_true, Bool.and_eq_true, Bool.not_eq_true', Bool.not_eq_true', tagLess_not, tagLess_not, beq_iff_eq, beq_iff_eq]
  omega

theorem tagLess0 (a b : Int) (h : tagOk a b = true) : tagLess a b 0 0 = false := by
  rw [tagLess_not]
  unfold tagOk at h
  simp only [Bool.or_eq_true, Bool.and_eq_true, beq_iff_eq, decide_eq_true_eq] at h
  omega

theorem within_join (x y : List S32) (hx : x.length = 4) (hy : y.length = 4) : sameP (List.zipWith mxS x y) y 0 = under x y 0 := by
  obtain ⟨a, b, c, d, rfl⟩ := four x hx
  obtain ⟨e, f, g, h, rfl⟩ := four y hy
  simp only [sameP, under, mxS, List.drop_zero, List.zipWith_cons_cons, List.zipWith_nil_left, List.zip_cons_cons, List.zip_nil_left, List.all_cons, List.all_nil, tagMax_same]

theorem within_both (x y : List S32) (hx : x.length = 4) (hy : y.length = 4) : (under x y 0 && under y x 0) = sameP x y 0 := by
  obtain ⟨a, b, c, d, rfl⟩ := four x hx
  obtain ⟨e, f, g, h, rfl⟩ := four y hy
  simp only [sameP, under, List.drop_zero, List.zip_cons_cons, List.zip_nil_left, List.all_cons, List.all_nil, ← tag_same, Bool.and_true]
  generalize tagLess e.f0 e.f1 a.f0 a.f1 = p1
  generalize tagLess f.f0 f.f1 b.f0 b.f1 = p2
  generalize tagLess g.f0 g.f1 c.f0 c.f1 = p3
  generalize tagLess h.f0 h.f1 d.f0 d.f1 = p4
  generalize tagLess a.f0 a.f1 e.f0 e.f1 = q1
  generalize tagLess b.f0 b.f1 f.f0 f.f1 = q2
  generalize tagLess c.f0 c.f1 g.f0 g.f1 = q3
  generalize tagLess d.f0 d.f1 h.f0 h.f1 = q4
  cases p1 <;> cases p2 <;> cases p3 <;> cases p4 <;> cases q1 <;> cases q2 <;> cases q3 <;> cases q4 <;> rfl

theorem within_none (x : List S32) (hx : pastOk x = true) : pastWithin (List.replicate 4 z32) x = true := by
  unfold pastWithin
  rw [hx, show pastOk (List.replicate 4 z32) = true from by decide]
  have h4 := pastOk_len x hx
  obtain ⟨a, b, c, d, rfl⟩ := four x h4
  unfold pastOk at hx
  simp only [List.all_cons, List.all_nil, Bool.and_true, Bool.and_eq_true] at hx
  obtain ⟨_, h1, h2, h3, h5⟩ := hx
  simp only [under, List.replicate, List.drop_zero, List.zip_cons_cons, List.zip_nil_left, List.all_cons, List.all_nil, z32, tagLess0 _ _ h1, tagLess0 _ _ h2, tagLess0 _ _ h3, tagLess0 _ _ h5, Bool.not_false, Bool.and_self]

theorem drawPast_l0 (l : List Int) (hl : Drawn l) : ∀ (m i k : Nat) (p : Int) (x : List S32), i + m = 4 → m + 1 < k → x.length = 4 → 0 ≤ p → p + 3 * (m : Int) ≤ 1000 → ∃ y q, spec_l20Past.l0 k (i : Int) l p x = some (y, q) ∧ y.length ≤ 4 ∧ p ≤ q ∧ q ≤ p + 3 * m + 6 := by
  intro m
  induction m with
  | zero =>
    intro i k p x hi hk hx h0 h1
    obtain ⟨k, rfl⟩ : ∃ j, k = j + 1 := ⟨k - 1, by omega⟩
    have e : i = 4 := by omega
    subst e
    obtain ⟨v, hv, hv0, hv1⟩ := pick_eq l hl p 10 (by omega) (by omega) k (by omega)
    simp only [spec_l20Past.l0, show ¬ (((4 : Nat) : Int) < 4) from by omega, if_false, hv, Option.bind_some]
    by_cases c0 : v = 0
    · rw [if_pos c0, if_pos (by omega)]
      exact ⟨_, _, rfl, by rw [List.length_drop]; omega, by omega, by omega⟩
    · rw [if_neg c0]
      by_cases c1 : v = 1
      · rw [if_pos c1]
        obtain ⟨u, hu, hu0, hu1⟩ := pick_eq l hl (p + 1) 4 (by omega) (by omega) k (by omega)
        obtain ⟨a, b, q, h4, h5, h6⟩ := anyTag_eq l hl (p + 1 + 1) (by omega) k (by omega)
        simp only [hu, h4, Option.bind_some]
        rw [if_pos hu0, if_pos (by omega)]
        exact ⟨_, _, rfl, by rw [List.length_set]; omega, by omega, by omega⟩
      · rw [if_neg c1]
        exact ⟨_, _, rfl, by omega, by omega, by omega⟩
  | succ m ih =>
    intro i k p x hi hk hx h0 h1
    obtain ⟨k, rfl⟩ : ∃ j, k = j + 1 := ⟨k - 1, by omega⟩
    have hix : i < x.length := by omega
    obtain ⟨a, b, q, h4, h5, h6⟩ := tag_eq l hl p (by omega) k (by omega)
    simp only [spec_l20Past.l0, if_pos (show ((i : Int) < 4) from by omega), h4, Option.bind_some, if_pos (cast_nn i), if_pos (cast_lt hix), Int.toNat_natCast]
    rw [wn (by omega) hix]
    obtain ⟨y, r, h7, h8, h9, h10⟩ := ih (i + 1) k q (x.set i ⟨a, b⟩) (by omega) (by omega) (by rw [List.length_set]; exact hx) (by omega) (by omega)
    exact ⟨y, r, h7, h8, by omega, by omega⟩

theorem drawPast_eq (l : List Int) (hl : Drawn l) (p : Int) (h0 : 0 ≤ p) (h1 : p ≤ 900) (k : Nat) (hk : 6 ≤ k) : ∃ y q, spec_l20Past.f k l p = some (y, q) ∧ y.length ≤ 4 ∧ p ≤ q ∧ q ≤ p + 20 := by
  obtain ⟨y, q, h2, h3, h4, h5⟩ := drawPast_l0 l hl 4 0 k p (List.replicate 4 z32) (by omega) (by omega) (by rw [List.length_replicate]) h0 (by omega)
  refine ⟨y, q, ?_, h3, h4, by omega⟩
  unfold spec_l20Past.f spec_l1None.f
  rw [if_pos (by omega), Option.bind_some]
  exact h2

theorem drawPastWithin_eq (l : List Int) (h : ∀ x ∈ l, (Lit.int .u8 x).wf = true) (k : Nat) (hk : 8 ≤ k) : ∃ x y, spec_DrawPastWithin.f k l = some (x, y) ∧ x.length ≤ 4 ∧ y.length ≤ 4 := by
  unfold spec_DrawPastWithin.f
  obtain ⟨m, hm, hd⟩ := open_eq l h
  obtain ⟨x, q, h1, h2, h3, h4⟩ := drawPast_eq m hd 0 (by omega) (by omega) k (by omega)
  obtain ⟨y, r, h5, h6, h7, h8⟩ := drawPast_eq m hd q (by omega) (by omega) k (by omega)
  obtain ⟨v, hv, hv0, hv1⟩ := pick_eq m hd r 2 (by omega) (by omega) k (by omega)
  simp only [hm, h1, h5, hv, Option.bind_some, l1PastOk_eq x (by omega) k (by omega), l1PastOk_eq y (by omega) k (by omega)]
  by_cases c0 : v = 0
  · rw [if_pos c0]
    by_cases c1 : pastOk x = true
    · rw [if_pos c1]
      by_cases c2 : pastOk y = true
      · rw [if_pos c2, l1Join_eq x y (pastOk_len x c1) (pastOk_len y c2) k (by omega)]
        exact ⟨_, _, rfl, h2, by rw [List.length_zipWith]; omega⟩
      · rw [if_neg c2]
        exact ⟨_, _, rfl, h2, h6⟩
    · rw [if_neg c1]
      exact ⟨_, _, rfl, h2, h6⟩
  · rw [if_neg c0]
    exact ⟨_, _, rfl, h2, h6⟩

theorem FnPastWithin : laws_FnPastWithin.Pure := by
  intro l _ _ h
  refine ⟨21, ?_⟩
  unfold laws_FnPastWithin.f
  split
  · rfl
  · obtain ⟨x, y, hd, hx, hy⟩ := drawPastWithin_eq l h 21 (by omega)
    have w21 := implPastWithin_eq x y (by omega) (by omega) 21 (by omega) (by omega) (by omega)
    have s21 := specPastWithin_eq x y (by omega) (by omega) 21 (by omega) (by omega) (by omega)
    have s20 := specPastWithin_eq x y (by omega) (by omega) 20 (by omega) (by omega) (by omega)
    simp only [hd, w21, s21, Option.bind_some, bne_self_eq_false, Bool.false_eq_true, if_false, implPastOk_eq x (by omega) 21 (by omega), implPastOk_eq y (by omega) 21 (by omega)]
    have no : laws_FnPastWithin.j0 21 (pastWithin x y) true x y = some true := by
      simp only [laws_FnPastWithin.j0, if_true, s20, Option.bind_some, beq_self_eq_true]
    by_cases c1 : pastOk x = true
    · rw [if_pos c1]
      by_cases c2 : pastOk y = true
      · rw [c2]
        have e1 := pastOk_len x c1
        have e2 := pastOk_len y c2
        have hj := implPastJoin_eq x y (by omega) (by omega) 20 (by omega) (by omega) (by omega)
        rw [c1, c2, Bool.and_self, if_pos rfl] at hj
        have hl4 : (List.zipWith mxS x y).length = y.length := by
          rw [List.length_zipWith]
          omega
        have f1 := cfPast_eq (List.zipWith mxS x y) y (by omega) hl4 20 (by omega)
        have f2 := cfPast_eq x y (by omega) (by omega) 20 (by omega)
        have w1 := implPastWithin_eq y x (by omega) (by omega) 20 (by omega) (by omega) (by omega)
        have w2 := implPastWithin_eq (List.replicate 4 z32) x (by rw [List.length_replicate]; omega) (by omega) 20 (by rw [List.length_replicate]; omega) (by omega) (by omega)
        rw [within_none x c1] at w2
        have n0 : impl_PastNone.f = some (List.replicate 4 z32) := by
          unfold impl_PastNone.f
          rw [if_pos (by omega)]
        have p1 : pastWithin x y = under x y 0 := by
          unfold pastWithin
          rw [c1, c2]
          rfl
        have p2 : pastWithin y x = under y x 0 := by
          unfold pastWithin
          rw [c1, c2]
          rfl
        have b := within_both x y e1 e2
        rw [within_join x y e1 e2] at f1
        rw [p1]
        simp only [laws_FnPastWithin.j0, Bool.not_true, Bool.false_eq_true, if_false, hj, f1, f2, w1, w2, n0, p2, Option.bind_some, beq_self_eq_true, if_true]
        rw [← b]
        cases under x y 0 <;> cases under y x 0 <;> rfl
      · rw [Bool.not_eq_true] at c2
        rw [c2]
        exact no
    · rw [if_neg c1]
      exact no

end Go.Proofs.Ytjpacbedcocohaa.PureFnPastWithin
namespace Go.Proofs.Ytjpacbedcocohaa.Pure
theorem FnPastWithin : Go.Proofs.Ytjpacbedcocohaa.PFnPastWithin.laws_FnPastWithin.Pure := Go.Proofs.Ytjpacbedcocohaa.PureFnPastWithin.FnPastWithin
end Go.Proofs.Ytjpacbedcocohaa.Pure
