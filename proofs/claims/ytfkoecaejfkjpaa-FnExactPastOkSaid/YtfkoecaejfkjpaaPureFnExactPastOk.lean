/- The pure law behind FnExactPastOk, over the functions that were printed of the program: for every past the program's PastOk and the reference's PastOk say the same, and the past is left as it was. No condition beyond the form's own: each string and each slice that is handed in takes at most 2^47 - 4096 bytes. -/
import Derived.Test.YtfkoecaejfkjpaaPFnExactPastOkx3
set_option linter.unusedVariables false
set_option linter.unusedSimpArgs false
namespace Go.Proofs.Ytfkoecaejfkjpaa.PureFnExactPastOk
open Go.RowKit Go.Proofs.Ytfkoecaejfkjpaa.PFnExactPastOk Go.Proofs.YtfkoecaejfkjpaaV.PrintWords Go.Proofs.YtfkoecaejfkjpaaV.PrintLast Go.Proofs.YtfkoecaejfkjpaaV.PrintMore

theorem w64 {i : Int} (h0 : -9223372036854775808 ≤ i) (h1 : i ≤ 9223372036854775807) : wrap64 i = i := by
  unfold wrap64
  omega

theorem within_eq (a b c : Int) : impl_within.f a b c = some (decide (b ≤ a) && decide (a ≤ c)) := by
  unfold impl_within.f
  split <;> simp_all <;> omega

theorem in_eq (a b c : Int) : spec_l1In.f a b c = some (decide (b ≤ a) && decide (a ≤ c)) := by
  unfold spec_l1In.f
  split <;> simp_all <;> omega

def tagOk (a b : Int) : Bool := (a == 0 && b == 0) || (decide (1 ≤ a) && decide (a ≤ 999) && decide (0 ≤ b) && decide (b ≤ 2))

theorem tagOk_eq (a b : Int) : impl_TagOk.f a b = some (tagOk a b) := by
  unfold impl_TagOk.f impl_placeOk.f tagOk
  simp only [within_eq, Option.bind_some]
  split
  · rename_i h; rw [h]; rfl
  · rename_i h; rw [Bool.not_eq_true] at h; rw [h, Bool.false_or]
    split <;> simp_all <;> omega

theorem l1TagOk_eq (a b : Int) : spec_l1TagOk.f a b = some (tagOk a b) := by
  unfold spec_l1TagOk.f tagOk
  simp only [in_eq, Option.bind_some]
  split
  · rename_i h; rw [h]; rfl
  · rename_i h; rw [Bool.not_eq_true] at h; rw [h, Bool.false_or]
    split <;> simp_all <;> omega

theorem eqTag_refl (a b : Int) : laws_eqTag.f a b a b = some true := by
  simp [laws_eqTag.f]

theorem wn {i n : Nat} (hn : n ≤ 4611686018427387904) (hi : i < n) : wrap64 ((i : Int) + 1) = ((i + 1 : Nat) : Int) := by
  rw [w64 (by omega) (by omega)]
  omega

theorem set_take {α : Type} (x : List α) (i : Nat) (v : α) (h : i < x.length) : (x.set i v).take (i + 1) = x.take i ++ [v] := by
  rw [List.take_succ_eq_append_getElem (by rw [List.length_set]; exact h), List.take_set_of_le (Nat.le_refl _), List.getElem_set_self]

theorem cast_lt {i n : Nat} (h : i < n) : ((i : Int) < (n : Int)) := by omega

theorem cast_nn (i : Nat) : (0 : Int) ≤ (i : Int) := by omega

theorem rdTag_eq (l : List S26) (i : Nat) (h : i < l.length) : rd_T26 l (i : Int) = l[i] := by
  unfold rd_T26
  rw [Int.toNat_natCast, List.getD_eq_getElem?_getD, List.getElem?_eq_getElem h]
  rfl

theorem rdTagL_eq (l : List S24) (i : Nat) (h : i < l.length) : rd_T24 l (i : Int) = l[i] := by
  unfold rd_T24
  rw [Int.toNat_natCast, List.getD_eq_getElem?_getD, List.getElem?_eq_getElem h]
  rfl

theorem szPast_cases (l : List S24) (hl : l.length ≤ 8796093021952) (a : Int) (h0 : 0 ≤ a) (h1 : a ≤ 1048576) : ∃ t, laws_szPast.f l a = some t ∧ (t < 0 ∨ 0 ≤ t ∧ t ≤ a ∧ l.length ≤ 1048576) := by
  unfold laws_szPast.f laws_szTagS.f
  rw [w64 (by omega) (by omega)]
  by_cases h : a - (l.length : Int) < 0
  · refine ⟨-1, ?_, Or.inl (by omega)⟩
    simp [h]
  · refine ⟨a - l.length, ?_, Or.inr (by omega)⟩
    simp [h]

def convTag (x : S24) : S26 := ⟨x.f0, x.f1⟩

theorem toTagS_l0 (l : List S24) (hl : l.length ≤ 8796093021952) : ∀ (m i k : Nat) (x : List S26), i + m = l.length → m < k → x.length = l.length → laws_toTagS.l0 k l x (i : Int) = some (x.take i ++ (l.drop i).map convTag) := by
  intro m
  induction m with
  | zero =>
    intro i k x hi hk hx
    obtain ⟨k, rfl⟩ : ∃ j, k = j + 1 := ⟨k - 1, by omega⟩
    have e : i = l.length := by omega
    subst e
    simp only [laws_toTagS.l0, Int.lt_irrefl, if_false]
    rw [List.drop_length, List.map_nil, List.append_nil, ← hx, List.take_length]
  | succ m ih =>
    intro i k x hi hk hx
    obtain ⟨k, rfl⟩ : ∃ j, k = j + 1 := ⟨k - 1, by omega⟩
    have hil : i < l.length := by omega
    have hix : i < x.length := by omega
    simp only [laws_toTagS.l0, laws_toTag.f, Option.bind_some, if_pos (cast_lt hil), if_pos (cast_lt hix), if_pos (cast_nn i), rdTagL_eq l i hil, Int.toNat_natCast]
    rw [wn (by omega) hil, ih (i + 1) k _ (by omega) (by omega) (by rw [List.length_set]; exact hx), set_take x i _ hix, List.drop_eq_getElem_cons hil, List.map_cons, List.append_assoc]
    rfl

theorem toTagS_eq (l : List S24) (hl : l.length ≤ 8796093021952) (k : Nat) (hk : l.length < k) : laws_toTagS.f k l = some (l.map convTag) := by
  unfold laws_toTagS.f
  rw [if_pos (cast_nn _), Int.toNat_natCast, if_pos (by omega)]
  have h := toTagS_l0 l hl l.length 0 k (List.replicate l.length z26) (by omega) hk (by rw [List.length_replicate])
  rw [List.take_zero, List.nil_append, List.drop_zero] at h
  exact h

theorem toPast_eq (l : List S24) (hl : l.length ≤ 8796093021952) (k : Nat) (hk : l.length < k) : laws_toPast.f k l = some (l.map convTag) := by
  unfold laws_toPast.f
  rw [toTagS_eq l hl k hk]
  rfl

theorem eqTagS_l0 (l : List S26) (hl : l.length ≤ 8796093021952) : ∀ (m i k : Nat), i + m = l.length → m < k → laws_eqTagS.l0 k l l (i : Int) = some true := by
  intro m
  induction m with
  | zero =>
    intro i k hi hk
    obtain ⟨k, rfl⟩ : ∃ j, k = j + 1 := ⟨k - 1, by omega⟩
    have e : i = l.length := by omega
    subst e
    simp only [laws_eqTagS.l0, Int.lt_irrefl, if_false]
  | succ m ih =>
    intro i k hi hk
    obtain ⟨k, rfl⟩ : ∃ j, k = j + 1 := ⟨k - 1, by omega⟩
    have hil : i < l.length := by omega
    simp only [laws_eqTagS.l0, eqTag_refl, Option.bind_some, if_pos (cast_lt hil), if_pos (cast_nn i), if_true]
    rw [wn (by omega) hil, ih (i + 1) k (by omega) (by omega)]

theorem eqPast_refl (l : List S26) (hl : l.length ≤ 8796093021952) (k : Nat) (hk : l.length < k) : laws_eqPast.f k l l = some true := by
  unfold laws_eqPast.f laws_eqTagS.f
  have h := eqTagS_l0 l hl l.length 0 k (by omega) hk
  simp only [if_true]
  rw [show (0 : Int) = ((0 : Nat) : Int) from rfl, h]
  rfl

def pastOk (l : List S26) : Bool := ((l.length : Int) == 4) && l.all (fun t => tagOk t.f0 t.f1)

theorem l1PastOk_l0 (l : List S26) (hl : l.length ≤ 8796093021952) : ∀ (m i k : Nat), i + m = l.length → m < k → spec_l1PastOk.l0 k (i : Int) l = some ((l.drop i).all (fun t => tagOk t.f0 t.f1) && ((l.length : Int) == 4)) := by
  intro m
  induction m with
  | zero =>
    intro i k hi hk
    obtain ⟨k, rfl⟩ : ∃ j, k = j + 1 := ⟨k - 1, by omega⟩
    have e : i = l.length := by omega
    subst e
    simp only [spec_l1PastOk.l0, Int.lt_irrefl, if_false, List.drop_length, List.all_nil, Bool.true_and]
  | succ m ih =>
    intro i k hi hk
    obtain ⟨k, rfl⟩ : ∃ j, k = j + 1 := ⟨k - 1, by omega⟩
    have hil : i < l.length := by omega
    simp only [spec_l1PastOk.l0, l1TagOk_eq, Option.bind_some, if_pos (cast_lt hil), if_pos (cast_nn i), rdTag_eq l i hil]
    rw [wn (by omega) hil, ih (i + 1) k (by omega) (by omega), List.drop_eq_getElem_cons hil, List.all_cons]
    split
    · rename_i h
      rw [h, Bool.true_and]
    · rename_i h
      rw [Bool.not_eq_true] at h
      rw [h, Bool.false_and, Bool.false_and]

theorem l1PastOk_eq (l : List S26) (hl : l.length ≤ 8796093021952) (k : Nat) (hk : l.length < k) : spec_l1PastOk.f k l = some (pastOk l) := by
  have h := l1PastOk_l0 l hl l.length 0 k (by omega) hk
  rw [List.drop_zero, Bool.and_comm] at h
  exact h

theorem specPastOk_eq (l : List S26) (hl : l.length ≤ 8796093021952) (k : Nat) (hk : l.length < k) : spec_PastOk.f k l = some (pastOk l) := by
  unfold spec_PastOk.f
  rw [l1PastOk_eq l hl k hk]
  rfl

theorem notTag_l0 (l : List S26) (hl : l.length ≤ 8796093021952) : ∀ (m i k : Nat), i + m = l.length → m < k → ∃ r, slices_IndexFunc_impl_Tag_impl_Tag_PastOk_lit1.l0 k l (l.length : Int) (i : Int) = some r ∧ decide (r ≥ 0) = !(l.drop i).all (fun t => tagOk t.f0 t.f1) := by
  intro m
  induction m with
  | zero =>
    intro i k hi hk
    obtain ⟨k, rfl⟩ : ∃ j, k = j + 1 := ⟨k - 1, by omega⟩
    have e : i = l.length := by omega
    subst e
    refine ⟨-1, ?_, ?_⟩
    · simp only [slices_IndexFunc_impl_Tag_impl_Tag_PastOk_lit1.l0, Int.lt_irrefl, if_false]
    · rw [List.drop_length]
      rfl
  | succ m ih =>
    intro i k hi hk
    obtain ⟨k, rfl⟩ : ∃ j, k = j + 1 := ⟨k - 1, by omega⟩
    have hil : i < l.length := by omega
    simp only [slices_IndexFunc_impl_Tag_impl_Tag_PastOk_lit1.l0, impl_PastOk_lit1.f, tagOk_eq, Option.bind_some, if_pos (cast_lt hil), if_pos (cast_nn i), rdTag_eq l i hil]
    rw [wn (by omega) hil, List.drop_eq_getElem_cons hil, List.all_cons]
    by_cases h : tagOk l[i].f0 l[i].f1 = true
    · rw [h, Bool.true_and]
      exact ih (i + 1) k (by omega) (by omega)
    · rw [Bool.not_eq_true] at h
      rw [h, Bool.false_and]
      exact ⟨(i : Int), rfl, decide_eq_true (cast_nn i)⟩

theorem implPastOk_eq (l : List S26) (hl : l.length ≤ 8796093021952) (k : Nat) (hk : l.length < k) : impl_PastOk.f k l = some (pastOk l) := by
  unfold impl_PastOk.f slices_ContainsFunc_impl_Tag_impl_Tag_PastOk_lit1.f slices_IndexFunc_impl_Tag_impl_Tag_PastOk_lit1.f pastOk
  obtain ⟨r, h1, h2⟩ := notTag_l0 l hl l.length 0 k (by omega) hk
  rw [List.drop_zero] at h2
  rw [show ((0 : Nat) : Int) = 0 from rfl] at h1
  rw [h1]
  simp only [Option.bind_some, h2, Bool.not_not]
  by_cases h : (l.length : Int) = 4
  · rw [if_pos h, h]
    rfl
  · rw [if_neg h, beq_eq_false_iff_ne.mpr h, Bool.false_and]

theorem FnExactPastOk : laws_FnExactPastOk.Pure := by
  intro l hl
  have hl' : l.length ≤ 8796093021952 := by have := hl.1; omega
  refine ⟨l.length + 1, ?_⟩
  have hm : (l.map convTag).length = l.length := List.length_map ..
  unfold laws_FnExactPastOk.f
  obtain ⟨t, ht, h⟩ := szPast_cases l hl' 1048576 (by omega) (by omega)
  simp only [ht, Option.bind_some]
  split
  · rfl
  · simp only [toPast_eq l hl' _ (Nat.lt_succ_self _), Option.bind_some, specPastOk_eq (l.map convTag) (by omega) (l.length + 1) (by omega), implPastOk_eq (l.map convTag) (by omega) (l.length + 1) (by omega), bne_self_eq_false, Bool.false_eq_true, if_false, eqPast_refl (l.map convTag) (by omega) (l.length + 1) (by omega), if_true]

end Go.Proofs.Ytfkoecaejfkjpaa.PureFnExactPastOk
namespace Go.Proofs.Ytfkoecaejfkjpaa.Pure
theorem FnExactPastOk : Go.Proofs.Ytfkoecaejfkjpaa.PFnExactPastOk.laws_FnExactPastOk.Pure := Go.Proofs.Ytfkoecaejfkjpaa.PureFnExactPastOk.FnExactPastOk
end Go.Proofs.Ytfkoecaejfkjpaa.Pure
