/- The pure law behind FnExactRingOk, over the functions that were printed of the program: for every ring the program's RingOk and the reference's RingOk say the same, and the ring is left as it was. No condition beyond the form's own: each string and each slice that is handed in takes at most 2^47 - 4096 bytes. -/
import Derived.Test.YtfkoecaejfkjpaaPFnExactRingOkx2
set_option linter.unusedVariables false
set_option linter.unusedSimpArgs false
namespace Go.Proofs.Ytfkoecaejfkjpaa.PureFnExactRingOk
open Go.RowKit Go.Proofs.Ytfkoecaejfkjpaa.PFnExactRingOk Go.Proofs.YtfkoecaejfkjpaaV.PrintWords Go.Proofs.YtfkoecaejfkjpaaV.PrintLast Go.Proofs.YtfkoecaejfkjpaaV.PrintMore

theorem w64 {i : Int} (h0 : -9223372036854775808 ≤ i) (h1 : i ≤ 9223372036854775807) : wrap64 i = i := by
  unfold wrap64
  omega

theorem within_eq (a b c : Int) : impl_within.f a b c = some (decide (b ≤ a) && decide (a ≤ c)) := by
  unfold impl_within.f
  split <;> simp_all <;> omega

theorem in_eq (a b c : Int) : spec_l1In.f a b c = some (decide (b ≤ a) && decide (a ≤ c)) := by
  unfold spec_l1In.f
  split <;> simp_all <;> omega

theorem wn {i n : Nat} (hn : n ≤ 4611686018427387904) (hi : i < n) : wrap64 ((i : Int) + 1) = ((i + 1 : Nat) : Int) := by
  rw [w64 (by omega) (by omega)]
  omega

theorem set_take {α : Type} (x : List α) (i : Nat) (v : α) (h : i < x.length) : (x.set i v).take (i + 1) = x.take i ++ [v] := by
  rw [List.take_succ_eq_append_getElem (by rw [List.length_set]; exact h), List.take_set_of_le (Nat.le_refl _), List.getElem_set_self]

theorem cast_lt {i n : Nat} (h : i < n) : ((i : Int) < (n : Int)) := by omega

theorem cast_nn (i : Nat) : (0 : Int) ≤ (i : Int) := by omega

theorem rdStr_eq (l : List ByteArray) (i : Nat) (h : i < l.length) : rdOf ByteArray.empty l (i : Int) = l[i] := by
  unfold rdOf
  rw [Int.toNat_natCast, List.getD_eq_getElem?_getD, List.getElem?_eq_getElem h]
  rfl

theorem szStringS_l0 (l : List ByteArray) (hl : l.length ≤ 8796093021952) (hs : ∀ y ∈ l, y.size ≤ 140737488351232) : ∀ (m i k : Nat) (a : Int), i + m = l.length → m < k → 0 ≤ a → a ≤ 1048576 → ∃ t, laws_szStringS.l0 k l a (i : Int) = some t ∧ (t < 0 ∨ 0 ≤ t ∧ t ≤ a ∧ ∀ y ∈ l.drop i, y.size ≤ 1048576) := by
  intro m
  induction m with
  | zero =>
    intro i k a hi hk h0 h1
    obtain ⟨k, rfl⟩ : ∃ j, k = j + 1 := ⟨k - 1, by omega⟩
    have e : i = l.length := by omega
    subst e
    refine ⟨a, ?_, Or.inr ⟨h0, by omega, ?_⟩⟩
    · simp only [laws_szStringS.l0, Int.lt_irrefl, if_false]
    · rw [List.drop_length]
      intro y hy
      cases hy
  | succ m ih =>
    intro i k a hi hk h0 h1
    obtain ⟨k, rfl⟩ : ∃ j, k = j + 1 := ⟨k - 1, by omega⟩
    have hil : i < l.length := by omega
    have hsz := hs l[i] (List.getElem_mem hil)
    simp only [laws_szStringS.l0, if_pos (cast_lt hil), if_pos (cast_nn i), rdStr_eq l i hil]
    rw [w64 (show -9223372036854775808 ≤ a - (l[i].size : Int) from by omega) (by omega)]
    by_cases h : a - (l[i].size : Int) < 0
    · rw [if_pos h]
      exact ⟨-1, rfl, Or.inl (by omega)⟩
    · rw [if_neg h, wn (by omega) hil]
      obtain ⟨t, ht, h2⟩ := ih (i + 1) k (a - (l[i].size : Int)) (by omega) (by omega) (by omega) (by omega)
      refine ⟨t, ht, ?_⟩
      cases h2 with
      | inl h3 => exact Or.inl h3
      | inr h3 =>
        refine Or.inr ⟨h3.1, by omega, ?_⟩
        rw [List.drop_eq_getElem_cons hil]
        intro y hy
        cases List.mem_cons.mp hy with
        | inl h4 =>
          rw [h4]
          omega
        | inr h4 => exact h3.2.2 y h4

theorem szStringS_cases (l : List ByteArray) (hl : l.length ≤ 8796093021952) (hs : ∀ y ∈ l, y.size ≤ 140737488351232) (k : Nat) (hk : l.length < k) (a : Int) (h0 : 0 ≤ a) (h1 : a ≤ 1048576) : ∃ t, laws_szStringS.f k l a = some t ∧ (t < 0 ∨ 0 ≤ t ∧ t ≤ a ∧ l.length ≤ 1048576 ∧ ∀ y ∈ l, y.size ≤ 1048576) := by
  unfold laws_szStringS.f
  rw [w64 (by omega) (by omega)]
  by_cases h : a - (l.length : Int) < 0
  · rw [if_pos h]
    exact ⟨-1, rfl, Or.inl (by omega)⟩
  · rw [if_neg h]
    obtain ⟨t, ht, h2⟩ := szStringS_l0 l hl hs l.length 0 k (a - (l.length : Int)) (by omega) hk (by omega) (by omega)
    refine ⟨t, ht, ?_⟩
    rw [List.drop_zero] at h2
    cases h2 with
    | inl h3 => exact Or.inl h3
    | inr h3 => exact Or.inr ⟨h3.1, by omega, by omega, h3.2.2⟩

theorem szRing_cases (l : List ByteArray) (hl : l.length ≤ 8796093021952) (hs : ∀ y ∈ l, y.size ≤ 140737488351232) (k : Nat) (hk : l.length < k) (a : Int) (h0 : 0 ≤ a) (h1 : a ≤ 1048576) : ∃ t, laws_szRing.f k l a = some t ∧ (t < 0 ∨ 0 ≤ t ∧ t ≤ a ∧ l.length ≤ 1048576 ∧ ∀ y ∈ l, y.size ≤ 1048576) := by
  unfold laws_szRing.f
  obtain ⟨t, ht, h⟩ := szStringS_cases l hl hs k hk a h0 h1
  rw [ht, Option.bind_some]
  by_cases h2 : t < 0
  · rw [if_pos h2]
    exact ⟨-1, rfl, Or.inl (by omega)⟩
  · rw [if_neg h2]
    exact ⟨t, rfl, h⟩

theorem toStringS_l0 (l : List ByteArray) (hl : l.length ≤ 8796093021952) : ∀ (m i k : Nat) (x : List ByteArray), i + m = l.length → m < k → x.length = l.length → laws_toStringS.l0 k l x (i : Int) = some (x.take i ++ l.drop i) := by
  intro m
  induction m with
  | zero =>
    intro i k x hi hk hx
    obtain ⟨k, rfl⟩ : ∃ j, k = j + 1 := ⟨k - 1, by omega⟩
    have e : i = l.length := by omega
    subst e
    simp only [laws_toStringS.l0, Int.lt_irrefl, if_false]
    rw [List.drop_length, List.append_nil, ← hx, List.take_length]
  | succ m ih =>
    intro i k x hi hk hx
    obtain ⟨k, rfl⟩ : ∃ j, k = j + 1 := ⟨k - 1, by omega⟩
    have hil : i < l.length := by omega
    have hix : i < x.length := by omega
    simp only [laws_toStringS.l0, Option.bind_some, if_pos (cast_lt hil), if_pos (cast_lt hix), if_pos (cast_nn i), rdStr_eq l i hil, Int.toNat_natCast]
    rw [wn (by omega) hil, ih (i + 1) k _ (by omega) (by omega) (by rw [List.length_set]; exact hx), set_take x i _ hix, List.drop_eq_getElem_cons hil, List.append_assoc]
    rfl

theorem toRing_eq (l : List ByteArray) (hl : l.length ≤ 8796093021952) (k : Nat) (hk : l.length < k) : laws_toRing.f k l = some l := by
  unfold laws_toRing.f laws_toStringS.f
  rw [if_pos (cast_nn _), Int.toNat_natCast, if_pos (by omega)]
  have h := toStringS_l0 l hl l.length 0 k (List.replicate l.length (⟨#[]⟩ : ByteArray)) (by omega) hk (by rw [List.length_replicate])
  rw [List.take_zero, List.nil_append, List.drop_zero] at h
  rw [show (0 : Int) = ((0 : Nat) : Int) from rfl, h]
  rfl

theorem eqStringS_l0 (l : List ByteArray) (hl : l.length ≤ 8796093021952) : ∀ (m i k : Nat), i + m = l.length → m < k → laws_eqStringS.l0 k l l (i : Int) = some true := by
  intro m
  induction m with
  | zero =>
    intro i k hi hk
    obtain ⟨k, rfl⟩ : ∃ j, k = j + 1 := ⟨k - 1, by omega⟩
    have e : i = l.length := by omega
    subst e
    simp only [laws_eqStringS.l0, Int.lt_irrefl, if_false]
  | succ m ih =>
    intro i k hi hk
    obtain ⟨k, rfl⟩ : ∃ j, k = j + 1 := ⟨k - 1, by omega⟩
    have hil : i < l.length := by omega
    simp only [laws_eqStringS.l0, if_pos (cast_lt hil), if_pos (cast_nn i), if_true]
    rw [wn (by omega) hil, ih (i + 1) k (by omega) (by omega)]

theorem eqRing_refl (l : List ByteArray) (hl : l.length ≤ 8796093021952) (k : Nat) (hk : l.length < k) : laws_eqRing.f k l l = some true := by
  unfold laws_eqRing.f laws_eqStringS.f
  have h := eqStringS_l0 l hl l.length 0 k (by omega) hk
  simp only [if_true]
  rw [show (0 : Int) = ((0 : Nat) : Int) from rfl, h]
  rfl

theorem name_l0 (a : ByteArray) (ha : a.size ≤ 140737488355328) : ∀ (m i : Nat), i + m = a.size → ∃ b, ∀ k, m < k → spec_l10Name.l0 k a (i : Int) = some b ∧ impl_nameOk.l0 k a (a.size : Int) (i : Int) = some b := by
  intro m
  induction m with
  | zero =>
    intro i hi
    have e : i = a.size := by omega
    subst e
    refine ⟨decide ((1 : Int) ≤ (a.size : Int)) && decide ((a.size : Int) ≤ 8), fun k hk => ?_⟩
    obtain ⟨k, rfl⟩ : ∃ j, k = j + 1 := ⟨k - 1, by omega⟩
    simp only [spec_l10Name.l0, impl_nameOk.l0, Int.lt_irrefl, if_false, in_eq, within_eq, Option.bind_some, and_self]
  | succ m ih =>
    intro i hi
    have hil : i < a.size := by omega
    obtain ⟨b, hb⟩ := ih (i + 1) (by omega)
    by_cases h1 : bt a (i : Int) < 97
    · refine ⟨false, fun k hk => ?_⟩
      obtain ⟨k, rfl⟩ : ∃ j, k = j + 1 := ⟨k - 1, by omega⟩
      simp only [spec_l10Name.l0, impl_nameOk.l0, if_pos (cast_lt hil), if_pos (cast_nn i), if_pos h1, and_self]
    · by_cases h2 : bt a (i : Int) > 122
      · refine ⟨false, fun k hk => ?_⟩
        obtain ⟨k, rfl⟩ : ∃ j, k = j + 1 := ⟨k - 1, by omega⟩
        simp only [spec_l10Name.l0, impl_nameOk.l0, if_pos (cast_lt hil), if_pos (cast_nn i), if_neg h1, if_pos h2, and_self]
      · refine ⟨b, fun k hk => ?_⟩
        obtain ⟨k, rfl⟩ : ∃ j, k = j + 1 := ⟨k - 1, by omega⟩
        have h3 := hb k (by omega)
        simp only [spec_l10Name.l0, impl_nameOk.l0, if_pos (cast_lt hil), if_pos (cast_nn i), if_neg h1, if_neg h2, wn (show a.size ≤ 4611686018427387904 from by omega) hil]
        exact h3

theorem ringOk_l0 (l : List ByteArray) (M : Nat) (hl : l.length ≤ 8796093021952) (hs : ∀ y ∈ l, y.size ≤ M) (hM : M ≤ 140737488355328) : ∀ (m i k : Nat), i + m = l.length → m + M < k → ∃ b, spec_l10Ok.l0 k (i : Int) l = some b ∧ impl_RingOk.l0 k l (l.length : Int) (i : Int) l = some b := by
  intro m
  induction m with
  | zero =>
    intro i k hi hk
    obtain ⟨k, rfl⟩ : ∃ j, k = j + 1 := ⟨k - 1, by omega⟩
    have e : i = l.length := by omega
    subst e
    refine ⟨decide ((l.length : Int) ≤ 6), ?_⟩
    simp only [spec_l10Ok.l0, impl_RingOk.l0, Int.lt_irrefl, if_false, and_self]
  | succ m ih =>
    intro i k hi hk
    obtain ⟨k, rfl⟩ : ∃ j, k = j + 1 := ⟨k - 1, by omega⟩
    have hil : i < l.length := by omega
    have hsz := hs l[i] (List.getElem_mem hil)
    obtain ⟨b, hb⟩ := ih (i + 1) k (by omega) (by omega)
    obtain ⟨c, hc⟩ := name_l0 l[i] (by omega) l[i].size 0 (by omega)
    have hc2 := hc k (by omega)
    have hn1 : spec_l10Name.f k l[i] = some c := hc2.1
    have hn2 : impl_nameOk.f k l[i] = some c := hc2.2
    simp only [spec_l10Ok.l0, impl_RingOk.l0, if_pos (cast_lt hil), if_pos (cast_nn i), rdStr_eq l i hil, hn1, hn2, Option.bind_some]
    cases c with
    | false => exact ⟨false, rfl, rfl⟩
    | true =>
      simp only [if_true]
      rw [wn (by omega) hil]
      by_cases h0 : (i : Int) > 0
      · obtain ⟨j, rfl⟩ : ∃ j, i = j + 1 := ⟨i - 1, by omega⟩
        have hj : wrap64 (((j + 1 : Nat) : Int) - 1) = (j : Int) := by
          rw [w64 (by omega) (by omega)]
          omega
        have hjl : j < l.length := by omega
        simp only [if_pos h0, hj, if_pos (cast_nn j), if_pos (cast_lt hjl), rdStr_eq l j hjl]
        by_cases h3 : Op.bytesLess l[j].toList l[j + 1].toList = true
        · simp only [if_pos h3]
          exact ⟨b, hb⟩
        · simp only [if_neg h3]
          exact ⟨false, rfl, rfl⟩
      · simp only [if_neg h0]
        exact ⟨b, hb⟩

theorem FnExactRingOk : laws_FnExactRingOk.Pure := by
  intro l hl
  have hl' : l.length ≤ 8796093021952 := by have := hl.1; omega
  obtain ⟨K, hK⟩ : ∃ K : Nat, l.length + 140737488351232 < K := ⟨_, Nat.lt_succ_self _⟩
  refine ⟨K, ?_⟩
  obtain ⟨t, ht, h⟩ := szRing_cases l hl' hl.2 K (by omega) 1048576 (by omega) (by omega)
  obtain ⟨b, hb1, hb2⟩ := ringOk_l0 l 140737488351232 hl' hl.2 (by omega) l.length 0 K (by omega) (by omega)
  have hb3 : spec_l10Ok.f K l = some b := hb1
  have hb4 : impl_RingOk.f K l = some b := hb2
  unfold laws_FnExactRingOk.f spec_RingOk.f
  simp only [ht, Option.bind_some]
  split
  · rfl
  · simp only [toRing_eq l hl' K (by omega), Option.bind_some, hb3, hb4, bne_self_eq_false, Bool.false_eq_true, if_false, eqRing_refl l hl' K (by omega), if_true]

end Go.Proofs.Ytfkoecaejfkjpaa.PureFnExactRingOk
namespace Go.Proofs.Ytfkoecaejfkjpaa.Pure
theorem FnExactRingOk : Go.Proofs.Ytfkoecaejfkjpaa.PFnExactRingOk.laws_FnExactRingOk.Pure := Go.Proofs.Ytfkoecaejfkjpaa.PureFnExactRingOk.FnExactRingOk
end Go.Proofs.Ytfkoecaejfkjpaa.Pure
