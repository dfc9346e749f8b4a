/- The pure law behind FnExactStoreOk, over the functions that were printed of the program: for every store the program's StoreOk and the reference's StoreOk say the same, and the store is left as it was. No condition beyond the form's own: each string and each slice that is handed in takes at most 2^47 - 4096 bytes. -/
import Derived.Test.YtjpacbedcocohaaPFnExactStoreOkx9
set_option linter.unusedVariables false
set_option linter.unusedSimpArgs false
namespace Go.Proofs.Ytjpacbedcocohaa.PureFnExactStoreOk
open Go.RowKit Go.Proofs.Ytjpacbedcocohaa.PFnExactStoreOk Go.Proofs.YtjpacbedcocohaaV.PrintWords Go.Proofs.YtjpacbedcocohaaV.PrintLast Go.Proofs.YtjpacbedcocohaaV.PrintMore

theorem w64 {i : Int} (h0 : -9223372036854775808 ≤ i) (h1 : i ≤ 9223372036854775807) : wrap64 i = i := by
  unfold wrap64
  omega

theorem within_eq (a b c : Int) : impl_within.f a b c = some (decide (b ≤ a) && decide (a ≤ c)) := by
  unfold impl_within.f
  split <;> simp_all <;> omega

theorem in_eq (a b c : Int) : spec_l1In.f a b c = some (decide (b ≤ a) && decide (a ≤ c)) := by
  unfold spec_l1In.f
  split <;> simp_all <;> omega

def tagOk (a b : Int) : Bool := (a == 0 && b == 0) || (decide (1 ≤ a) && decide (a ≤ 999) && decide (0 ≤ b) && decide (b ≤ 2))

theorem tagOk_eq (a b : Int) : impl_TagOk.f a b = some (tagOk a b) := by
  unfold impl_TagOk.f impl_placeOk.f tagOk
  simp only [within_eq, Option.bind_some]
  split
  · rename_i h; rw [h]; rfl
  · rename_i h; rw [Bool.not_eq_true] at h; rw [h, Bool.false_or]
    split <;> simp_all <;> omega

theorem l1TagOk_eq (a b : Int) : spec_l1TagOk.f a b = some (tagOk a b) := by
  unfold spec_l1TagOk.f tagOk
  simp only [in_eq, Option.bind_some]
  split
  · rename_i h; rw [h]; rfl
  · rename_i h; rw [Bool.not_eq_true] at h; rw [h, Bool.false_or]
    split <;> simp_all <;> omega

theorem eqTag_refl (a b : Int) : laws_eqTag.f a b a b = some true := by
  simp [laws_eqTag.f]

theorem wn {i n : Nat} (hn : n ≤ 4611686018427387904) (hi : i < n) : wrap64 ((i : Int) + 1) = ((i + 1 : Nat) : Int) := by
  rw [w64 (by omega) (by omega)]
  omega

theorem set_take {α : Type} (x : List α) (i : Nat) (v : α) (h : i < x.length) : (x.set i v).take (i + 1) = x.take i ++ [v] := by
  rw [List.take_succ_eq_append_getElem (by rw [List.length_set]; exact h), List.take_set_of_le (Nat.le_refl _), List.getElem_set_self]

theorem cast_lt {i n : Nat} (h : i < n) : ((i : Int) < (n : Int)) := by omega

theorem cast_nn (i : Nat) : (0 : Int) ≤ (i : Int) := by omega

theorem rdTag_eq (l : List S32) (i : Nat) (h : i < l.length) : rd_T32 l (i : Int) = l[i] := by
  unfold rd_T32
  rw [Int.toNat_natCast, List.getD_eq_getElem?_getD, List.getElem?_eq_getElem h]
  rfl

theorem rdTagL_eq (l : List S68) (i : Nat) (h : i < l.length) : rd_T68 l (i : Int) = l[i] := by
  unfold rd_T68
  rw [Int.toNat_natCast, List.getD_eq_getElem?_getD, List.getElem?_eq_getElem h]
  rfl

theorem szPast_cases (l : List S68) (hl : l.length ≤ 8796093021952) (a : Int) (h0 : 0 ≤ a) (h1 : a ≤ 1048576) : ∃ t, laws_szPast.f l a = some t ∧ (t < 0 ∨ 0 ≤ t ∧ t ≤ a ∧ l.length ≤ 1048576) := by
  unfold laws_szPast.f laws_szTagS.f
  rw [w64 (by omega) (by omega)]
  by_cases h : a - (l.length : Int) < 0
  · refine ⟨-1, ?_, Or.inl (by omega)⟩
    simp [h]
  · refine ⟨a - l.length, ?_, Or.inr (by omega)⟩
    simp [h]

def convTag (x : S68) : S32 := ⟨x.f0, x.f1⟩

theorem toTagS_l0 (l : List S68) (hl : l.length ≤ 8796093021952) : ∀ (m i k : Nat) (x : List S32), i + m = l.length → m < k → x.length = l.length → laws_toTagS.l0 k l x (i : Int) = some (x.take i ++ (l.drop i).map convTag) := by
  intro m
  induction m with
  | zero =>
    intro i k x hi hk hx
    obtain ⟨k, rfl⟩ : ∃ j, k = j + 1 := ⟨k - 1, by omega⟩
    have e : i = l.length := by omega
    subst e
    simp only [laws_toTagS.l0, Int.lt_irrefl, if_false]
    rw [List.drop_length, List.map_nil, List.append_nil, ← hx, List.take_length]
  | succ m ih =>
    intro i k x hi hk hx
    obtain ⟨k, rfl⟩ : ∃ j, k = j + 1 := ⟨k - 1, by omega⟩
    have hil : i < l.length := by omega
    have hix : i < x.length := by omega
    simp only [laws_toTagS.l0, laws_toTag.f, Option.bind_some, if_pos (cast_lt hil), if_pos (cast_lt hix), if_pos (cast_nn i), rdTagL_eq l i hil, Int.toNat_natCast]
    rw [wn (by omega) hil, ih (i + 1) k _ (by omega) (by omega) (by rw [List.length_set]; exact hx), set_take x i _ hix, List.drop_eq_getElem_cons hil, List.map_cons, List.append_assoc]
    rfl

theorem toTagS_eq (l : List S68) (hl : l.length ≤ 8796093021952) (k : Nat) (hk : l.length < k) : laws_toTagS.f k l = some (l.map convTag) := by
  unfold laws_toTagS.f
  rw [if_pos (cast_nn _), Int.toNat_natCast, if_pos (by omega)]
  have h := toTagS_l0 l hl l.length 0 k (List.replicate l.length z32) (by omega) hk (by rw [List.length_replicate])
  rw [List.take_zero, List.nil_append, List.drop_zero] at h
  exact h

theorem toPast_eq (l : List S68) (hl : l.length ≤ 8796093021952) (k : Nat) (hk : l.length < k) : laws_toPast.f k l = some (l.map convTag) := by
  unfold laws_toPast.f
  rw [toTagS_eq l hl k hk]
  rfl

theorem eqTagS_l0 (l : List S32) (hl : l.length ≤ 8796093021952) : ∀ (m i k : Nat), i + m = l.length → m < k → laws_eqTagS.l0 k l l (i : Int) = some true := by
  intro m
  induction m with
  | zero =>
    intro i k hi hk
    obtain ⟨k, rfl⟩ : ∃ j, k = j + 1 := ⟨k - 1, by omega⟩
    have e : i = l.length := by omega
    subst e
    simp only [laws_eqTagS.l0, Int.lt_irrefl, if_false]
  | succ m ih =>
    intro i k hi hk
    obtain ⟨k, rfl⟩ : ∃ j, k = j + 1 := ⟨k - 1, by omega⟩
    have hil : i < l.length := by omega
    simp only [laws_eqTagS.l0, eqTag_refl, Option.bind_some, if_pos (cast_lt hil), if_pos (cast_nn i), if_true]
    rw [wn (by omega) hil, ih (i + 1) k (by omega) (by omega)]

theorem eqPast_refl (l : List S32) (hl : l.length ≤ 8796093021952) (k : Nat) (hk : l.length < k) : laws_eqPast.f k l l = some true := by
  unfold laws_eqPast.f laws_eqTagS.f
  have h := eqTagS_l0 l hl l.length 0 k (by omega) hk
  simp only [if_true]
  rw [show (0 : Int) = ((0 : Nat) : Int) from rfl, h]
  rfl

def pastOk (l : List S32) : Bool := ((l.length : Int) == 4) && l.all (fun t => tagOk t.f0 t.f1)

theorem pastOk_len (x : List S32) (h : pastOk x = true) : x.length = 4 := by
  unfold pastOk at h
  rw [Bool.and_eq_true, beq_iff_eq] at h
  omega

theorem l1PastOk_l0 (l : List S32) (hl : l.length ≤ 8796093021952) : ∀ (m i k : Nat), i + m = l.length → m < k → spec_l1PastOk.l0 k (i : Int) l = some ((l.drop i).all (fun t => tagOk t.f0 t.f1) && ((l.length : Int) == 4)) := by
  intro m
  induction m with
  | zero =>
    intro i k hi hk
    obtain ⟨k, rfl⟩ : ∃ j, k = j + 1 := ⟨k - 1, by omega⟩
    have e : i = l.length := by omega
    subst e
    simp only [spec_l1PastOk.l0, Int.lt_irrefl, if_false, List.drop_length, List.all_nil, Bool.true_and]
  | succ m ih =>
    intro i k hi hk
    obtain ⟨k, rfl⟩ : ∃ j, k = j + 1 := ⟨k - 1, by omega⟩
    have hil : i < l.length := by omega
    simp only [spec_l1PastOk.l0, l1TagOk_eq, Option.bind_some, if_pos (cast_lt hil), if_pos (cast_nn i), rdTag_eq l i hil]
    rw [wn (by omega) hil, ih (i + 1) k (by omega) (by omega), List.drop_eq_getElem_cons hil, List.all_cons]
    split
    · rename_i h
      rw [h, Bool.true_and]
    · rename_i h
      rw [Bool.not_eq_true] at h
      rw [h, Bool.false_and, Bool.false_and]

theorem l1PastOk_eq (l : List S32) (hl : l.length ≤ 8796093021952) (k : Nat) (hk : l.length < k) : spec_l1PastOk.f k l = some (pastOk l) := by
  have h := l1PastOk_l0 l hl l.length 0 k (by omega) hk
  rw [List.drop_zero, Bool.and_comm] at h
  exact h

theorem notTag_l0 (l : List S32) (hl : l.length ≤ 8796093021952) : ∀ (m i k : Nat), i + m = l.length → m < k → ∃ r, slices_IndexFunc_impl_Tag_impl_Tag_PastOk_lit1.l0 k l (l.length : Int) (i : Int) = some r ∧ decide (r ≥ 0) = !(l.drop i).all (fun t => tagOk t.f0 t.f1) := by
  intro m
  induction m with
  | zero =>
    intro i k hi hk
    obtain ⟨k, rfl⟩ : ∃ j, k = j + 1 := ⟨k - 1, by omega⟩
    have e : i = l.length := by omega
    subst e
    refine ⟨-1, ?_, ?_⟩
    · simp only [slices_IndexFunc_impl_Tag_impl_Tag_PastOk_lit1.l0, Int.lt_irrefl, if_false]
    · rw [List.drop_length]
      rfl
  | succ m ih =>
    intro i k hi hk
    obtain ⟨k, rfl⟩ : ∃ j, k = j + 1 := ⟨k - 1, by omega⟩
    have hil : i < l.length := by omega
    simp only [slices_IndexFunc_impl_Tag_impl_Tag_PastOk_lit1.l0, impl_PastOk_lit1.f, tagOk_eq, Option.bind_some, if_pos (cast_lt hil), if_pos (cast_nn i), rdTag_eq l i hil]
    rw [wn (by omega) hil, List.drop_eq_getElem_cons hil, List.all_cons]
    by_cases h : tagOk l[i].f0 l[i].f1 = true
    · rw [h, Bool.true_and]
      exact ih (i + 1) k (by omega) (by omega)
    · rw [Bool.not_eq_true] at h
      rw [h, Bool.false_and]
      exact ⟨(i : Int), rfl, decide_eq_true (cast_nn i)⟩

theorem implPastOk_eq (l : List S32) (hl : l.length ≤ 8796093021952) (k : Nat) (hk : l.length < k) : impl_PastOk.f k l = some (pastOk l) := by
  unfold impl_PastOk.f slices_ContainsFunc_impl_Tag_impl_Tag_PastOk_lit1.f slices_IndexFunc_impl_Tag_impl_Tag_PastOk_lit1.f pastOk
  obtain ⟨r, h1, h2⟩ := notTag_l0 l hl l.length 0 k (by omega) hk
  rw [List.drop_zero] at h2
  rw [show ((0 : Nat) : Int) = 0 from rfl] at h1
  rw [h1]
  simp only [Option.bind_some, h2, Bool.not_not]
  by_cases h : (l.length : Int) = 4
  · rw [if_pos h, h]
    rfl
  · rw [if_neg h, beq_eq_false_iff_ne.mpr h, Bool.false_and]

theorem bt_w64 (s : ByteArray) (i : Int) : wrap64 (bt s i) = bt s i := by
  have h := bt_range s i
  exact w64 (by omega) (by omega)

theorem text_l0 (a : ByteArray) (ha : a.size ≤ 140737488355328) : ∀ (m i : Nat), i + m = a.size → ∃ b, ∀ k, m < k → spec_l2TextOk.l0 k a (i : Int) = some b ∧ impl_textOk.l0 k a (a.size : Int) (i : Int) = some b := by
  intro m
  induction m with
  | zero =>
    intro i hi
    have e : i = a.size := by omega
    subst e
    refine ⟨decide ((a.size : Int) ≤ 8), fun k hk => ?_⟩
    obtain ⟨k, rfl⟩ : ∃ j, k = j + 1 := ⟨k - 1, by omega⟩
    simp only [spec_l2TextOk.l0, impl_textOk.l0, Int.lt_irrefl, if_false, and_self]
  | succ m ih =>
    intro i hi
    have hil : i < a.size := by omega
    obtain ⟨b, hb⟩ := ih (i + 1) (by omega)
    by_cases h : 33 ≤ bt a (i : Int) ∧ bt a (i : Int) ≤ 126
    · refine ⟨b, fun k hk => ?_⟩
      obtain ⟨k, rfl⟩ : ∃ j, k = j + 1 := ⟨k - 1, by omega⟩
      have h2 := hb k (by omega)
      simp only [spec_l2TextOk.l0, impl_textOk.l0, if_pos (cast_lt hil), if_pos (cast_nn i), bt_w64, within_eq, Option.bind_some, wn (show a.size ≤ 4611686018427387904 from by omega) hil, if_neg (show ¬ (bt a (i : Int) < 33) from by omega), if_neg (show ¬ (bt a (i : Int) > 126) from by omega), decide_eq_true h.1, decide_eq_true h.2, Bool.and_self, if_true]
      exact h2
    · refine ⟨false, fun k hk => ?_⟩
      obtain ⟨k, rfl⟩ : ∃ j, k = j + 1 := ⟨k - 1, by omega⟩
      simp only [spec_l2TextOk.l0, impl_textOk.l0, if_pos (cast_lt hil), if_pos (cast_nn i), bt_w64, within_eq, Option.bind_some]
      by_cases h1 : bt a (i : Int) < 33
      · rw [if_pos h1, decide_eq_false (show ¬ (33 ≤ bt a (i : Int)) from by omega)]
        exact ⟨rfl, rfl⟩
      · rw [if_neg h1, if_pos (show bt a (i : Int) > 126 from by omega), decide_eq_false (show ¬ (bt a (i : Int) ≤ 126) from by omega), Bool.and_false]
        exact ⟨rfl, rfl⟩

theorem undr_l0 (l : List S32) (hl : l.length = 4) (a0 a1 a2 : Int) (t : ByteArray) (g : Bool) : ∀ (m i k : Nat), i + m = 4 → m < k → spec_l2Ok.l0 k (i : Int) a0 a1 a2 l t g = some ((l.drop i).all (fun p => decide (p.f0 < a1))) := by
  intro m
  induction m with
  | zero =>
    intro i k hi hk
    obtain ⟨k, rfl⟩ : ∃ j, k = j + 1 := ⟨k - 1, by omega⟩
    have e : i = 4 := by omega
    subst e
    rw [← hl, List.drop_length, List.all_nil]
    simp only [spec_l2Ok.l0, show ¬ (((l.length : Nat) : Int) < 4) from by omega, if_false]
  | succ m ih =>
    intro i k hi hk
    obtain ⟨k, rfl⟩ : ∃ j, k = j + 1 := ⟨k - 1, by omega⟩
    have hil : i < l.length := by omega
    simp only [spec_l2Ok.l0, if_pos (show ((i : Int) < 4) from by omega), if_pos (cast_lt hil), if_pos (cast_nn i), rdTag_eq l i hil]
    rw [wn (by omega) hil, ih (i + 1) k (by omega) (by omega), List.drop_eq_getElem_cons hil, List.all_cons]
    split
    · rename_i h
      rw [decide_eq_false (show ¬ (l[i].f0 < a1) from by omega), Bool.false_and]
    · rename_i h
      rw [decide_eq_true (show (l[i].f0 < a1) from by omega), Bool.true_and]

theorem l2Ok_j0 (l : List S32) (b : Bool) (hl : b = false → l.length = 4) (a0 a1 a2 : Int) (t : ByteArray) (g : Bool) (k : Nat) (hk : 6 ≤ k) : spec_l2Ok.j0 k b a0 a1 a2 l t g = some (!b && l.all (fun p => decide (p.f0 < a1))) := by
  obtain ⟨k, rfl⟩ : ∃ j, k = j + 1 := ⟨k - 1, by omega⟩
  cases b with
  | true => simp only [spec_l2Ok.j0, if_true, Bool.not_true, Bool.false_and]
  | false =>
    have h := undr_l0 l (hl rfl) a0 a1 a2 t g 4 0 k (by omega) (by omega)
    rw [List.drop_zero] at h
    simp only [spec_l2Ok.j0, Bool.false_eq_true, if_false, Bool.not_false, Bool.true_and]
    exact h

theorem latest_l0 (l : List S32) (hl : l.length ≤ 8796093021952) : ∀ (m i k : Nat) (x : Int), i + m = l.length → m < k → ∃ r, impl_Past_latest.l0 k x l (l.length : Int) (i : Int) = some r ∧ ∀ a, decide (a > r) = (decide (a > x) && (l.drop i).all (fun p => decide (p.f0 < a))) := by
  intro m
  induction m with
  | zero =>
    intro i k x hi hk
    obtain ⟨k, rfl⟩ : ∃ j, k = j + 1 := ⟨k - 1, by omega⟩
    have e : i = l.length := by omega
    subst e
    refine ⟨x, ?_, fun a => ?_⟩
    · simp only [impl_Past_latest.l0, Int.lt_irrefl, if_false]
    · rw [List.drop_length, List.all_nil, Bool.and_true]
  | succ m ih =>
    intro i k x hi hk
    obtain ⟨k, rfl⟩ : ∃ j, k = j + 1 := ⟨k - 1, by omega⟩
    have hil : i < l.length := by omega
    obtain ⟨r, h1, h2⟩ := ih (i + 1) k (mx x l[i].f0) (by omega) (by omega)
    refine ⟨r, ?_, fun a => ?_⟩
    · simp only [impl_Past_latest.l0, if_pos (cast_lt hil), if_pos (cast_nn i), rdTag_eq l i hil]
      rw [wn (by omega) hil]
      exact h1
    · rw [h2, List.drop_eq_getElem_cons hil, List.all_cons, ← Bool.and_assoc]
      congr 1
      unfold mx
      rw [← Bool.decide_and, decide_eq_decide]
      split <;> omega

def verOk (tb : Bool) (a0 a1 a2 : Int) (l : List S32) (t : ByteArray) (g : Bool) : Bool := (decide (0 ≤ a0) && decide (a0 ≤ 3)) && (tb && (tagOk a1 a2 && (!decide (a1 = 0) && ((!g || decide (t.toList = [])) && (pastOk l && l.all (fun p => decide (p.f0 < a1)))))))

theorem l2Ok_eq (l : List S32) (hl : l.length ≤ 8796093021952) (a0 a1 a2 : Int) (t : ByteArray) (g tb : Bool) (k : Nat) (hk : 6 ≤ k) (hlk : l.length < k) (ht : spec_l2TextOk.f k t = some tb) : spec_l2Ok.f k a0 a1 a2 l t g = some (verOk tb a0 a1 a2 l t g) := by
  unfold spec_l2Ok.f verOk
  have j1 := l2Ok_j0 l true (by simp) a0 a1 a2 t g k hk
  have j2 := l2Ok_j0 l (!pastOk l) (fun h => pastOk_len l (by rw [Bool.not_eq_false'] at h; exact h)) a0 a1 a2 t g k hk
  simp only [in_eq, ht, l1TagOk_eq, Option.bind_some, l1PastOk_eq l hl k hlk, j1, j2, Bool.not_not, Bool.not_true, Bool.false_and]
  generalize (decide (0 ≤ a0) && decide (a0 ≤ 3)) = A
  generalize tagOk a1 a2 = B
  generalize (pastOk l && l.all (fun p => decide (p.f0 < a1))) = C
  by_cases h0 : a1 = 0 <;> by_cases h1 : t.toList = [] <;> cases A <;> cases tb <;> cases B <;> cases g <;> simp [h0, h1]

theorem tagOk_nn (a b : Int) (h : tagOk a b = true) : 0 ≤ a := by
  unfold tagOk at h
  simp only [Bool.or_eq_true, Bool.and_eq_true, beq_iff_eq, decide_eq_true_eq] at h
  omega

theorem implVerOk_eq (l : List S32) (hl : l.length ≤ 8796093021952) (a0 a1 a2 : Int) (t : ByteArray) (g tb : Bool) (k : Nat) (hlk : l.length < k) (ht : impl_textOk.f k t = some tb) : impl_VerOk.f k a0 a1 a2 l t g = some (verOk tb a0 a1 a2 l t g) := by
  obtain ⟨r, h1, h2⟩ := latest_l0 l hl l.length 0 k 0 (by omega) hlk
  have h3 := h2 a1
  rw [List.drop_zero] at h3
  have h4 : impl_Past_latest.f k l = some r := h1
  unfold impl_VerOk.f impl_Ver_written.f impl_keyOk.f verOk
  simp only [within_eq, ht, tagOk_eq, Option.bind_some, implPastOk_eq l hl k hlk, h4, h3]
  have h5 : tagOk a1 a2 = true → decide (a1 > 0) = !decide (a1 = 0) := fun h => by
    have := tagOk_nn a1 a2 h
    by_cases h6 : a1 = 0
    · rw [h6]
      rfl
    · rw [decide_eq_true (show a1 > 0 from by omega), decide_eq_false h6]
      rfl
  revert h5
  generalize (decide (0 ≤ a0) && decide (a0 ≤ 3)) = A
  generalize tagOk a1 a2 = B
  generalize pastOk l = C
  generalize l.all (fun p => decide (p.f0 < a1)) = D
  generalize decide (a1 > 0) = E
  generalize decide (a1 = 0) = G
  intro h5
  by_cases h7 : t.toList = [] <;> cases A <;> cases tb <;> cases B <;> cases C <;> cases g <;> simp [h7] <;> simp_all

theorem szVer_cases (a0 a1 a2 : Int) (l : List S68) (t : ByteArray) (g : Bool) (hl : l.length ≤ 8796093021952) (ht : t.size ≤ 140737488351232) (a : Int) (h0 : 0 ≤ a) (h1 : a ≤ 1048576) : ∃ s, laws_szVer.f a0 a1 a2 l t g a = some s ∧ (s < 0 ∨ 0 ≤ s ∧ s ≤ a ∧ l.length ≤ 1048576 ∧ t.size ≤ 1048576) := by
  unfold laws_szVer.f
  obtain ⟨s, hs, h⟩ := szPast_cases l hl a h0 h1
  simp only [hs, Option.bind_some]
  by_cases h2 : s < 0
  · rw [if_pos h2]
    exact ⟨-1, rfl, Or.inl (by omega)⟩
  · rw [if_neg h2, w64 (by omega) (by omega)]
    by_cases h3 : s - (t.size : Int) < 0
    · rw [if_pos h3]
      exact ⟨-1, rfl, Or.inl (by omega)⟩
    · rw [if_neg h3]
      exact ⟨_, rfl, Or.inr (by omega)⟩

theorem toVer_eq (a0 a1 a2 : Int) (l : List S68) (t : ByteArray) (g : Bool) (hl : l.length ≤ 8796093021952) (k : Nat) (hk : l.length < k) : laws_toVer.f k a0 a1 a2 l t g = some (a0, a1, a2, l.map convTag, t, g) := by
  unfold laws_toVer.f laws_toTag.f
  simp only [Option.bind_some, toPast_eq l hl k hk]

theorem eqVer_refl (a0 a1 a2 : Int) (l : List S32) (t : ByteArray) (g : Bool) (hl : l.length ≤ 8796093021952) (k : Nat) (hk : l.length < k) : laws_eqVer.f k a0 a1 a2 l t g a0 a1 a2 l t g = some true := by
  unfold laws_eqVer.f
  simp only [eqTag_refl, Option.bind_some, eqPast_refl l hl k hk, if_true, bne_self_eq_false, Bool.false_eq_true, if_false]

theorem rdVer_eq (l : List S56) (i : Nat) (h : i < l.length) : rd_T56 l (i : Int) = l[i] := by
  unfold rd_T56
  rw [Int.toNat_natCast, List.getD_eq_getElem?_getD, List.getElem?_eq_getElem h]
  rfl

theorem rdVerL_eq (l : List S70) (i : Nat) (h : i < l.length) : rd_T70 l (i : Int) = l[i] := by
  unfold rd_T70
  rw [Int.toNat_natCast, List.getD_eq_getElem?_getD, List.getElem?_eq_getElem h]
  rfl

/-- A version's past and text are within a bound. -/
def SmallL (M : Nat) (y : S70) : Prop := y.f2.f0.length ≤ M ∧ y.f2.f0.length ≤ 8796093021952 ∧ y.f3.size ≤ M ∧ y.f3.size ≤ 140737488351232

/-- A version's past and text are within a bound. -/
def Small (M : Nat) (y : S56) : Prop := y.f2.f0.length ≤ M ∧ y.f2.f0.length ≤ 8796093021952 ∧ y.f3.size ≤ M ∧ y.f3.size ≤ 140737488351232

def convVer (y : S70) : S56 := ⟨y.f0, ⟨y.f1.f0, y.f1.f1⟩, ⟨y.f2.f0.map convTag⟩, y.f3, y.f4⟩

theorem small_conv (M : Nat) (y : S70) (h : SmallL M y) : Small M (convVer y) := by
  unfold SmallL at h
  unfold Small convVer
  simp only [List.length_map]
  exact h

theorem szVerS_l0 (l : List S70) (M : Nat) (hl : l.length ≤ 8796093021952) (hs : ∀ y ∈ l, SmallL M y) : ∀ (m i k : Nat) (a : Int), i + m = l.length → m < k → 0 ≤ a → a ≤ 1048576 → ∃ t, laws_szVerS.l0 k l a (i : Int) = some t ∧ (t < 0 ∨ 0 ≤ t ∧ t ≤ a) := by
  intro m
  induction m with
  | zero =>
    intro i k a hi hk h0 h1
    obtain ⟨k, rfl⟩ : ∃ j, k = j + 1 := ⟨k - 1, by omega⟩
    have e : i = l.length := by omega
    subst e
    refine ⟨a, ?_, Or.inr ⟨h0, by omega⟩⟩
    simp only [laws_szVerS.l0, Int.lt_irrefl, if_false]
  | succ m ih =>
    intro i k a hi hk h0 h1
    obtain ⟨k, rfl⟩ : ∃ j, k = j + 1 := ⟨k - 1, by omega⟩
    have hil : i < l.length := by omega
    have hsz := hs l[i] (List.getElem_mem hil)
    obtain ⟨s, hs2, h2⟩ := szVer_cases l[i].f0 l[i].f1.f0 l[i].f1.f1 l[i].f2.f0 l[i].f3 l[i].f4 hsz.2.1 hsz.2.2.2 a h0 h1
    simp only [laws_szVerS.l0, if_pos (cast_lt hil), if_pos (cast_nn i), rdVerL_eq l i hil, hs2, Option.bind_some]
    by_cases h : s < 0
    · rw [if_pos h]
      exact ⟨-1, rfl, Or.inl (by omega)⟩
    · rw [if_neg h, wn (by omega) hil]
      obtain ⟨t, ht, h3⟩ := ih (i + 1) k s (by omega) (by omega) (by omega) (by omega)
      exact ⟨t, ht, by omega⟩

theorem szStore_cases (l : List S70) (M : Nat) (hl : l.length ≤ 8796093021952) (hs : ∀ y ∈ l, SmallL M y) (k : Nat) (hk : l.length < k) (a : Int) (h0 : 0 ≤ a) (h1 : a ≤ 1048576) : ∃ t, laws_szStore.f k l a = some t ∧ (t < 0 ∨ 0 ≤ t ∧ t ≤ a ∧ l.length ≤ 1048576) := by
  unfold laws_szStore.f laws_szVerS.f
  rw [w64 (by omega) (by omega)]
  by_cases h : a - (l.length : Int) < 0
  · rw [if_pos h]
    exact ⟨-1, rfl, Or.inl (by omega)⟩
  · rw [if_neg h]
    obtain ⟨t, ht, h2⟩ := szVerS_l0 l M hl hs l.length 0 k (a - (l.length : Int)) (by omega) hk (by omega) (by omega)
    rw [show (0 : Int) = ((0 : Nat) : Int) from rfl, ht, Option.bind_some]
    by_cases h3 : t < ((0 : Nat) : Int)
    · rw [if_pos h3]
      exact ⟨-1, rfl, Or.inl (by omega)⟩
    · rw [if_neg h3]
      exact ⟨t, rfl, Or.inr (by omega)⟩

theorem toVerS_l0 (l : List S70) (M : Nat) (hl : l.length ≤ 8796093021952) (hs : ∀ y ∈ l, SmallL M y) : ∀ (m i k : Nat) (x : List S56), i + m = l.length → m + M < k → x.length = l.length → laws_toVerS.l0 k l x (i : Int) = some (x.take i ++ (l.drop i).map convVer) := by
  intro m
  induction m with
  | zero =>
    intro i k x hi hk hx
    obtain ⟨k, rfl⟩ : ∃ j, k = j + 1 := ⟨k - 1, by omega⟩
    have e : i = l.length := by omega
    subst e
    simp only [laws_toVerS.l0, Int.lt_irrefl, if_false]
    rw [List.drop_length, List.map_nil, List.append_nil, ← hx, List.take_length]
  | succ m ih =>
    intro i k x hi hk hx
    obtain ⟨k, rfl⟩ : ∃ j, k = j + 1 := ⟨k - 1, by omega⟩
    have hil : i < l.length := by omega
    have hix : i < x.length := by omega
    have hsz := hs l[i] (List.getElem_mem hil)
    simp only [laws_toVerS.l0, toVer_eq l[i].f0 l[i].f1.f0 l[i].f1.f1 l[i].f2.f0 l[i].f3 l[i].f4 hsz.2.1 k (by have := hsz.1; omega), Option.bind_some, if_pos (cast_lt hil), if_pos (cast_lt hix), if_pos (cast_nn i), rdVerL_eq l i hil, Int.toNat_natCast]
    rw [wn (by omega) hil, ih (i + 1) k _ (by omega) (by omega) (by rw [List.length_set]; exact hx), set_take x i _ hix, List.drop_eq_getElem_cons hil, List.map_cons, List.append_assoc]
    rfl

theorem toStore_eq (l : List S70) (M : Nat) (hl : l.length ≤ 1954687338212) (hs : ∀ y ∈ l, SmallL M y) (k : Nat) (hk : l.length + M < k) : laws_toStore.f k l = some (l.map convVer) := by
  unfold laws_toStore.f laws_toVerS.f
  rw [if_pos (cast_nn _), Int.toNat_natCast, if_pos (by omega)]
  have h := toVerS_l0 l M (by omega) hs l.length 0 k (List.replicate l.length z56) (by omega) hk (by rw [List.length_replicate])
  rw [List.take_zero, List.nil_append, List.drop_zero] at h
  rw [show (0 : Int) = ((0 : Nat) : Int) from rfl, h]
  rfl

theorem eqVerS_l0 (l : List S56) (M : Nat) (hl : l.length ≤ 8796093021952) (hs : ∀ y ∈ l, Small M y) : ∀ (m i k : Nat), i + m = l.length → m + M < k → laws_eqVerS.l0 k l l (i : Int) = some true := by
  intro m
  induction m with
  | zero =>
    intro i k hi hk
    obtain ⟨k, rfl⟩ : ∃ j, k = j + 1 := ⟨k - 1, by omega⟩
    have e : i = l.length := by omega
    subst e
    simp only [laws_eqVerS.l0, Int.lt_irrefl, if_false]
  | succ m ih =>
    intro i k hi hk
    obtain ⟨k, rfl⟩ : ∃ j, k = j + 1 := ⟨k - 1, by omega⟩
    have hil : i < l.length := by omega
    have hsz := hs l[i] (List.getElem_mem hil)
    simp only [laws_eqVerS.l0, rdVer_eq l i hil, eqVer_refl l[i].f0 l[i].f1.f0 l[i].f1.f1 l[i].f2.f0 l[i].f3 l[i].f4 hsz.2.1 k (by have := hsz.1; omega), Option.bind_some, if_pos (cast_lt hil), if_pos (cast_nn i), if_true]
    rw [wn (by omega) hil, ih (i + 1) k (by omega) (by omega)]

theorem eqStore_refl (l : List S56) (M : Nat) (hl : l.length ≤ 8796093021952) (hs : ∀ y ∈ l, Small M y) (k : Nat) (hk : l.length + M < k) : laws_eqStore.f k l l = some true := by
  unfold laws_eqStore.f laws_eqVerS.f
  have h := eqVerS_l0 l M hl hs l.length 0 k (by omega) hk
  simp only [if_true]
  rw [show (0 : Int) = ((0 : Nat) : Int) from rfl, h]
  rfl

theorem equalNil (l : List S32) (k : Nat) (hk : 1 ≤ k) : slices_Equal_impl_Tag_impl_Tag.f k l ([] : List S32) = some (decide (l.length = 0)) := by
  obtain ⟨k, rfl⟩ : ∃ j, k = j + 1 := ⟨k - 1, by omega⟩
  unfold slices_Equal_impl_Tag_impl_Tag.f
  by_cases h : l.length = 0
  · rw [if_pos (by rw [h]; rfl), decide_eq_true h]
    simp only [slices_Equal_impl_Tag_impl_Tag.l0, h, Int.ofNat_zero, Int.natCast_zero, Int.lt_irrefl, if_false]
  · rw [if_neg (by rw [List.length_nil]; omega), decide_eq_false h]

def okV (i : Int) (v : S56) (E : Bool) : Bool := (decide (v.f0 = 0) && (v.f1.f0 == 0 && (v.f1.f1 == 0)) && decide (v.f2.f0.length = 0) && decide (v.f3.toList = []) && !v.f4) || (E && decide (v.f0 = i))

theorem implStore_step (l : List S56) (hl : l.length ≤ 8796093021952) (i k : Nat) (hil : i < l.length) (hk : 1 ≤ k) (E b : Bool) (hv : impl_VerOk.f k l[i].f0 l[i].f1.f0 l[i].f1.f1 l[i].f2.f0 l[i].f3 l[i].f4 = some E) (hb : impl_StoreOk.l0 k l (l.length : Int) ((i + 1 : Nat) : Int) l = some b) : impl_StoreOk.l0 (k + 1) l (l.length : Int) (i : Int) l = some (if okV (i : Int) l[i] E = true then b else false) := by
  have hw := wn (show l.length ≤ 4611686018427387904 from by omega) hil
  simp only [impl_StoreOk.l0, impl_Ver_same.f, rdVer_eq l i hil, if_pos (cast_lt hil), if_pos (cast_nn i), hv, equalNil _ k hk, hw, hb, okV]
  generalize l[i] = v
  have hn : (⟨#[]⟩ : ByteArray).toList = [] := by first | (simp; done) | (unfold ByteArray.toList ByteArray.toList.loop; rfl) | (unfold ByteArray.toList ByteArray.toList.loop; simp; done)
  rcases Bool.eq_false_or_eq_true (v.f1.f0 == 0 && (v.f1.f1 == 0)) with hZ | hZ <;> rcases Bool.eq_false_or_eq_true v.f4 with hF | hF <;> rcases Classical.propComplete (v.f0 = 0) with c0 | c0 <;> rcases Classical.propComplete (v.f2.f0.length = 0) with c2 | c2 <;> rcases Classical.propComplete (v.f3.toList = []) with c3 | c3 <;> rcases Classical.propComplete (v.f0 = (i : Int)) with c5 | c5 <;> cases E <;> simp only [hn, hZ, hF, c0, c2, c3, c5, if_true, if_false, decide_true, decide_false, Option.bind_some, Bool.false_eq_true, Bool.true_and, Bool.and_true, Bool.false_and, Bool.and_false, Bool.or_true, Bool.true_or, Bool.or_false, Bool.not_true, Bool.not_false, beq_self_eq_true, show (true == false) = false from rfl]

theorem specStore_step (l : List S56) (hl : l.length ≤ 8796093021952) (i k : Nat) (hil : i < l.length) (E b : Bool) (hv : spec_l2Ok.f (k + 1) l[i].f0 l[i].f1.f0 l[i].f1.f1 l[i].f2.f0 l[i].f3 l[i].f4 = some E) (hE : l[i].f1.f0 = 0 → E = false) (hb : spec_l2StoreOk.l0 k ((i + 1 : Nat) : Int) l = some b) : spec_l2StoreOk.l0 (k + 1 + 1) (i : Int) l = some (if okV (i : Int) l[i] E = true then b else false) := by
  have hw := wn (show l.length ≤ 4611686018427387904 from by omega) hil
  simp only [spec_l2StoreOk.l0, spec_l2StoreOk.j1, rdVer_eq l i hil, if_pos (cast_lt hil), if_pos (cast_nn i), hv, hw, hb, okV, Option.bind_some]
  revert hE
  generalize l[i] = v
  intro hE
  by_cases c1 : v.f1.f0 = 0 ∧ v.f1.f1 = 0
  · have h0 := hE c1.1
    subst h0
    by_cases c0 : v.f0 = 0 <;> by_cases c2 : v.f2.f0.length = 0 <;> by_cases c3 : v.f3.toList = [] <;> by_cases c4 : v.f4 = true <;> simp [c0, c1.1, c1.2, c2, c3, c4] <;> omega
  · have h1 : (v.f1.f0 == 0 && (v.f1.f1 == 0)) = false := by
      rw [Bool.and_eq_false_iff, beq_eq_false_iff_ne, beq_eq_false_iff_ne]
      omega
    have h2 : (!(v.f1.f0 == 0) || (!(v.f1.f1 == 0))) = true := by
      rw [← Bool.not_and, h1]
      rfl
    cases E <;> by_cases c5 : v.f0 = (i : Int) <;> simp [h1, h2, c5]

theorem storeOk_l0 (l : List S56) (M : Nat) (hl : l.length ≤ 8796093021952) (hs : ∀ y ∈ l, Small M y) : ∀ (m i : Nat), i + m = l.length → ∃ b, ∀ k, 2 * m + M + 10 < k → spec_l2StoreOk.l0 k (i : Int) l = some b ∧ impl_StoreOk.l0 k l (l.length : Int) (i : Int) l = some b := by
  intro m
  induction m with
  | zero =>
    intro i hi
    refine ⟨((l.length : Int) == 4), fun k hk => ?_⟩
    obtain ⟨k, rfl⟩ : ∃ j, k = j + 1 := ⟨k - 1, by omega⟩
    have e : i = l.length := by omega
    subst e
    simp only [spec_l2StoreOk.l0, impl_StoreOk.l0, Int.lt_irrefl, if_false, and_self]
  | succ m ih =>
    intro i hi
    have hil : i < l.length := by omega
    have hsz := hs l[i] (List.getElem_mem hil)
    unfold Small at hsz
    obtain ⟨b, hb⟩ := ih (i + 1) (by omega)
    obtain ⟨tb, htb⟩ := text_l0 l[i].f3 (by omega) l[i].f3.size 0 (by omega)
    refine ⟨if okV (i : Int) l[i] (verOk tb l[i].f0 l[i].f1.f0 l[i].f1.f1 l[i].f2.f0 l[i].f3 l[i].f4) = true then b else false, fun k hk => ?_⟩
    obtain ⟨k, rfl⟩ : ∃ j, k = j + 1 + 1 := ⟨k - 2, by omega⟩
    have ht1 := htb (k + 1) (by omega)
    refine ⟨specStore_step l hl i k hil _ b (l2Ok_eq l[i].f2.f0 hsz.2.1 l[i].f0 l[i].f1.f0 l[i].f1.f1 l[i].f3 l[i].f4 tb (k + 1) (by omega) (by omega) ht1.1) (fun h => ?_) (hb k (by omega)).1, implStore_step l hl i (k + 1) hil (by omega) _ b (implVerOk_eq l[i].f2.f0 hsz.2.1 l[i].f0 l[i].f1.f0 l[i].f1.f1 l[i].f3 l[i].f4 tb (k + 1) (by omega) ht1.2) (hb (k + 1) (by omega)).2⟩
    unfold verOk
    simp [h]

theorem FnExactStoreOk : laws_FnExactStoreOk.Pure := by
  intro l hl
  have hl' : l.length ≤ 1954687338212 := by have := hl.1; omega
  have hs : ∀ y ∈ l, SmallL 140737488351232 y := by
    intro y hy
    have h := hl.2 y hy
    have h2 := h.2.2.1.1
    have h3 := h.2.2.2.1
    refine ⟨?_, ?_, h3, h3⟩ <;> omega
  have hs2 : ∀ y ∈ l.map convVer, Small 140737488351232 y := by
    intro y hy
    obtain ⟨z, hz, rfl⟩ := List.mem_map.mp hy
    exact small_conv _ z (hs z hz)
  obtain ⟨K, hK⟩ : ∃ K : Nat, 2 * l.length + 140737488351232 + 10 < K := ⟨_, Nat.lt_succ_self _⟩
  refine ⟨K, ?_⟩
  have hm : (l.map convVer).length = l.length := List.length_map ..
  obtain ⟨t, ht, h⟩ := szStore_cases l 140737488351232 (by omega) hs K (by omega) 1048576 (by omega) (by omega)
  obtain ⟨b, hb⟩ := storeOk_l0 (l.map convVer) 140737488351232 (by omega) hs2 l.length 0 (by omega)
  have hb1 := (hb K (by omega)).1
  have hb2 := (hb K (by omega)).2
  have hb3 : spec_l2StoreOk.f K (l.map convVer) = some b := hb1
  have hb4 : impl_StoreOk.f K (l.map convVer) = some b := hb2
  unfold laws_FnExactStoreOk.f spec_StoreOk.f
  simp only [ht, Option.bind_some]
  split
  · rfl
  · simp only [toStore_eq l 140737488351232 hl' hs K (by omega), Option.bind_some, hb3, hb4, bne_self_eq_false, Bool.false_eq_true, if_false, eqStore_refl (l.map convVer) 140737488351232 (by omega) hs2 K (by omega), if_true]

end Go.Proofs.Ytjpacbedcocohaa.PureFnExactStoreOk
namespace Go.Proofs.Ytjpacbedcocohaa.Pure
theorem FnExactStoreOk : Go.Proofs.Ytjpacbedcocohaa.PFnExactStoreOk.laws_FnExactStoreOk.Pure := Go.Proofs.Ytjpacbedcocohaa.PureFnExactStoreOk.FnExactStoreOk
end Go.Proofs.Ytjpacbedcocohaa.Pure
