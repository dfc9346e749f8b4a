/- The pure law behind FnExactVerOk, over the functions that were printed of the program: for every version the program's VerOk and the reference's VerOk say the same, and the version is left as it was. No condition beyond the form's own: each string and each slice that is handed in takes at most 2^47 - 4096 bytes. -/
import Derived.Test.YtfkoecaejfkjpaaPFnExactVerOkx7
set_option linter.unusedVariables false
set_option linter.unusedSimpArgs false
namespace Go.Proofs.Ytfkoecaejfkjpaa.PureFnExactVerOk
open Go.RowKit Go.Proofs.Ytfkoecaejfkjpaa.PFnExactVerOk Go.Proofs.YtfkoecaejfkjpaaV.PrintWords Go.Proofs.YtfkoecaejfkjpaaV.PrintLast Go.Proofs.YtfkoecaejfkjpaaV.PrintMore

theorem w64 {i : Int} (h0 : -9223372036854775808 ≤ i) (h1 : i ≤ 9223372036854775807) : wrap64 i = i := by
  unfold wrap64
  omega

theorem within_eq (a b c : Int) : impl_within.f a b c = some (decide (b ≤ a) && decide (a ≤ c)) := by
  unfold impl_within.f
  split <;> simp_all <;> omega

theorem in_eq (a b c : Int) : spec_l1In.f a b c = some (decide (b ≤ a) && decide (a ≤ c)) := by
  unfold spec_l1In.f
  split <;> simp_all <;> omega

def tagOk (a b : Int) : Bool := (a == 0 && b == 0) || (decide (1 ≤ a) && decide (a ≤ 999) && decide (0 ≤ b) && decide (b ≤ 2))

theorem tagOk_eq (a b : Int) : impl_TagOk.f a b = some (tagOk a b) := by
  unfold impl_TagOk.f impl_placeOk.f tagOk
  simp only [within_eq, Option.bind_some]
  split
  · rename_i h; rw [h]; rfl
  · rename_i h; rw [Bool.not_eq_true] at h; rw [h, Bool.false_or]
    split <;> simp_all <;> omega

theorem l1TagOk_eq (a b : Int) : spec_l1TagOk.f a b = some (tagOk a b) := by
  unfold spec_l1TagOk.f tagOk
  simp only [in_eq, Option.bind_some]
  split
  · rename_i h; rw [h]; rfl
  · rename_i h; rw [Bool.not_eq_true] at h; rw [h, Bool.false_or]
    split <;> simp_all <;> omega

theorem eqTag_refl (a b : Int) : laws_eqTag.f a b a b = some true := by
  simp [laws_eqTag.f]

theorem wn {i n : Nat} (hn : n ≤ 4611686018427387904) (hi : i < n) : wrap64 ((i : Int) + 1) = ((i + 1 : Nat) : Int) := by
  rw [w64 (by omega) (by omega)]
  omega

theorem set_take {α : Type} (x : List α) (i : Nat) (v : α) (h : i < x.length) : (x.set i v).take (i + 1) = x.take i ++ [v] := by
  rw [List.take_succ_eq_append_getElem (by rw [List.length_set]; exact h), List.take_set_of_le (Nat.le_refl _), List.getElem_set_self]

theorem cast_lt {i n : Nat} (h : i < n) : ((i : Int) < (n : Int)) := by omega

theorem cast_nn (i : Nat) : (0 : Int) ≤ (i : Int) := by omega

theorem rdTag_eq (l : List S26) (i : Nat) (h : i < l.length) : rd_T26 l (i : Int) = l[i] := by
  unfold rd_T26
  rw [Int.toNat_natCast, List.getD_eq_getElem?_getD, List.getElem?_eq_getElem h]
  rfl

theorem rdTagL_eq (l : List S24) (i : Nat) (h : i < l.length) : rd_T24 l (i : Int) = l[i] := by
  unfold rd_T24
  rw [Int.toNat_natCast, List.getD_eq_getElem?_getD, List.getElem?_eq_getElem h]
  rfl

theorem szPast_cases (l : List S24) (hl : l.length ≤ 8796093021952) (a : Int) (h0 : 0 ≤ a) (h1 : a ≤ 1048576) : ∃ t, laws_szPast.f l a = some t ∧ (t < 0 ∨ 0 ≤ t ∧ t ≤ a ∧ l.length ≤ 1048576) := by
  unfold laws_szPast.f laws_szTagS.f
  rw [w64 (by omega) (by omega)]
  by_cases h : a - (l.length : Int) < 0
  · refine ⟨-1, ?_, Or.inl (by omega)⟩
    simp [h]
  · refine ⟨a - l.length, ?_, Or.inr (by omega)⟩
    simp [h]

def convTag (x : S24) : S26 := ⟨x.f0, x.f1⟩

theorem toTagS_l0 (l : List S24) (hl : l.length ≤ 8796093021952) : ∀ (m i k : Nat) (x : List S26), i + m = l.length → m < k → x.length = l.length → laws_toTagS.l0 k l x (i : Int) = some (x.take i ++ (l.drop i).map convTag) := by
  intro m
  induction m with
  | zero =>
    intro i k x hi hk hx
    obtain ⟨k, rfl⟩ : ∃ j, k = j + 1 := ⟨k - 1, by omega⟩
    have e : i = l.length := by omega
    subst e
    simp only [laws_toTagS.l0, Int.lt_irrefl, if_false]
    rw [List.drop_length, List.map_nil, List.append_nil, ← hx, List.take_length]
  | succ m ih =>
    intro i k x hi hk hx
    obtain ⟨k, rfl⟩ : ∃ j, k = j + 1 := ⟨k - 1, by omega⟩
    have hil : i < l.length := by omega
    have hix : i < x.length := by omega
    simp only [laws_toTagS.l0, laws_toTag.f, Option.bind_some, if_pos (cast_lt hil), if_pos (cast_lt hix), if_pos (cast_nn i), rdTagL_eq l i hil, Int.toNat_natCast]
    rw [wn (by omega) hil, ih (i + 1) k _ (by omega) (by omega) (by rw [List.length_set]; exact hx), set_take x i _ hix, List.drop_eq_getElem_cons hil, List.map_cons, List.append_assoc]
    rfl

theorem toTagS_eq (l : List S24) (hl : l.length ≤ 8796093021952) (k : Nat) (hk : l.length < k) : laws_toTagS.f k l = some (l.map convTag) := by
  unfold laws_toTagS.f
  rw [if_pos (cast_nn _), Int.toNat_natCast, if_pos (by omega)]
  have h := toTagS_l0 l hl l.length 0 k (List.replicate l.length z26) (by omega) hk (by rw [List.length_replicate])
  rw [List.take_zero, List.nil_append, List.drop_zero] at h
  exact h

theorem toPast_eq (l : List S24) (hl : l.length ≤ 8796093021952) (k : Nat) (hk : l.length < k) : laws_toPast.f k l = some (l.map convTag) := by
  unfold laws_toPast.f
  rw [toTagS_eq l hl k hk]
  rfl

theorem eqTagS_l0 (l : List S26) (hl : l.length ≤ 8796093021952) : ∀ (m i k : Nat), i + m = l.length → m < k → laws_eqTagS.l0 k l l (i : Int) = some true := by
  intro m
  induction m with
  | zero =>
    intro i k hi hk
    obtain ⟨k, rfl⟩ : ∃ j, k = j + 1 := ⟨k - 1, by omega⟩
    have e : i = l.length := by omega
    subst e
    simp only [laws_eqTagS.l0, Int.lt_irrefl, if_false]
  | succ m ih =>
    intro i k hi hk
    obtain ⟨k, rfl⟩ : ∃ j, k = j + 1 := ⟨k - 1, by omega⟩
    have hil : i < l.length := by omega
    simp only [laws_eqTagS.l0, eqTag_refl, Option.bind_some, if_pos (cast_lt hil), if_pos (cast_nn i), if_true]
    rw [wn (by omega) hil, ih (i + 1) k (by omega) (by omega)]

theorem eqPast_refl (l : List S26) (hl : l.length ≤ 8796093021952) (k : Nat) (hk : l.length < k) : laws_eqPast.f k l l = some true := by
  unfold laws_eqPast.f laws_eqTagS.f
  have h := eqTagS_l0 l hl l.length 0 k (by omega) hk
  simp only [if_true]
  rw [show (0 : Int) = ((0 : Nat) : Int) from rfl, h]
  rfl

def pastOk (l : List S26) : Bool := ((l.length : Int) == 4) && l.all (fun t => tagOk t.f0 t.f1)

theorem pastOk_len (x : List S26) (h : pastOk x = true) : x.length = 4 := by
  unfold pastOk at h
  rw [Bool.and_eq_true, beq_iff_eq] at h
  omega

theorem l1PastOk_l0 (l : List S26) (hl : l.length ≤ 8796093021952) : ∀ (m i k : Nat), i + m = l.length → m < k → spec_l1PastOk.l0 k (i : Int) l = some ((l.drop i).all (fun t => tagOk t.f0 t.f1) && ((l.length : Int) == 4)) := by
  intro m
  induction m with
  | zero =>
    intro i k hi hk
    obtain ⟨k, rfl⟩ : ∃ j, k = j + 1 := ⟨k - 1, by omega⟩
    have e : i = l.length := by omega
    subst e
    simp only [spec_l1PastOk.l0, Int.lt_irrefl, if_false, List.drop_length, List.all_nil, Bool.true_and]
  | succ m ih =>
    intro i k hi hk
    obtain ⟨k, rfl⟩ : ∃ j, k = j + 1 := ⟨k - 1, by omega⟩
    have hil : i < l.length := by omega
    simp only [spec_l1PastOk.l0, l1TagOk_eq, Option.bind_some, if_pos (cast_lt hil), if_pos (cast_nn i), rdTag_eq l i hil]
    rw [wn (by omega) hil, ih (i + 1) k (by omega) (by omega), List.drop_eq_getElem_cons hil, List.all_cons]
    split
    · rename_i h
      rw [h, Bool.true_and]
    · rename_i h
      rw [Bool.not_eq_true] at h
      rw [h, Bool.false_and, Bool.false_and]

theorem l1PastOk_eq (l : List S26) (hl : l.length ≤ 8796093021952) (k : Nat) (hk : l.length < k) : spec_l1PastOk.f k l = some (pastOk l) := by
  have h := l1PastOk_l0 l hl l.length 0 k (by omega) hk
  rw [List.drop_zero, Bool.and_comm] at h
  exact h

theorem notTag_l0 (l : List S26) (hl : l.length ≤ 8796093021952) : ∀ (m i k : Nat), i + m = l.length → m < k → ∃ r, slices_IndexFunc_impl_Tag_impl_Tag_PastOk_lit1.l0 k l (l.length : Int) (i : Int) = some r ∧ decide (r ≥ 0) = !(l.drop i).all (fun t => tagOk t.f0 t.f1) := by
  intro m
  induction m with
  | zero =>
    intro i k hi hk
    obtain ⟨k, rfl⟩ : ∃ j, k = j + 1 := ⟨k - 1, by omega⟩
    have e : i = l.length := by omega
    subst e
    refine ⟨-1, ?_, ?_⟩
    · simp only [slices_IndexFunc_impl_Tag_impl_Tag_PastOk_lit1.l0, Int.lt_irrefl, if_false]
    · rw [List.drop_length]
      rfl
  | succ m ih =>
    intro i k hi hk
    obtain ⟨k, rfl⟩ : ∃ j, k = j + 1 := ⟨k - 1, by omega⟩
    have hil : i < l.length := by omega
    simp only [slices_IndexFunc_impl_Tag_impl_Tag_PastOk_lit1.l0, impl_PastOk_lit1.f, tagOk_eq, Option.bind_some, if_pos (cast_lt hil), if_pos (cast_nn i), rdTag_eq l i hil]
    rw [wn (by omega) hil, List.drop_eq_getElem_cons hil, List.all_cons]
    by_cases h : tagOk l[i].f0 l[i].f1 = true
    · rw [h, Bool.true_and]
      exact ih (i + 1) k (by omega) (by omega)
    · rw [Bool.not_eq_true] at h
      rw [h, Bool.false_and]
      exact ⟨(i : Int), rfl, decide_eq_true (cast_nn i)⟩

theorem implPastOk_eq (l : List S26) (hl : l.length ≤ 8796093021952) (k : Nat) (hk : l.length < k) : impl_PastOk.f k l = some (pastOk l) := by
  unfold impl_PastOk.f slices_ContainsFunc_impl_Tag_impl_Tag_PastOk_lit1.f slices_IndexFunc_impl_Tag_impl_Tag_PastOk_lit1.f pastOk
  obtain ⟨r, h1, h2⟩ := notTag_l0 l hl l.length 0 k (by omega) hk
  rw [List.drop_zero] at h2
  rw [show ((0 : Nat) : Int) = 0 from rfl] at h1
  rw [h1]
  simp only [Option.bind_some, h2, Bool.not_not]
  by_cases h : (l.length : Int) = 4
  · rw [if_pos h, h]
    rfl
  · rw [if_neg h, beq_eq_false_iff_ne.mpr h, Bool.false_and]

theorem bt_w64 (s : ByteArray) (i : Int) : wrap64 (bt s i) = bt s i := by
  have h := bt_range s i
  exact w64 (by omega) (by omega)

theorem text_l0 (a : ByteArray) (ha : a.size ≤ 140737488355328) : ∀ (m i : Nat), i + m = a.size → ∃ b, ∀ k, m < k → spec_l2TextOk.l0 k a (i : Int) = some b ∧ impl_textOk.l0 k a (a.size : Int) (i : Int) = some b := by
  intro m
  induction m with
  | zero =>
    intro i hi
    have e : i = a.size := by omega
    subst e
    refine ⟨decide ((a.size : Int) ≤ 8), fun k hk => ?_⟩
    obtain ⟨k, rfl⟩ : ∃ j, k = j + 1 := ⟨k - 1, by omega⟩
    simp only [spec_l2TextOk.l0, impl_textOk.l0, Int.lt_irrefl, if_false, and_self]
  | succ m ih =>
    intro i hi
    have hil : i < a.size := by omega
    obtain ⟨b, hb⟩ := ih (i + 1) (by omega)
    by_cases h : 33 ≤ bt a (i : Int) ∧ bt a (i : Int) ≤ 126
    · refine ⟨b, fun k hk => ?_⟩
      obtain ⟨k, rfl⟩ : ∃ j, k = j + 1 := ⟨k - 1, by omega⟩
      have h2 := hb k (by omega)
      simp only [spec_l2TextOk.l0, impl_textOk.l0, if_pos (cast_lt hil), if_pos (cast_nn i), bt_w64, within_eq, Option.bind_some, wn (show a.size ≤ 4611686018427387904 from by omega) hil, if_neg (show ¬ (bt a (i : Int) < 33) from by omega), if_neg (show ¬ (bt a (i : Int) > 126) from by omega), decide_eq_true h.1, decide_eq_true h.2, Bool.and_self, if_true]
      exact h2
    · refine ⟨false, fun k hk => ?_⟩
      obtain ⟨k, rfl⟩ : ∃ j, k = j + 1 := ⟨k - 1, by omega⟩
      simp only [spec_l2TextOk.l0, impl_textOk.l0, if_pos (cast_lt hil), if_pos (cast_nn i), bt_w64, within_eq, Option.bind_some]
      by_cases h1 : bt a (i : Int) < 33
      · rw [if_pos h1, decide_eq_false (show ¬ (33 ≤ bt a (i : Int)) from by omega)]
        exact ⟨rfl, rfl⟩
      · rw [if_neg h1, if_pos (show bt a (i : Int) > 126 from by omega), decide_eq_false (show ¬ (bt a (i : Int) ≤ 126) from by omega), Bool.and_false]
        exact ⟨rfl, rfl⟩

theorem undr_l0 (l : List S26) (hl : l.length = 4) (a0 a1 a2 : Int) (t : ByteArray) (g : Bool) : ∀ (m i k : Nat), i + m = 4 → m < k → spec_l2Ok.l0 k (i : Int) a0 a1 a2 l t g = some ((l.drop i).all (fun p => decide (p.f0 < a1))) := by
  intro m
  induction m with
  | zero =>
    intro i k hi hk
    obtain ⟨k, rfl⟩ : ∃ j, k = j + 1 := ⟨k - 1, by omega⟩
    have e : i = 4 := by omega
    subst e
    rw [← hl, List.drop_length, List.all_nil]
    simp only [spec_l2Ok.l0, show ¬ (((l.length : Nat) : Int) < 4) from by omega, if_false]
  | succ m ih =>
    intro i k hi hk
    obtain ⟨k, rfl⟩ : ∃ j, k = j + 1 := ⟨k - 1, by omega⟩
    have hil : i < l.length := by omega
    simp only [spec_l2Ok.l0, if_pos (show ((i : Int) < 4) from by omega), if_pos (cast_lt hil), if_pos (cast_nn i), rdTag_eq l i hil]
    rw [wn (by omega) hil, ih (i + 1) k (by omega) (by omega), List.drop_eq_getElem_cons hil, List.all_cons]
    split
    · rename_i h
      rw [decide_eq_false (show ¬ (l[i].f0 < a1) from by omega), Bool.false_and]
    · rename_i h
      rw [decide_eq_true (show (l[i].f0 < a1) from by omega), Bool.true_and]

theorem l2Ok_j0 (l : List S26) (b : Bool) (hl : b = false → l.length = 4) (a0 a1 a2 : Int) (t : ByteArray) (g : Bool) (k : Nat) (hk : 6 ≤ k) : spec_l2Ok.j0 k b a0 a1 a2 l t g = some (!b && l.all (fun p => decide (p.f0 < a1))) := by
  obtain ⟨k, rfl⟩ : ∃ j, k = j + 1 := ⟨k - 1, by omega⟩
  cases b with
  | true => simp only [spec_l2Ok.j0, if_true, Bool.not_true, Bool.false_and]
  | false =>
    have h := undr_l0 l (hl rfl) a0 a1 a2 t g 4 0 k (by omega) (by omega)
    rw [List.drop_zero] at h
    simp only [spec_l2Ok.j0, Bool.false_eq_true, if_false, Bool.not_false, Bool.true_and]
    exact h

theorem latest_l0 (l : List S26) (hl : l.length ≤ 8796093021952) : ∀ (m i k : Nat) (x : Int), i + m = l.length → m < k → ∃ r, impl_Past_latest.l0 k x l (l.length : Int) (i : Int) = some r ∧ ∀ a, decide (a > r) = (decide (a > x) && (l.drop i).all (fun p => decide (p.f0 < a))) := by
  intro m
  induction m with
  | zero =>
    intro i k x hi hk
    obtain ⟨k, rfl⟩ : ∃ j, k = j + 1 := ⟨k - 1, by omega⟩
    have e : i = l.length := by omega
    subst e
    refine ⟨x, ?_, fun a => ?_⟩
    · simp only [impl_Past_latest.l0, Int.lt_irrefl, if_false]
    · rw [List.drop_length, List.all_nil, Bool.and_true]
  | succ m ih =>
    intro i k x hi hk
    obtain ⟨k, rfl⟩ : ∃ j, k = j + 1 := ⟨k - 1, by omega⟩
    have hil : i < l.length := by omega
    obtain ⟨r, h1, h2⟩ := ih (i + 1) k (mx x l[i].f0) (by omega) (by omega)
    refine ⟨r, ?_, fun a => ?_⟩
    · simp only [impl_Past_latest.l0, if_pos (cast_lt hil), if_pos (cast_nn i), rdTag_eq l i hil]
      rw [wn (by omega) hil]
      exact h1
    · rw [h2, List.drop_eq_getElem_cons hil, List.all_cons, ← Bool.and_assoc]
      congr 1
      unfold mx
      rw [← Bool.decide_and, decide_eq_decide]
      split <;> omega

def verOk (tb : Bool) (a0 a1 a2 : Int) (l : List S26) (t : ByteArray) (g : Bool) : Bool := (decide (0 ≤ a0) && decide (a0 ≤ 3)) && (tb && (tagOk a1 a2 && (!decide (a1 = 0) && ((!g || decide (t.toList = [])) && (pastOk l && l.all (fun p => decide (p.f0 < a1)))))))

theorem l2Ok_eq (l : List S26) (hl : l.length ≤ 8796093021952) (a0 a1 a2 : Int) (t : ByteArray) (g tb : Bool) (k : Nat) (hk : 6 ≤ k) (hlk : l.length < k) (ht : spec_l2TextOk.f k t = some tb) : spec_l2Ok.f k a0 a1 a2 l t g = some (verOk tb a0 a1 a2 l t g) := by
  unfold spec_l2Ok.f verOk
  have j1 := l2Ok_j0 l true (by simp) a0 a1 a2 t g k hk
  have j2 := l2Ok_j0 l (!pastOk l) (fun h => pastOk_len l (by rw [Bool.not_eq_false'] at h; exact h)) a0 a1 a2 t g k hk
  simp only [in_eq, ht, l1TagOk_eq, Option.bind_some, l1PastOk_eq l hl k hlk, j1, j2, Bool.not_not, Bool.not_true, Bool.false_and]
  generalize (decide (0 ≤ a0) && decide (a0 ≤ 3)) = A
  generalize tagOk a1 a2 = B
  generalize (pastOk l && l.all (fun p => decide (p.f0 < a1))) = C
  by_cases h0 : a1 = 0 <;> by_cases h1 : t.toList = [] <;> cases A <;> cases tb <;> cases B <;> cases g <;> simp [h0, h1]

theorem tagOk_nn (a b : Int) (h : tagOk a b = true) : 0 ≤ a := by
  unfold tagOk at h
  simp only [Bool.or_eq_true, Bool.and_eq_true, beq_iff_eq, decide_eq_true_eq] at h
  omega

theorem implVerOk_eq (l : List S26) (hl : l.length ≤ 8796093021952) (a0 a1 a2 : Int) (t : ByteArray) (g tb : Bool) (k : Nat) (hlk : l.length < k) (ht : impl_textOk.f k t = some tb) : impl_VerOk.f k a0 a1 a2 l t g = some (verOk tb a0 a1 a2 l t g) := by
  obtain ⟨r, h1, h2⟩ := latest_l0 l hl l.length 0 k 0 (by omega) hlk
  have h3 := h2 a1
  rw [List.drop_zero] at h3
  have h4 : impl_Past_latest.f k l = some r := h1
  unfold impl_VerOk.f impl_Ver_written.f impl_keyOk.f verOk
  simp only [within_eq, ht, tagOk_eq, Option.bind_some, implPastOk_eq l hl k hlk, h4, h3]
  have h5 : tagOk a1 a2 = true → decide (a1 > 0) = !decide (a1 = 0) := fun h => by
    have := tagOk_nn a1 a2 h
    by_cases h6 : a1 = 0
    · rw [h6]
      rfl
    · rw [decide_eq_true (show a1 > 0 from by omega), decide_eq_false h6]
      rfl
  revert h5
  generalize (decide (0 ≤ a0) && decide (a0 ≤ 3)) = A
  generalize tagOk a1 a2 = B
  generalize pastOk l = C
  generalize l.all (fun p => decide (p.f0 < a1)) = D
  generalize decide (a1 > 0) = E
  generalize decide (a1 = 0) = G
  intro h5
  by_cases h7 : t.toList = [] <;> cases A <;> cases tb <;> cases B <;> cases C <;> cases g <;> simp [h7] <;> simp_all

theorem szVer_cases (a0 a1 a2 : Int) (l : List S24) (t : ByteArray) (g : Bool) (hl : l.length ≤ 8796093021952) (ht : t.size ≤ 140737488351232) (a : Int) (h0 : 0 ≤ a) (h1 : a ≤ 1048576) : ∃ s, laws_szVer.f a0 a1 a2 l t g a = some s ∧ (s < 0 ∨ 0 ≤ s ∧ s ≤ a ∧ l.length ≤ 1048576 ∧ t.size ≤ 1048576) := by
  unfold laws_szVer.f
  obtain ⟨s, hs, h⟩ := szPast_cases l hl a h0 h1
  simp only [hs, Option.bind_some]
  by_cases h2 : s < 0
  · rw [if_pos h2]
    exact ⟨-1, rfl, Or.inl (by omega)⟩
  · rw [if_neg h2, w64 (by omega) (by omega)]
    by_cases h3 : s - (t.size : Int) < 0
    · rw [if_pos h3]
      exact ⟨-1, rfl, Or.inl (by omega)⟩
    · rw [if_neg h3]
      exact ⟨_, rfl, Or.inr (by omega)⟩

theorem toVer_eq (a0 a1 a2 : Int) (l : List S24) (t : ByteArray) (g : Bool) (hl : l.length ≤ 8796093021952) (k : Nat) (hk : l.length < k) : laws_toVer.f k a0 a1 a2 l t g = some (a0, a1, a2, l.map convTag, t, g) := by
  unfold laws_toVer.f laws_toTag.f
  simp only [Option.bind_some, toPast_eq l hl k hk]

theorem eqVer_refl (a0 a1 a2 : Int) (l : List S26) (t : ByteArray) (g : Bool) (hl : l.length ≤ 8796093021952) (k : Nat) (hk : l.length < k) : laws_eqVer.f k a0 a1 a2 l t g a0 a1 a2 l t g = some true := by
  unfold laws_eqVer.f
  simp only [eqTag_refl, Option.bind_some, eqPast_refl l hl k hk, if_true, bne_self_eq_false, Bool.false_eq_true, if_false]

theorem FnExactVerOk : laws_FnExactVerOk.Pure := by
  intro a0 a1 a2 l t g _ _ _ hl ht
  have hl' : l.length ≤ 8796093021952 := by have := hl.1; omega
  refine ⟨l.length + t.size + 8, ?_⟩
  have hm : (l.map convTag).length = l.length := List.length_map ..
  obtain ⟨tb, htb⟩ := text_l0 t (by omega) t.size 0 (by omega)
  have h1 := htb (l.length + t.size + 8) (by omega)
  unfold laws_FnExactVerOk.f spec_VerOk.f
  obtain ⟨s, hs, h⟩ := szVer_cases a0 a1 a2 l t g hl' ht 1048576 (by omega) (by omega)
  simp only [hs, Option.bind_some]
  split
  · rfl
  · simp only [toVer_eq a0 a1 a2 l t g hl' (l.length + t.size + 8) (by omega), Option.bind_some, l2Ok_eq (l.map convTag) (by omega) a0 a1 a2 t g tb (l.length + t.size + 8) (by omega) (by omega) h1.1, implVerOk_eq (l.map convTag) (by omega) a0 a1 a2 t g tb (l.length + t.size + 8) (by omega) h1.2, bne_self_eq_false, Bool.false_eq_true, if_false, eqVer_refl a0 a1 a2 (l.map convTag) t g (by omega) (l.length + t.size + 8) (by omega), if_true]

end Go.Proofs.Ytfkoecaejfkjpaa.PureFnExactVerOk
namespace Go.Proofs.Ytfkoecaejfkjpaa.Pure
theorem FnExactVerOk : Go.Proofs.Ytfkoecaejfkjpaa.PFnExactVerOk.laws_FnExactVerOk.Pure := Go.Proofs.Ytfkoecaejfkjpaa.PureFnExactVerOk.FnExactVerOk
end Go.Proofs.Ytfkoecaejfkjpaa.Pure
