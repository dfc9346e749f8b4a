/- The pure law behind FnTagMax, over the functions that were printed of the program: for every run of bytes, the program's TagMax on the two tags drawn from it says what the reference's TagMax says, it is one of the two, and neither is above it. No condition beyond the form's own: each string and each slice that is handed in takes at most 2^47 - 4096 bytes. -/
import Derived.Test.YtfkoecaejfkjpaaPFnTagMaxx4
set_option linter.unusedVariables false
set_option linter.unusedSimpArgs false
namespace Go.Proofs.Ytfkoecaejfkjpaa.PureFnTagMax
open Go.RowKit Go.Proofs.Ytfkoecaejfkjpaa.PFnTagMax Go.Proofs.YtfkoecaejfkjpaaV.PrintWords Go.Proofs.YtfkoecaejfkjpaaV.PrintLast Go.Proofs.YtfkoecaejfkjpaaV.PrintMore

theorem w64 {i : Int} (h0 : -9223372036854775808 ≤ i) (h1 : i ≤ 9223372036854775807) : wrap64 i = i := by
  unfold wrap64
  omega

theorem or2_eq (k : Nat) (a b : Int) : cmp_Or_int.f (k + 3) [a, b] = some (if a = 0 then b else a) := by
  have h0 : ∀ x : Int, rd [x, b] 0 = x := fun x => rfl
  have h1 : ∀ x : Int, rd [x, b] 1 = b := fun x => rfl
  have w0 : wrap64 (0 + 1) = 1 := by decide +kernel
  have w1 : wrap64 (1 + 1) = 2 := by decide +kernel
  simp only [cmp_Or_int.f, cmp_Or_int.l0, h0, h1, w0, w1, List.length_cons, List.length_nil]
  simp only [show ((0 : Int) < ((0 + 1 + 1 : Nat) : Int)) from by decide, show ((1 : Int) < ((0 + 1 + 1 : Nat) : Int)) from by decide, show ¬ ((2 : Int) < ((0 + 1 + 1 : Nat) : Int)) from by decide, show ((0 : Int) ≤ 0) from by decide, show ((0 : Int) ≤ 1) from by decide, if_true, if_false]
  split
  · split <;> simp_all
  · rfl

def tagLess (a b c d : Int) : Bool := decide (a < c) || (decide (a = c) && decide (b < d))

def tagMax (a b c d : Int) : Int × Int := if tagLess a b c d = true then (c, d) else (a, b)

theorem max_eq (a b c d : Int) : spec_TagMax.f a b c d = some (tagMax a b c d) := by
  have h : spec_l1Less.f a b c d = some (tagLess a b c d) := by
    unfold spec_l1Less.f tagLess
    by_cases h : a < c
    · simp [h]
    · by_cases h2 : a = c <;> simp [h, h2]
  unfold spec_TagMax.f spec_l1Max.f tagMax
  rw [h]
  simp only [Option.bind_some]
  split <;> rfl

theorem xor_nn (a b : Int) (ha : 0 ≤ a) (ha2 : a < 4611686018427387904) (hb : 0 ≤ b) (hb2 : b < 4611686018427387904) : 0 ≤ Go.bits .xor .i64 a b := by
  obtain ⟨m, rfl⟩ := Int.eq_ofNat_of_zero_le ha
  obtain ⟨n, rfl⟩ := Int.eq_ofNat_of_zero_le hb
  have hm : m < 2 ^ 62 := by omega
  have hn : n < 2 ^ 62 := by omega
  have hx := Nat.xor_lt_two_pow hm hn
  have e : (BitVec.ofInt 64 (m : Int) ^^^ BitVec.ofInt 64 (n : Int)).toNat = m ^^^ n := by
    rw [BitVec.toNat_xor, BitVec.toNat_ofInt, BitVec.toNat_ofInt]
    congr 1 <;> omega
  show 0 ≤ IntKind.wrap .i64 (((BitVec.ofInt 64 (m : Int) ^^^ BitVec.ofInt 64 (n : Int)).toNat : Nat) : Int)
  rw [e, i64_w, w64 (by omega) (by omega)]
  omega

theorem mix_eq (r1 r2 p q : Int) (h1 : 0 ≤ r1 ∧ r1 ≤ 255) (h2 : 0 ≤ r2 ∧ r2 ≤ 255) (hp : 0 ≤ p ∧ p ≤ 1000000) (hq : 0 ≤ q ∧ q ≤ 1000000) : wrap64 ((wrap64 ((wrap64 ((wrap64 ((wrap64 r1) * 131)) + (wrap64 ((wrap64 r2) * 1117)))) + (wrap64 (p * 29)))) + (wrap64 ((wrap64 q) * 53))) = r1 * 131 + r2 * 1117 + p * 29 + q * 53 := by
  rw [w64 (i := r1) (by omega) (by omega), w64 (i := r2) (by omega) (by omega), w64 (i := q) (by omega) (by omega), w64 (i := r1 * 131) (by omega) (by omega), w64 (i := r2 * 1117) (by omega) (by omega), w64 (i := p * 29) (by omega) (by omega), w64 (i := q * 53) (by omega) (by omega)]
  rw [w64 (i := r1 * 131 + r2 * 1117) (by omega) (by omega), w64 (i := r1 * 131 + r2 * 1117 + p * 29) (by omega) (by omega), w64 (by omega) (by omega)]

/-- What a law's bytes are: each within 0 to 255, and no more than 2000 of them. -/
def Drawn (l : List Int) : Prop := l.length ≤ 2000 ∧ ∀ i, 0 ≤ rd l i ∧ rd l i ≤ 255

theorem drawn_of (l : List Int) (h : ∀ x ∈ l, (Lit.int .u8 x).wf = true) (i : Int) : 0 ≤ rd l i ∧ rd l i ≤ 255 := by
  unfold rd
  by_cases hi : i.toNat < l.length
  · rw [List.getD_eq_getElem?_getD, List.getElem?_eq_getElem hi]
    have h2 := h l[i.toNat] (List.getElem_mem hi)
    simp [Lit.wf] at h2
    have e0 : IntKind.u8.min = 0 := by decide
    have e1 : IntKind.u8.max = 255 := by decide
    rw [e0, e1] at h2
    simp only [Option.getD_some]
    omega
  · rw [List.getD_eq_getElem?_getD, List.getElem?_eq_none (by omega)]
    simp

theorem pick_step (l : List Int) (hl : Drawn l) (p n : Int) (hp : 0 ≤ p ∧ p ≤ 1000000) (hn : 1 ≤ n) (h0 : ¬ (l.length : Int) = 0) : ∃ v, (if p < (l.length : Int) then (if 0 ≤ p then (if n = 0 then (none) else (some (Int.tmod (wrap64 (rd l p)) n, p + 1))) else (none)) else (if (l.length : Int) = 0 then (none) else (if 0 ≤ (Int.tmod p (l.length : Int)) then (if (Int.tmod p (l.length : Int)) < (l.length : Int) then (if 0 ≤ (Int.tmod (wrap64 ((wrap64 (p * 7)) + 3)) (l.length : Int)) then (if (Int.tmod (wrap64 ((wrap64 (p * 7)) + 3)) (l.length : Int)) < (l.length : Int) then (if n = 0 then (none) else (some (Int.tmod (Go.bits .xor .i64 (wrap64 ((wrap64 ((wrap64 ((wrap64 ((wrap64 (rd l (Int.tmod p (l.length : Int)))) * 131)) + (wrap64 ((wrap64 (rd l (Int.tmod (wrap64 ((wrap64 (p * 7)) + 3)) (l.length : Int)))) * 1117)))) + (wrap64 (p * 29)))) + (wrap64 ((wrap64 (Int.tdiv p (l.length : Int))) * 53)))) (wrap64 (Int.tdiv (wrap64 ((wrap64 ((wrap64 ((wrap64 ((wrap64 (rd l (Int.tmod p (l.length : Int)))) * 131)) + (wrap64 ((wrap64 (rd l (Int.tmod (wrap64 ((wrap64 (p * 7)) + 3)) (l.length : Int)))) * 1117)))) + (wrap64 (p * 29)))) + (wrap64 ((wrap64 (Int.tdiv p (l.length : Int))) * 53)))) 64))) n, p + 1))) else (none)) else (none)) else (none)) else (none))) : Option (Int × Int)) = some (v, p + 1) ∧ 0 ≤ v ∧ v < n := by
  by_cases h1 : p < (l.length : Int)
  · have hb := hl.2 p
    rw [if_pos h1, if_pos hp.1, if_neg (show ¬ n = 0 from by omega), w64 (by omega) (by omega)]
    exact ⟨_, rfl, Int.tmod_nonneg n hb.1, Int.tmod_lt_of_pos _ (by omega)⟩
  · have e7 : wrap64 (p * 7) = p * 7 := w64 (by omega) (by omega)
    have e8 : wrap64 (p * 7 + 3) = p * 7 + 3 := w64 (by omega) (by omega)
    have hlp : (0 : Int) < (l.length : Int) := by omega
    rw [e7, e8, if_neg h1, if_neg h0, if_pos (Int.tmod_nonneg _ hp.1), if_pos (Int.tmod_lt_of_pos _ hlp), if_pos (Int.tmod_nonneg _ (by omega)), if_pos (Int.tmod_lt_of_pos _ hlp), if_neg (show ¬ n = 0 from by omega)]
    have b1 := hl.2 (Int.tmod p (l.length : Int))
    have b2 := hl.2 (Int.tmod (p * 7 + 3) (l.length : Int))
    have hq : 0 ≤ Int.tdiv p (l.length : Int) ∧ Int.tdiv p (l.length : Int) ≤ 1000000 := by
      refine ⟨Int.tdiv_nonneg hp.1 (by omega), ?_⟩
      rw [Int.tdiv_eq_ediv_of_nonneg hp.1]
      have := Int.ediv_le_self (l.length : Int) hp.1
      omega
    generalize rd l (Int.tmod p (l.length : Int)) = r1 at b1
    generalize rd l (Int.tmod (p * 7 + 3) (l.length : Int)) = r2 at b2
    generalize Int.tdiv p (l.length : Int) = q at hq
    rw [mix_eq r1 r2 p q b1 b2 hp hq]
    have hE : 0 ≤ r1 * 131 + r2 * 1117 + p * 29 + q * 53 ∧ r1 * 131 + r2 * 1117 + p * 29 + q * 53 ≤ 1000000000 := by omega
    generalize r1 * 131 + r2 * 1117 + p * 29 + q * 53 = E at hE
    have hd : 0 ≤ Int.tdiv E 64 ∧ Int.tdiv E 64 ≤ E := by
      rw [Int.tdiv_eq_ediv_of_nonneg hE.1]
      omega
    rw [w64 (i := Int.tdiv E 64) (by omega) (by omega)]
    exact ⟨_, rfl, Int.tmod_nonneg n (xor_nn E (Int.tdiv E 64) hE.1 (by omega) hd.1 (by omega)), Int.tmod_lt_of_pos _ (by omega)⟩

theorem pick_eq (l : List Int) (hl : Drawn l) (p n : Int) (hp : 0 ≤ p ∧ p ≤ 1000000) (hn : 1 ≤ n) (k : Nat) (hk : 1 ≤ k) : ∃ v, spec_l20Rd_pick.f k l p n = some (v, p + 1) ∧ 0 ≤ v ∧ v < n := by
  obtain ⟨k, rfl⟩ : ∃ j, k = j + 1 := ⟨k - 1, by omega⟩
  have hw : wrap64 (p + 1 - 1) = p := by
    rw [w64 (by omega) (by omega)]
    omega
  unfold spec_l20Rd_pick.f
  rw [if_neg (show ¬ n < 1 from by omega), w64 (i := p + 1) (by omega) (by omega)]
  simp only [spec_l20Rd_pick.j0, hw]
  by_cases h0 : (l.length : Int) = 0
  · rw [h0, if_pos (by rfl)]
    exact ⟨0, rfl, by omega, by omega⟩
  · rw [if_neg (by rw [beq_iff_eq]; exact h0)]
    exact pick_step l hl p n hp hn h0

theorem one4_eq (l : List Int) (hl : Drawn l) (p : Int) (a b c d : Int) (hp : 0 ≤ p ∧ p ≤ 1000000) (k : Nat) (hk : 1 ≤ k) : ∃ v, spec_l20Rd_one.f k l p [a, b, c, d] = some (v, p + 1) := by
  unfold spec_l20Rd_one.f
  obtain ⟨v, hv, h0, h1⟩ := pick_eq l hl p (([a, b, c, d] : List Int).length : Int) hp (by simp) k hk
  rw [hv, Option.bind_some, if_pos h0, if_pos h1]
  exact ⟨_, rfl⟩

theorem tag_eq (l : List Int) (hl : Drawn l) (p : Int) (hp : 0 ≤ p ∧ p ≤ 900000) (k : Nat) (hk : 1 ≤ k) : ∃ a b q, spec_l20Tag.f k l p = some (a, b, q) ∧ p ≤ q ∧ q ≤ p + 3 := by
  unfold spec_l20Tag.f
  obtain ⟨v, hv, h0, h1⟩ := pick_eq l hl p 3 (by omega) (by omega) k hk
  rw [hv, Option.bind_some]
  by_cases h : v = 0
  · rw [if_pos h]
    exact ⟨_, _, _, rfl, by omega, by omega⟩
  · rw [if_neg h]
    obtain ⟨v2, hv2, h2⟩ := pick_eq l hl (p + 1) 9 (by omega) (by omega) k hk
    obtain ⟨v3, hv3, h3⟩ := pick_eq l hl (p + 1 + 1) 3 (by omega) (by omega) k hk
    simp only [hv2, hv3, Option.bind_some]
    exact ⟨_, _, _, rfl, by omega, by omega⟩

theorem anyTag_eq (l : List Int) (hl : Drawn l) (p : Int) (hp : 0 ≤ p ∧ p ≤ 800000) (k : Nat) (hk : 1 ≤ k) : ∃ a b q, spec_l20AnyTag.f k l p = some (a, b, q) ∧ p ≤ q ∧ q ≤ p + 4 := by
  unfold spec_l20AnyTag.f
  obtain ⟨v, hv, h0, h1⟩ := pick_eq l hl p 8 (by omega) (by omega) k hk
  rw [hv, Option.bind_some]
  by_cases h : v = 0
  · rw [if_pos h]
    obtain ⟨v2, hv2⟩ := one4_eq l hl (p + 1) 0 (-1) 1000 999 (by omega) k hk
    obtain ⟨v3, hv3⟩ := one4_eq l hl (p + 1 + 1) 0 1 3 (-1) (by omega) k hk
    simp only [hv2, hv3, Option.bind_some]
    exact ⟨_, _, _, rfl, by omega, by omega⟩
  · rw [if_neg h]
    obtain ⟨a, b, q, h4, h5, h6⟩ := tag_eq l hl (p + 1) (by omega) k hk
    simp only [h4, Option.bind_some]
    exact ⟨_, _, _, rfl, by omega, by omega⟩

theorem open_eq (l : List Int) (h : ∀ x ∈ l, (Lit.int .u8 x).wf = true) : ∃ m, spec_l20Open.f l = some (m, 0) ∧ Drawn m := by
  unfold spec_l20Open.f
  by_cases h1 : (l.length : Int) > 2000
  · rw [if_pos h1, if_pos (by omega)]
    exact ⟨_, rfl, by rw [List.length_take]; omega, drawn_of _ (fun x hx => h x (List.mem_of_mem_take hx))⟩
  · rw [if_neg h1]
    exact ⟨_, rfl, by omega, drawn_of _ h⟩

theorem drawTagLess_eq (l : List Int) (h : ∀ x ∈ l, (Lit.int .u8 x).wf = true) (k : Nat) (hk : 1 ≤ k) : ∃ a b c d, spec_DrawTagLess.f k l = some (a, b, c, d) := by
  unfold spec_DrawTagLess.f
  obtain ⟨m, hm, hd⟩ := open_eq l h
  rw [hm, Option.bind_some]
  obtain ⟨a, b, q, h1, h2, h3⟩ := anyTag_eq m hd 0 (by omega) k hk
  rw [h1, Option.bind_some]
  obtain ⟨c, d, q2, h4, h5, h6⟩ := anyTag_eq m hd q (by omega) k hk
  rw [h4, Option.bind_some]
  exact ⟨_, _, _, _, rfl⟩

theorem cmpj_eq (k : Nat) (a b : Int) (hk : 2 ≤ k) : cmp_Compare_int.f k a b = some (if a < b then -1 else if a > b then 1 else 0) := by
  obtain ⟨k, rfl⟩ : ∃ j, k = j + 1 + 1 := ⟨k - 2, by omega⟩
  unfold cmp_Compare_int.f cmp_isNaN_int.f
  simp only [Option.bind_some, bne_self_eq_false, Bool.false_eq_true, if_false, cmp_Compare_int.j0, cmp_Compare_int.j1]
  split
  · rfl
  · split <;> rfl

theorem implLessj_ge (k : Nat) (a b c d : Int) (hk : 3 ≤ k) : impl_TagLess.f k a b c d = some (tagLess a b c d) := by
  obtain ⟨k, rfl⟩ : ∃ j, k = j + 3 := ⟨k - 3, by omega⟩
  unfold impl_TagLess.f impl_Tag_compare.f tagLess
  simp only [cmpj_eq (k + 3) _ _ (by omega), Option.bind_some, or2_eq, Option.some.injEq]
  by_cases h1 : a < c
  · simp [h1]
  · by_cases h2 : a > c
    · have h3 : a ≠ c := by omega
      simp [h1, h2, h3]
    · have h3 : a = c := by omega
      subst h3
      by_cases h4 : b < d
      · simp [h4]
      · by_cases h5 : b > d <;> simp [h4, h5]

theorem tagLess_iff (a b c d : Int) : tagLess a b c d = true ↔ a < c ∨ a = c ∧ b < d := by
  unfold tagLess
  simp only [Bool.or_eq_true, Bool.and_eq_true, decide_eq_true_eq]

theorem tagLess_not (a b c d : Int) : tagLess a b c d = false ↔ ¬ (a < c ∨ a = c ∧ b < d) := by
  rw [← tagLess_iff, Bool.not_eq_true]

theorem implMaxj_ge (k : Nat) (a b c d : Int) (hk : 3 ≤ k) : impl_TagMax.f k a b c d = some (tagMax a b c d) := by
  unfold impl_TagMax.f tagMax
  rw [implLessj_ge k a b c d hk]
  simp only [Option.bind_some]
  split <;> rfl

theorem drawTagMax_eq (l : List Int) (h : ∀ x ∈ l, (Lit.int .u8 x).wf = true) (k : Nat) (hk : 1 ≤ k) : ∃ a b c d, spec_DrawTagMax.f k l = some (a, b, c, d) := by
  unfold spec_DrawTagMax.f
  obtain ⟨a, b, c, d, e⟩ := drawTagLess_eq l h k hk
  rw [e]
  exact ⟨_, _, _, _, rfl⟩

theorem FnTagMax : laws_FnTagMax.Pure := by
  intro l _ _ h
  refine ⟨8, ?_⟩
  unfold laws_FnTagMax.f
  split
  · rfl
  · obtain ⟨a, b, c, d, e⟩ := drawTagMax_eq l h 7 (by omega)
    simp only [laws_FnTagMax.j0, e, Option.bind_some, implMaxj_ge 7 _ _ _ _ (by omega), max_eq, beq_self_eq_true, Bool.not_true, Bool.or_self, Bool.false_eq_true, if_false, laws_FnTagMax.j1, implLessj_ge 6 _ _ _ _ (by omega), implMaxj_ge 6 _ _ _ _ (by omega)]
    by_cases h1 : tagLess a b c d = true
    · have hi := (tagLess_iff a b c d).mp h1
      have h2 : tagLess c d a b = false := (tagLess_not c d a b).mpr (by omega)
      have h3 : tagLess c d c d = false := (tagLess_not c d c d).mpr (by omega)
      have h4 : tagMax a b c d = (c, d) := by
        unfold tagMax
        rw [if_pos h1]
      have h5 : tagMax c d a b = (c, d) := by
        unfold tagMax
        rw [h2]
        rfl
      have h6 : (c == a && (d == b)) = false := by
        rw [Bool.and_eq_false_iff, beq_eq_false_iff_ne, beq_eq_false_iff_ne]
        omega
      simp only [h4, h5, h6, h2, h3, beq_self_eq_true, Bool.and_self, if_true, Bool.false_eq_true, if_false]
    · rw [Bool.not_eq_true] at h1
      have hi := (tagLess_not a b c d).mp h1
      have h3 : tagLess a b a b = false := (tagLess_not a b a b).mpr (by omega)
      have h4 : tagMax a b c d = (a, b) := by
        unfold tagMax
        rw [h1]
        rfl
      have h5 : tagMax c d a b = (a, b) := by
        unfold tagMax
        by_cases h2 : tagLess c d a b = true
        · rw [if_pos h2]
        · rw [if_neg h2]
          rw [Bool.not_eq_true] at h2
          have hj := (tagLess_not c d a b).mp h2
          have e1 : a = c := by omega
          have e2 : b = d := by omega
          rw [e1, e2]
      simp only [h4, h5, h1, h3, beq_self_eq_true, Bool.and_self, if_true, Bool.false_eq_true, if_false]

end Go.Proofs.Ytfkoecaejfkjpaa.PureFnTagMax
namespace Go.Proofs.Ytfkoecaejfkjpaa.Pure
theorem FnTagMax : Go.Proofs.Ytfkoecaejfkjpaa.PFnTagMax.laws_FnTagMax.Pure := Go.Proofs.Ytfkoecaejfkjpaa.PureFnTagMax.FnTagMax
end Go.Proofs.Ytfkoecaejfkjpaa.Pure
