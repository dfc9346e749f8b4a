/- A part of the proof: an evaluator of the model, its laws, and contracts of functions; no condition. -/
import Derived.Test.YtkhbpmhagpljiaaDoorEvI
set_option linter.unusedVariables false
set_option linter.unusedSimpArgs false
namespace Go.Ev
open Go Go.RowKit
/-! ### Texts -/
def dg (k : Nat) : UInt8 := UInt8.ofNat (48 + k)
def decL (n : Nat) : List UInt8 := if h : n < 10 then [dg n] else decL (n / 10) ++ [dg (n % 10)]
 termination_by n
 decreasing_by omega
def bts (l : List UInt8) : ByteArray := ⟨l.toArray⟩
theorem bts_list (l : List UInt8) : (bts l).toList = l := by rw [ByteArray.toList_eq]; simp [bts]
theorem bts_size (l : List UInt8) : (bts l).size = l.length := by simp [bts, ByteArray.size]
theorem bts_of (s : ByteArray) : bts s.toList = s := by
  rw [ByteArray.toList_eq]
  cases s
  simp [bts]
theorem text_ext {a b : ByteArray} (h : a.toList = b.toList) : a = b := by rw [← bts_of a, h, bts_of]
theorem bts_app (a b : List UInt8) : bts a ++ bts b = bts (a ++ b) := by
  apply text_ext
  rw [bts_list, ByteArray.toList_eq, ByteArray.data_append]
  simp [bts]
theorem decL_lt {n : Nat} (h : n < 10) : decL n = [dg n] := by rw [decL, dif_pos h]
theorem decL_ge {n : Nat} (h : ¬ n < 10) : decL n = decL (n / 10) ++ [dg (n % 10)] := by rw [decL, dif_neg h]
theorem decL_len (n : Nat) : 1 ≤ (decL n).length ∧ (decL n).length ≤ n + 1 := by
  induction n using Nat.strongRecOn with
  | _ n ih =>
    by_cases h : n < 10
    · rw [decL_lt h]; simp
    · rw [decL_ge h, List.length_append]
      have := ih (n / 10) (by omega)
      simp only [List.length_singleton]
      omega
theorem dig (k : Nat) (h : k < 10) : (dg k).toNat = 48 + k := by
  unfold dg
  rw [UInt8.toNat_ofNat']; exact Nat.mod_eq_of_lt (by omega)
theorem decL_mem {n : Nat} : ∀ c ∈ decL n, 48 ≤ c.toNat ∧ c.toNat ≤ 57 := by
  induction n using Nat.strongRecOn with
  | _ n ih =>
    by_cases h : n < 10
    · rw [decL_lt h]
      intro c hc
      rw [List.mem_singleton.1 hc, dig n h]; omega
    · rw [decL_ge h]
      intro c hc
      rcases List.mem_append.1 hc with hc | hc
      · exact ih _ (by omega) c hc
      · rw [List.mem_singleton.1 hc, dig _ (Nat.mod_lt _ (by omega))]; omega
def valL (l : List UInt8) : Nat := l.foldl (fun a c => a * 10 + (c.toNat - 48)) 0
theorem valL_decL (n : Nat) : valL (decL n) = n := by
  induction n using Nat.strongRecOn with
  | _ n ih =>
    by_cases h : n < 10
    · rw [decL_lt h]; simp only [valL, List.foldl_cons, List.foldl_nil, dig n h]; omega
    · rw [decL_ge h]
      have := ih (n / 10) (by omega)
      simp only [valL, List.foldl_append, List.foldl_cons, List.foldl_nil, dig _ (Nat.mod_lt n (by omega : 10 > 0))] at this ⊢
      rw [this]; omega
theorem decL_inj {a b : Nat} (h : decL a = decL b) : a = b := by rw [← valL_decL a, h, valL_decL]
def tagL (t : Tag) : List UInt8 := decL t.t.toNat ++ (46 :: decL t.p.toNat)
def pastL : List Tag → List UInt8
  | [] => []
  | t :: l => 32 :: (tagL t ++ pastL l)
def restL (v : Ver) : List UInt8 := if v.gone then [45] else 61 :: v.text.toList
def verL (v : Ver) : List UInt8 := decL v.key.toNat ++ (32 :: (tagL v.tag ++ (pastL v.past ++ (32 :: restL v))))
theorem cut_one {c : UInt8} : ∀ {a a' b b' : List UInt8}, a ++ c :: b = a' ++ c :: b' → c ∉ a → c ∉ a' → a = a' ∧ b = b'
  | [], [], b, b', h, _, _ => by simpa using h
  | [], x :: a', b, b', h, _, h2 => by
    simp only [List.nil_append, List.cons_append, List.cons.injEq] at h
    exact absurd (by rw [h.1]; exact List.mem_cons_self) h2
  | x :: a, [], b, b', h, h1, _ => by
    simp only [List.nil_append, List.cons_append, List.cons.injEq] at h
    exact absurd (by rw [h.1]; exact List.mem_cons_self) h1
  | x :: a, y :: a', b, b', h, h1, h2 => by
    simp only [List.cons_append, List.cons.injEq] at h
    obtain ⟨rfl, h⟩ := h
    have k := cut_one h (fun h => h1 (List.mem_cons_of_mem _ h)) (fun h => h2 (List.mem_cons_of_mem _ h))
    exact ⟨by rw [k.1], k.2⟩
theorem dec_no {n : Nat} {c : UInt8} (h : c.toNat < 48) : c ∉ decL n := fun hc => by have := decL_mem c hc; omega
theorem tag_no {t : Tag} : (32 : UInt8) ∉ tagL t := by
  intro h
  rcases List.mem_append.1 h with h | h
  · exact dec_no (by decide) h
  · rcases List.mem_cons.1 h with h | h
    · exact absurd h (by decide)
    · exact dec_no (by decide) h
theorem tagL_inj {a b : Tag} (ha : tagOk a = true) (hb : tagOk b = true) (h : tagL a = tagL b) : a = b := by
  obtain ⟨h1, h2⟩ := cut_one h (dec_no (by decide)) (dec_no (by decide))
  have h3 := decL_inj h1
  have h4 := decL_inj h2
  obtain ⟨at', ap⟩ := a
  obtain ⟨bt, bp⟩ := b
  simp only [tagOk, Bool.or_eq_true, Bool.and_eq_true, beq_iff_eq, decide_eq_true_eq] at ha hb
  dsimp only at h3 h4
  simp only [Tag.mk.injEq]
  omega
theorem pastL_inj : ∀ {a b : List Tag} {x y : List UInt8}, (∀ t ∈ a, tagOk t = true) → (∀ t ∈ b, tagOk t = true) → a.length = b.length → pastL a ++ 32 :: x = pastL b ++ 32 :: y → a = b ∧ x = y
  | [], [], x, y, _, _, _, h => by simpa [pastL] using h
  | t :: a, u :: b, x, y, ha, hb, hl, h => by
    simp only [pastL, List.cons_append, List.cons.injEq, true_and, List.append_assoc] at h
    have key : ∀ (l : List Tag) (z : List UInt8), ∃ r, pastL l ++ 32 :: z = 32 :: r := by
      intro l z
      cases l with
      | nil => exact ⟨z, rfl⟩
      | cons t l => exact ⟨_, rfl⟩
    obtain ⟨r1, e1⟩ := key a x
    obtain ⟨r2, e2⟩ := key b y
    rw [e1, e2] at h
    obtain ⟨h1, h2⟩ := cut_one h tag_no tag_no
    have h3 : pastL a ++ 32 :: x = pastL b ++ 32 :: y := by rw [e1, e2, h2]
    obtain ⟨h4, h5⟩ := pastL_inj (fun t ht => ha t (List.mem_cons_of_mem _ ht)) (fun t ht => hb t (List.mem_cons_of_mem _ ht)) (by simpa using hl) h3
    exact ⟨by rw [tagL_inj (ha t List.mem_cons_self) (hb u List.mem_cons_self) h1, h4], h5⟩
  | [], _ :: _, _, _, _, _, hl, _ => by simp at hl
  | _ :: _, [], _, _, _, _, hl, _ => by simp at hl
theorem ver_parts {v : Ver} (h : verOk v = true) : 0 ≤ v.key ∧ v.key ≤ 3 ∧ textOk v.text = true ∧ (v.gone = true → v.text.toList = []) ∧ (∀ t ∈ v.past, tagOk t = true) ∧ v.past.length = 4 ∧ tagOk v.tag = true := by
  simp only [verOk, verWr, keyOk, pastOk, noText, Bool.and_eq_true, decide_eq_true_eq, Bool.or_eq_true, Bool.not_eq_true', List.all_eq_true, beq_iff_eq, List.isEmpty_iff] at h
  refine ⟨by omega, by omega, h.1.2.1, fun hg => ?_, h.1.2.2.2.1, h.1.2.2.2.2, h.2.1⟩
  rcases h.1.2.2.1 with h | h
  · rw [hg] at h; cases h
  · exact h
theorem verL_inj {a b : Ver} (ha : verOk a = true) (hb : verOk b = true) (h : verL a = verL b) : a = b := by
  obtain ⟨a1, a2, a3, a4, a5, a6, a7⟩ := ver_parts ha
  obtain ⟨b1, b2, b3, b4, b5, b6, b7⟩ := ver_parts hb
  obtain ⟨h1, h2⟩ := cut_one h (dec_no (by decide)) (dec_no (by decide))
  have h1 := decL_inj h1
  have key : ∀ (l : List Tag) (z : List UInt8), ∃ r, pastL l ++ 32 :: z = 32 :: r := by
    intro l z
    cases l with
    | nil => exact ⟨z, rfl⟩
    | cons t l => exact ⟨_, rfl⟩
  obtain ⟨r1, e1⟩ := key a.past (restL a)
  obtain ⟨r2, e2⟩ := key b.past (restL b)
  rw [e1, e2] at h2
  obtain ⟨h3, h4⟩ := cut_one h2 tag_no tag_no
  have h4 : pastL a.past ++ 32 :: restL a = pastL b.past ++ 32 :: restL b := by rw [e1, e2, h4]
  obtain ⟨h5, h6⟩ := pastL_inj a5 b5 (by omega) h4
  have h3 := tagL_inj a7 b7 h3
  obtain ⟨k, t, p, x, g⟩ := a
  obtain ⟨k', t', p', x', g'⟩ := b
  simp only at *
  have h7 : x.toList = x'.toList ∧ g = g' := by
    unfold restL at h6
    cases g <;> cases g' <;> simp_all
  simp only [Ver.mk.injEq]
  exact ⟨by omega, h3, h5, text_ext h7.1, h7.2⟩
theorem tmod_nat (a b : Nat) : (a : Int).tmod (b : Int) = ((a % b : Nat) : Int) := by
  rw [Int.tmod_eq_emod_of_nonneg (by omega)]; rfl
theorem tdiv_nat (a b : Nat) : (a : Int).tdiv (b : Int) = ((a / b : Nat) : Int) := by
  rw [Int.tdiv_eq_ediv_of_nonneg (by omega)]; rfl
theorem mk_bts (l : List UInt8) : ByteArray.mk l.toArray = bts l := rfl
theorem bo_add_btx {P : Program} (t : TypeId) (x y : Operand) {a : List UInt8} {s : ByteArray} (h : a.length + s.size ≤ 9223372036854775807) (w : World) : bo P .add t x y (.string (bts a)) (.string s) w = some (.string (bts (a ++ s.toList)), w) := by
  rw [bo_add_str t x y (by rw [bts_size]; exact h) w]
  congr 3
  rw [← bts_of s, bts_app, bts_list]
theorem bytesOf_bts (x : Int) : bytesOf [x] = bts [UInt8.ofNat x.toNat] := by
  apply text_ext
  rw [bts_list, ByteArray.toList_eq]
  rfl
theorem u8_small {x : Int} (h0 : 0 ≤ x) (h1 : x ≤ 255) : IntKind.u8.wrap x = x := by
  simp only [IntKind.wrap, IntKind.bits, IntKind.signed, Bool.false_and]
  simp
  omega
end Go.Ev
