/- A part of the proof: an evaluator of the model, its laws, and contracts of functions; no condition. -/
import Derived.Test.YtjagkbamkohnoaaGreatEvW
set_option linter.unusedVariables false
set_option linter.unusedSimpArgs false
namespace Go.Ev
open Go Go.RowKit
/-! ### Parts of an owned row -/
section
variable {P : Program}
theorem sl_lg {t e : TypeId} {z : Nat × Nat} (h : elB P t = Option.some (e, z)) (a : Option Addr) {len cap : Nat} {n : Int} (h0 : 0 ≤ n) (h1 : n ≤ len) :
    ∃ a', (∀ w, sl P t (.slice a len cap) (Option.some (i64 n)) none none w = Option.some (.slice a' (len - n.toNat) (cap - n.toNat), w)) ∧ (n.toNat ≠ cap → ∀ b o, a = some ⟨b, o, none⟩ → a' = some ⟨b, o + n.toNat * z.1, none⟩) := by
  obtain ⟨hu, hs⟩ := elem_eq h
  by_cases hc : n.toNat = cap
  · refine ⟨a, fun w => ?_, fun h => absurd hc h⟩
    simp only [sl, run_sliceAt_slice w t _ _ _ _ hu, run_slice_l w t _ len cap hu .i64 n h0 h1, run_sizeOf' hs, Result.andThen_ok, sliced, ro]
    simp [hc]
  · refine ⟨a.map (fun x => x.add (n.toNat * z.1)), fun w => ?_, fun _ b o ha => by subst ha; simp [add_lit]⟩
    simp only [sl, run_sliceAt_slice w t _ _ _ _ hu, run_slice_l w t _ len cap hu .i64 n h0 h1, run_sizeOf' hs, Result.andThen_ok, sliced, ro]
    cases a <;> simp [Ne.symm hc]
variable {α : Type} {L : Lay α} {S S1 : Nat → Prop} {w : World} {E mx : Nat}
/-- Elements of one's own behind a row, where there may be none. -/
theorem O.appE {t ty y : Nat} (hE : elB P t = some (E, L.n, y)) {z : List Value} (hz : zeroB P E = some z) (hzs : z.length = L.n) (h0 : 0 < L.n) {a0 : Option Addr} {n0 c0 : Nat} {xs ys : List α} {css : List (List Value)} {a : Option Addr} {m c : Nat}
    (ho : O (LList E mx L) S w [.slice a0 n0 c0] xs) (hx : Els L S1 w css ys) (hd : ∀ b, b < w.heap.size → S b → ¬ S1 b) (hA : ys = [] ∨ ∃ b o, a = some ⟨b, o, none⟩ ∧ At w b o css.flatten) (hm : m = ys.length) (hl : xs.length + m ≤ mx) (hy : mx * y ≤ 140737488355328) (hm2 : mx ≤ 140737488355328) :
    Ret (b_append P #[t, t] ty #[.slice a0 n0 c0, .slice a m c] w) fun r => ∃ a' c', r.1 = .slice a' (xs.length + m) c' ∧
      O (LList E mx L) (fun b => S b ∨ S1 b ∨ (w.heap.size ≤ b ∧ b < r.2.heap.size)) r.2 [.slice a' (xs.length + m) c'] (xs ++ ys) ∧ Mod S w r.2 := by
  by_cases h : m = 0
  · subst h
    obtain rfl : ys = [] := List.eq_nil_of_length_eq_zero hm.symm
    have hn := ho.n
    rw [app_none (P := P) hE a0 a n0 c0 c ho.clip.1 w]
    refine ⟨_, rfl, a0, c0, by simp only; rw [hn.1]; rfl, ?_, Mod.rfl⟩
    have he : xs.length + 0 = n0 := by omega
    rw [he, List.append_nil]
    exact ho.wide fun b h _ => .inl h
  · rcases hA with rfl | ⟨b, o, rfl, hA⟩
    · exact absurd hm h
    · refine Ret.mono (O.apps hE hz hzs h0 ho hx hd hA hm (by omega) hl hy hm2) ?_
      rintro ⟨s, w1⟩ ⟨a', c', h3, h4, h5⟩
      dsimp only at h3 h4 h5
      subst h3
      exact ⟨a', c', rfl, h4, h5⟩
/-- An owned row in two. -/
theorem O.parts {t y : Nat} (h0 : 0 < L.n) (hE : elB P t = some (E, L.n, y)) {a : Option Addr} {n c : Nat} {xs : List α} (h : O (LList E mx L) S w [.slice a n c] xs) {k : Nat} (hk : k ≤ n) :
    ∃ (css : List (List Value)) (S1 S2 : Nat → Prop) (a' : Option Addr) (c' : Nat), Els L S1 w (css.take k) (xs.take k) ∧ Els L S2 w (css.drop k) (xs.drop k) ∧ (∀ b, S1 b → S b ∧ ¬ S2 b ∧ b < w.heap.size) ∧ (∀ b, S2 b → S b ∧ ¬ S1 b ∧ b < w.heap.size) ∧
      (∀ w', sl P t (.slice a n c) none (Option.some (i64 k)) none w' = Option.some (.slice a k c, w')) ∧ (∀ w', sl P t (.slice a n c) (Option.some (i64 k)) none none w' = Option.some (.slice a' (n - k) c', w')) ∧
      (xs.take k = [] ∨ ∃ b o, a = some ⟨b, o, none⟩ ∧ (S b ∧ ¬ S1 b ∧ ¬ S2 b ∧ b < w.heap.size) ∧ At w b o (css.take k).flatten) ∧ (xs.drop k = [] ∨ ∃ b o, a' = some ⟨b, o, none⟩ ∧ (S b ∧ ¬ S1 b ∧ ¬ S2 b ∧ b < w.heap.size) ∧ At w b o (css.drop k).flatten) ∧
      (∀ b ∈ (blkOf (.slice a n c)).toList, S b ∧ ¬ S1 b ∧ ¬ S2 b ∧ b < w.heap.size) := by
  have hc := h.clip.1
  have hn := h.n.1
  obtain ⟨css, h1, h2, h3, h4⟩ := h.un
  obtain ⟨S1, S2, e1, e2, d1, d2⟩ := h2.cut k
  obtain ⟨a', hsl, ha'⟩ := sl_lg (P := P) hE a (len := n) (cap := c) (n := (k : Int)) (by omega) (by omega)
  obtain ⟨aO, cO, hs, _, hAt⟩ := h1.at
  simp only [Value.slice.injEq] at hs
  obtain ⟨rfl, _, rfl⟩ := hs
  have hlen := e1.lay
  have hlay := h2.lay
  have htk : (css.take k).flatten.length = k * L.n := by
    rw [sum_flat hlen.2, List.length_take]
    congr 1
    omega
  have hspl : css.flatten = (css.take k).flatten ++ (css.drop k).flatten := by rw [← List.flatten_append, List.take_append_drop]
  refine ⟨css, S1, S2, a', c - k, e1, e2, fun b hb => ?_, fun b hb => ?_, fun w' => ?_, fun w' => ?_, ?_, ?_, fun b hb => ?_⟩
  · have := d1 b hb
    exact ⟨this.1.1, this.2.1, this.2.2⟩
  · have := d2 b hb
    exact ⟨this.1.1, this.2.1, this.2.2⟩
  · have := sl_h (P := P) hE (a := a) (len := n) (cap := c) (n := (k : Int)) (by omega) (by omega) w'
    simpa using this
  · simpa using hsl w'
  · by_cases hk0 : xs.take k = []
    · exact .inl hk0
    · right
      rcases hAt with hAt | ⟨b, o, rfl, hAt⟩
      · exfalso
        have hl0 : css.flatten.length = xs.length * L.n := by rw [sum_flat hlay.2, hlay.1]
        rw [hAt] at hl0
        simp only [List.length_nil] at hl0
        have h5 : xs.length = 0 := by
          rcases Nat.eq_zero_or_pos xs.length with h | h
          · exact h
          · have := Nat.mul_pos h h0; omega
        exact hk0 (by rw [List.eq_nil_of_length_eq_zero h5]; simp)
      · have hb := h3 b (by simp [blkOf])
        refine ⟨b, o, rfl, ⟨hb.1, fun h => (d1 b h).1.2.1 (by simp [blkOf]), fun h => (d2 b h).1.2.1 (by simp [blkOf]), hb.2⟩, fun j v hv => hAt j v ?_⟩
        rw [hspl, List.getElem?_append_left ((List.getElem?_eq_some_iff.1 hv).1)]
        exact hv
  · by_cases hk0 : xs.drop k = []
    · exact .inl hk0
    · right
      have hkn : k < xs.length := by
        rcases Nat.lt_or_ge k xs.length with h | h
        · exact h
        · exact absurd (List.drop_eq_nil_of_le h) hk0
      rcases hAt with hAt | ⟨b, o, rfl, hAt⟩
      · exfalso
        have hl0 : css.flatten.length = xs.length * L.n := by rw [sum_flat hlay.2, hlay.1]
        rw [hAt] at hl0
        simp only [List.length_nil] at hl0
        have := Nat.mul_pos (show 0 < xs.length by omega) h0
        omega
      · have hb := h3 b (by simp [blkOf])
        refine ⟨b, o + k * L.n, ?_, ⟨hb.1, fun h => (d1 b h).1.2.1 (by simp [blkOf]), fun h => (d2 b h).1.2.1 (by simp [blkOf]), hb.2⟩, fun j v hv => ?_⟩
        · have := ha' (by simp; omega) b o rfl
          simpa using this
        · rw [Nat.add_assoc]
          refine hAt (k * L.n + j) v ?_
          rw [hspl, List.getElem?_append_right (by omega), htk, Nat.add_sub_cancel_left]
          exact hv
  · have := h3 b hb
    exact ⟨this.1, fun h => (d1 b h).1.2.1 hb, fun h => (d2 b h).1.2.1 hb, this.2⟩
/-- An owned row without a part in the middle. -/
theorem O.parts2 {t y : Nat} (h0 : 0 < L.n) (hE : elB P t = some (E, L.n, y)) {a : Option Addr} {n c : Nat} {xs : List α} (h : O (LList E mx L) S w [.slice a n c] xs) {j k : Nat} (hj : j ≤ k) (hk : k ≤ n) :
    ∃ (css : List (List Value)) (S1 S2 : Nat → Prop) (a' : Option Addr) (c' : Nat), Els L S1 w (css.take j) (xs.take j) ∧ Els L S2 w (css.drop k) (xs.drop k) ∧ (∀ b, S1 b → S b ∧ ¬ S2 b ∧ b < w.heap.size) ∧ (∀ b, S2 b → S b ∧ ¬ S1 b ∧ b < w.heap.size) ∧
      (∀ w', sl P t (.slice a n c) none (Option.some (i64 j)) none w' = Option.some (.slice a j c, w')) ∧ (∀ w', sl P t (.slice a n c) (Option.some (i64 k)) none none w' = Option.some (.slice a' (n - k) c', w')) ∧
      (xs.take j = [] ∨ ∃ b o, a = some ⟨b, o, none⟩ ∧ (S b ∧ ¬ S1 b ∧ ¬ S2 b ∧ b < w.heap.size) ∧ At w b o (css.take j).flatten) ∧ (xs.drop k = [] ∨ ∃ b o, a' = some ⟨b, o, none⟩ ∧ (S b ∧ ¬ S1 b ∧ ¬ S2 b ∧ b < w.heap.size) ∧ At w b o (css.drop k).flatten) ∧
      (∀ b ∈ (blkOf (.slice a n c)).toList, S b ∧ ¬ S1 b ∧ ¬ S2 b ∧ b < w.heap.size) := by
  have hc := h.clip.1
  have hn := h.n.1
  obtain ⟨css, h1, h2, h3, h4⟩ := h.un
  obtain ⟨S0, S2, e0, e2, d0, d2'⟩ := h2.cut k
  obtain ⟨S1, S3, e1, _, d1', _⟩ := e0.cut j
  rw [List.take_take, List.take_take, Nat.min_eq_left hj] at e1
  have d1 : ∀ b, S1 b → (S b ∧ b ∉ (blkOf (.slice a n c)).toList ∧ b < w.heap.size) ∧ ¬ S2 b ∧ b < w.heap.size := fun b hb => d0 b (d1' b hb).1
  have d2 : ∀ b, S2 b → (S b ∧ b ∉ (blkOf (.slice a n c)).toList ∧ b < w.heap.size) ∧ ¬ S1 b ∧ b < w.heap.size := fun b hb => ⟨(d2' b hb).1, fun h => (d2' b hb).2.1 (d1' b h).1, (d2' b hb).2.2⟩
  obtain ⟨a', hsl, ha'⟩ := sl_lg (P := P) hE a (len := n) (cap := c) (n := (k : Int)) (by omega) (by omega)
  obtain ⟨aO, cO, hs, _, hAt⟩ := h1.at
  simp only [Value.slice.injEq] at hs
  obtain ⟨rfl, _, rfl⟩ := hs
  have hlen := e1.lay
  have hlay := h2.lay
  have hlk := e0.lay
  have htk : (css.take k).flatten.length = k * L.n := by
    rw [sum_flat hlk.2, List.length_take]
    congr 1
    omega
  have hspl : css.flatten = (css.take k).flatten ++ (css.drop k).flatten := by rw [← List.flatten_append, List.take_append_drop]
  have hsplj : css.flatten = (css.take j).flatten ++ (css.drop j).flatten := by rw [← List.flatten_append, List.take_append_drop]
  refine ⟨css, S1, S2, a', c - k, e1, e2, fun b hb => ?_, fun b hb => ?_, fun w' => ?_, fun w' => ?_, ?_, ?_, fun b hb => ?_⟩
  · have := d1 b hb
    exact ⟨this.1.1, this.2.1, this.2.2⟩
  · have := d2 b hb
    exact ⟨this.1.1, this.2.1, this.2.2⟩
  · have := sl_h (P := P) hE (a := a) (len := n) (cap := c) (n := (j : Int)) (by omega) (by omega) w'
    simpa using this
  · simpa using hsl w'
  · by_cases hk0 : xs.take j = []
    · exact .inl hk0
    · right
      rcases hAt with hAt | ⟨b, o, rfl, hAt⟩
      · exfalso
        have hl0 : css.flatten.length = xs.length * L.n := by rw [sum_flat hlay.2, hlay.1]
        rw [hAt] at hl0
        simp only [List.length_nil] at hl0
        have h5 : xs.length = 0 := by
          rcases Nat.eq_zero_or_pos xs.length with h | h
          · exact h
          · have := Nat.mul_pos h h0; omega
        exact hk0 (by rw [List.eq_nil_of_length_eq_zero h5]; simp)
      · have hb := h3 b (by simp [blkOf])
        refine ⟨b, o, rfl, ⟨hb.1, fun h => (d1 b h).1.2.1 (by simp [blkOf]), fun h => (d2 b h).1.2.1 (by simp [blkOf]), hb.2⟩, fun i v hv => hAt i v ?_⟩
        rw [hsplj, List.getElem?_append_left ((List.getElem?_eq_some_iff.1 hv).1)]
        exact hv
  · by_cases hk0 : xs.drop k = []
    · exact .inl hk0
    · right
      have hkn : k < xs.length := by
        rcases Nat.lt_or_ge k xs.length with h | h
        · exact h
        · exact absurd (List.drop_eq_nil_of_le h) hk0
      rcases hAt with hAt | ⟨b, o, rfl, hAt⟩
      · exfalso
        have hl0 : css.flatten.length = xs.length * L.n := by rw [sum_flat hlay.2, hlay.1]
        rw [hAt] at hl0
        simp only [List.length_nil] at hl0
        have := Nat.mul_pos (show 0 < xs.length by omega) h0
        omega
      · have hb := h3 b (by simp [blkOf])
        refine ⟨b, o + k * L.n, ?_, ⟨hb.1, fun h => (d1 b h).1.2.1 (by simp [blkOf]), fun h => (d2 b h).1.2.1 (by simp [blkOf]), hb.2⟩, fun i v hv => ?_⟩
        · have := ha' (by simp; omega) b o rfl
          simpa using this
        · rw [Nat.add_assoc]
          refine hAt (k * L.n + i) v ?_
          rw [hspl, List.getElem?_append_right (by omega), htk, Nat.add_sub_cancel_left]
          exact hv
  · have := h3 b hb
    exact ⟨this.1, fun h => (d1 b h).1.2.1 hb, fun h => (d2 b h).1.2.1 hb, this.2⟩
theorem D.ofSl {s : Value} {css : List (List Value)} {xs : List α} (h1 : Sl w s xs.length css.flatten) (h2 : All2 (D L S w) css xs) (hb : ∀ b ∈ (blkOf s).toList, S b ∧ b < w.heap.size) (h3 : xs.length ≤ mx) : D (LList E mx L) S w [s] xs := by
  obtain ⟨bss, h6⟩ := All3.of2 (Q := D L S w) (R := fun cs x bs => L.lay false w cs x bs ∧ ∀ b ∈ bs, S b) (fun a b h => h) h2
  have hr : ∀ b ∈ rowB s xs, b ∈ (blkOf s).toList := by
    intro b hb
    cases xs with
    | nil => simp [rowB] at hb
    | cons x xs => simpa [rowB] using hb
  refine ⟨_, ⟨s, css, bss, rfl, h6.imp fun _ _ _ _ _ _ h => h.1, h3, h1, fun b h => (hb b (hr b h)).2, rfl⟩, fun b h => ?_⟩
  rcases List.mem_append.1 h with h | h
  · exact (hb b (hr b h)).1
  · obtain ⟨l, hl, h⟩ := List.mem_flatten.1 h
    obtain ⟨_, _, _, _, q⟩ := h6.mem3 l hl
    exact q.2 b h
/-- An element that is only read, behind a row of one's own. -/
theorem O.appDn {t ty y : Nat} (hE : elB P t = some (E, L.n, y)) {z : List Value} (hz : zeroB P E = some z) (hzs : z.length = L.n) (h0 : 0 < L.n) {sv : Value} {xs : List α} {x : α} {cs : List Value} {b o c : Nat}
    (ho : O (LList E mx L) S w [sv] xs) (hx : D L S1 w cs x) (hd : ∀ b, b < w.heap.size → S b → ¬ S1 b) (hA : At w b o cs) (hl : xs.length + 1 ≤ mx) (hy : mx * y ≤ 140737488355328) (hm2 : mx ≤ 140737488355328) :
    Ret (b_append P #[t, t] ty #[sv, .slice (some ⟨b, o, none⟩) 1 c] w) fun r => ∃ a' c', r.1 = .slice a' (xs.length + 1) c' ∧
      D (LList E mx L) (fun b => S b ∨ S1 b ∨ (w.heap.size ≤ b ∧ b < r.2.heap.size)) r.2 [.slice a' (xs.length + 1) c'] (xs ++ [x]) ∧ Mod S w r.2 := by
  obtain ⟨c0, h1, h2, h3, hmx⟩ := ho.un
  have hb1 : (xs.length + 1) * y ≤ mx * y := Nat.mul_le_mul_right _ hl
  refine Ret.mono (app_own hE hz hzs h0 h1 (Nat.zero_le _) hA (by rw [hx.len, Nat.one_mul]) hx.one (by omega) (by omega) (by omega)) ?_
  rintro ⟨s1, w1⟩ ⟨h4, h5, h6⟩
  dsimp only at *
  have hg : ∀ b, b < w.heap.size → b ∉ (blkOf sv).toList → hp w1 b = hp w b := fun b hb hn => h5.blk b hb fun e => hn (by simp [e])
  have k1 := (h2.keep (w' := w1) fun b hb hs => hg b hs hb.2.1).d2
  have k2 := hx.lt.keep (w' := w1) fun b hb hs => hg b hs fun h => hd b hs (h3 b h).1 hb.1
  obtain ⟨a', c', e1, hn1, hAt⟩ := h4.at
  have k3 : All2 (D L (fun b => S b ∨ S1 b ∨ (w.heap.size ≤ b ∧ b < w1.heap.size)) w1) (c0 ++ [cs]) (xs ++ [x]) := by
    refine All2.app (k1.imp fun _ _ h => h.wide fun b q _ => .inl q.1) (k2.wide fun b q _ => .inr (.inl q.1))
  have hS1 : Sl w1 s1 (xs ++ [x]).length (c0 ++ [cs]).flatten := by
    have h7 := h4.sl
    rw [List.length_append, List.flatten_append]
    simpa using h7
  have hm : (xs ++ [x]).length ≤ mx := by rw [List.length_append]; exact hl
  have k4 := D.ofSl (E := E) hS1 k3 (fun b hb => by
    rcases h6 with h6 | ⟨g, h6, h7, h8⟩
    · rw [h6] at hb
      exact ⟨.inl (h3 b hb).1, Nat.lt_of_lt_of_le (h3 b hb).2 h5.size⟩
    · rw [h6] at hb
      simp only [Option.toList_some, List.mem_singleton] at hb
      subst hb
      exact ⟨.inr (.inr ⟨h7, h8⟩), h8⟩) hm
  refine ⟨a', c', e1, e1 ▸ k4, ⟨h5.os, h5.tape, h5.output, h5.size, fun b hb hn => h5.blk b hb fun e => hn (h3 b (by simp [e])).1⟩⟩
/-- Element i of an owned row, taken out; and put back as something that is only read. -/
theorem O.rowD {a : Option Addr} {n c : Nat} {xs : List α} (h : O (LList E mx L) S w [.slice a n c] xs) (h0 : 0 < L.n) {i : Nat} {x : α} (hi : xs[i]? = some x) :
    ∃ g cur cs S1, a = some ⟨g, 0, none⟩ ∧ S g ∧ g < w.heap.size ∧ hp w g = some (.cells (rowv cur (i * L.n) cs).toArray E (0, 0)) ∧ i * L.n + L.n ≤ cur.length ∧ O L S1 w cs x ∧ (∀ b, S1 b → S b ∧ b ≠ g ∧ b < w.heap.size) ∧
      ∀ (w' : World) (cs' : List Value) (x' : α) (S2 : Nat → Prop), D L S2 w' cs' x' → hp w' g = some (.cells (rowv cur (i * L.n) cs').toArray E (0, 0)) → (∀ b, b < w.heap.size → S b → b ≠ g → ¬ S1 b → hp w' b = hp w b) → D (LList E mx L) (fun b => S b ∨ S2 b) w' [.slice a n c] (xs.set i x') := by
  obtain ⟨bs, ⟨s', css, bss, he, h3, hm, h1, rfl⟩, hn, hS⟩ := h
  obtain rfl : .slice a n c = s' := by simpa using he
  obtain ⟨cs, bx, h4, h5, h6⟩ := h3.get hi
  have hil : i < xs.length := (List.getElem?_eq_some_iff.1 hi).1
  have hcl : ∀ c ∈ css, c.length = L.n := fun c hc => by obtain ⟨x, _, z, _, h⟩ := h3.mem1 c hc; exact L.len h
  obtain ⟨e1, e2, ho⟩ := h1
  rcases ho with ⟨_, hz⟩ | ⟨g, cap, cur, hs, hg, hh, hc, hcm, hcs, ht⟩
  · omega
  simp only [Value.slice.injEq] at hs
  obtain ⟨rfl, rfl, rfl⟩ := hs
  have hlen := h3.length
  have hfl := sum_flat hcl
  have him : (i + 1) * L.n ≤ xs.length * L.n := Nat.mul_le_mul_right _ hil
  have hcm2 : xs.length * L.n ≤ c * L.n := Nat.mul_le_mul_right _ hc
  have hgm : g ∈ (blkOf (.slice (some ⟨g, 0, none⟩) xs.length c)).toList := by simp [blkOf]
  have hAt : ∀ (j : Nat) v, cs[j]? = some v → cur.toList[i * L.n + j]? = some v := fun j v hv => by
    have h7 := flat_get css i cs hcl h4 j v hv
    rw [← ht, List.getElem?_take] at h7
    split at h7
    · exact h7
    · contradiction
  have hbx : ∀ b ∈ bx, b ∈ bss.flatten := fun b hb => List.mem_flatten.2 ⟨bx, List.mem_of_getElem? h5, hb⟩
  rw [List.nodup_append] at hn
  have hnf : (bss.flatMap id).Nodup := by simpa [List.flatMap] using hn.2.1
  have nbx : bx.Nodup := by
    obtain ⟨l1, l2, hl⟩ := List.append_of_mem (List.mem_of_getElem? h5)
    have := hn.2.1
    rw [hl, List.flatten_append, List.flatten_cons, List.nodup_append, List.nodup_append] at this
    exact this.2.1.1
  have hgl : g < w.heap.size := Yq hh
  have hcl' := hcl cs (List.mem_of_getElem? h4)
  have hcz : cur.toList.length = cur.size := by simp
  have him' := him
  rw [Nat.succ_mul] at him'
  refine ⟨g, cur.toList, cs, (· ∈ bx), rfl, hS g (List.mem_append_left _ hgm), hgl, ?_, by omega, ⟨bx, h6, nbx, fun b hb => hb⟩, fun b hb => ⟨hS b (List.mem_append_right _ (hbx b hb)), fun e => hn.2.2 g hgm b (hbx b hb) e.symm, L.lt h6 b hb⟩, ?_⟩
  · rw [rowv_self (n := L.n), hh]
    apply List.ext_getElem?
    intro j
    rw [List.getElem?_take]
    rcases Nat.lt_or_ge j L.n with hj | hj
    · rw [if_pos hj, List.getElem?_drop, hAt j (cs[j]'(by omega)) (List.getElem?_eq_getElem (by omega)), List.getElem?_eq_getElem (by omega)]
    · rw [if_neg (by omega), List.getElem?_eq_none (by omega)]
  · intro w' cs' x' S2 k1 hw hk
    have lcs' := k1.len
    have hlenc : css.length = xs.length := hlen.1
    have hall : All2 (D L (fun b => S b ∨ S2 b) w') (css.set i cs') (xs.set i x') := by
      have h2 : All2 (fun _ _ => True) css xs := All2.of3 h3 fun _ _ _ _ _ => trivial
      refine All2.set i h2 (fun j cj xj hj hcj hxj _ => ?_) (k1.wide fun b h _ => .inr h)
      obtain ⟨cj', bl, g1, g2, g3⟩ := h3.get hxj
      obtain rfl : cj = cj' := by rw [hcj] at g1; exact Option.some.inj g1
      obtain ⟨bl', g4, g5⟩ := L.read g3
      have hbf : ∀ b ∈ bl, b ∈ bss.flatten := fun b hb => List.mem_flatten.2 ⟨bl, List.mem_of_getElem? g2, hb⟩
      refine D.keep (w := w) ⟨bl', g4, fun b hb => (?_ : (S b ∧ b ∈ bl))⟩ (fun b hb hs => hk b hs hb.1 (fun e => hn.2.2 g hgm b (hbf b hb.2) e.symm) fun hbb => flat_apart (f := id) hnf g2 h5 hj b hb.2 hbb) |>.wide (fun b h _ => .inl h.1)
      exact ⟨hS b (List.mem_append_right _ (hbf b (g5 b hb))), g5 b hb⟩
    have hlen2 : (css.set i cs').flatten.length = css.flatten.length := by
      rw [hfl, sum_flat (n := L.n), List.length_set]
      intro d hd
      rcases List.mem_or_eq_of_mem_set hd with h | h
      · exact hcl d h
      · rw [h]; exact lcs'
    have hSl : Sl w' (.slice (some ⟨g, 0, none⟩) xs.length c) (xs.set i x').length (css.set i cs').flatten := by
      refine ⟨some ⟨g, 0, none⟩, c, by rw [List.length_set], by rw [List.length_set]; omega, .inr ⟨g, 0, rfl, fun j v hv => ?_⟩⟩
      rw [hw, cellO_some, ← nth_eq, Nat.zero_add]
      have ht2 := take_splice (cur := cur.toList) (cs := cs') (o := i * L.n) (N := css.flatten.length) (by rw [hfl, hlenc]; omega) (by rw [hfl, hlenc]; omega)
      have hfe : (css.set i cs').flatten = (rowv cur.toList (i * L.n) cs').take css.flatten.length := by
        unfold rowv
        rw [ht2, show cur.toList.take css.flatten.length = css.flatten by rw [hfl, hlenc]; exact ht, flat_set i hcl (by omega) lcs', Zl, lcs']
      rw [hfe, List.getElem?_take] at hv
      split at hv
      · exact hv
      · contradiction
    have := D.ofSl (E := E) (mx := mx) hSl hall (fun b hb => by
      have hbg : b = g := by simpa [blkOf] using hb
      subst hbg
      exact ⟨.inl (hS b (List.mem_append_left _ hgm)), Yq hw⟩) (by rw [List.length_set]; exact hm)
    exact this
theorem D.take {a : Option Addr} {n c k : Nat} {xs : List α} (h : D (LList E mx L) S w [.slice a n c] xs) (hk : k ≤ n) : D (LList E mx L) S w [.slice a k c] (xs.take k) := by
  have hn := h.n
  obtain ⟨bs, ⟨s', css, bss, he, h3, hm, ⟨⟨a', c', e1, hn9, h1⟩, hlt, rfl⟩⟩, hS⟩ := h
  obtain rfl : .slice a n c = s' := by simpa using he
  simp only [Value.slice.injEq] at e1
  obtain ⟨rfl, _, rfl⟩ := e1
  have hl : (xs.take k).length = k := by rw [List.length_take]; omega
  have hbr : ∀ z ∈ rowB (.slice a k c) (xs.take k), z ∈ rowB (.slice a n c) xs := by
    intro z hz
    cases xs with
    | nil => simp [rowB] at hz
    | cons y ys =>
      cases k with
      | zero => simp [rowB] at hz
      | succ k =>
        cases a with
        | none => simp [rowB, blkOf] at hz
        | some _ => simpa [rowB, blkOf] using hz
  have hfl : ∀ z ∈ (bss.take k).flatten, z ∈ bss.flatten := by
    intro z hz
    obtain ⟨l, hl, hz⟩ := List.mem_flatten.1 hz
    exact List.mem_flatten.2 ⟨l, List.mem_of_mem_take hl, hz⟩
  refine ⟨_, ⟨_, css.take k, bss.take k, rfl, h3.take k, by omega, ⟨a, c, by rw [hl], by omega, ?_⟩, fun b hb => hlt b (hbr b hb), rfl⟩, fun b hb => ?_⟩
  · rcases h1 with h1 | ⟨b, o, rfl, h1⟩
    · left
      have e : css.flatten = (css.take k).flatten ++ (css.drop k).flatten := by rw [← List.flatten_append, List.take_append_drop]
      rw [e] at h1
      exact (List.append_eq_nil_iff.1 h1).1
    · right
      refine ⟨b, o, rfl, fun j v hv => h1 j v ?_⟩
      have e : css.flatten = (css.take k).flatten ++ (css.drop k).flatten := by rw [← List.flatten_append, List.take_append_drop]
      rw [e, List.getElem?_append_left ((List.getElem?_eq_some_iff.1 hv).1)]
      exact hv
  · rcases List.mem_append.1 hb with hb | hb
    · exact hS b (List.mem_append_left _ (hbr b hb))
    · exact hS b (List.mem_append_right _ (hfl b hb))
end
end Go.Ev
