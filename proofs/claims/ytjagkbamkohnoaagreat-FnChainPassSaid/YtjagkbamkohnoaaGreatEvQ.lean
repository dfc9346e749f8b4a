/- A part of the proof: an evaluator of the model, its laws, and contracts of functions; no condition. -/
import Derived.Laws.CopyRow
import Derived.Test.YtjagkbamkohnoaaGreatEvO
set_option linter.unusedVariables false
set_option linter.unusedSimpArgs false
namespace Go.Ev
open Go Go.RowKit
/-! ### Cutting an element out of a row in place -/
section
variable {P : Program}
theorem app_at {t ty e s y : Nat} (h : elB P t = some (e, s, y)) {w : World} {g cap : Nat} {cur : Array Value} (hh : hp w g = some (.cells cur e (0, 0))) {b o m c : Nat} {news : List Value} (hA : At w b o news) (hn : news.length = m * s) (h1 : news.all Value.oneCell' = true) (hroom : m ≤ cap) (hfit : news.length ≤ cur.size) :
    b_append P #[t, t] ty #[.slice (some ⟨g, 0, none⟩) 0 cap, .slice (some ⟨b, o, none⟩) m c] w = some (.slice (some ⟨g, 0, none⟩) m cap, w.setRow g (news ++ cur.toList.drop news.length).toArray) := by
  obtain ⟨hu, i, hi, h4, h5⟩ := elB_spec h
  have hA' : ∀ j u, news[j]? = Option.some u → w.cell? ((⟨b, o, none⟩ : Addr).add j) = Option.some u := fun j u hu => by rw [add_lit, cell?_eq]; exact hA j u hu
  have h1' : ∀ u ∈ news, u.oneCell' = true := fun u hu => List.all_eq_true.1 h1 u hu
  have hr := run_append_room (P := P) w t ty e i hu hi g 0 cap cur hh ⟨b, o, none⟩ m c news (by rw [h4]; exact hn) hA' h1' (by omega) (by omega)
  have hx := congrArg ro hr
  simp only [Nat.zero_mul, Nat.zero_add, List.take_zero, List.nil_append] at hx
  exact hx
theorem clr_at {t ty e s y : Nat} (h : elB P t = some (e, s, y)) {z : List Value} (hz : zeroB P e = some z) (hzs : z.length = s) (hz1 : z.all Value.oneCell' = true) {w : World} {g o c : Nat} {cur : Array Value} (hh : hp w g = some (.cells cur e (0, 0))) (hfit : o + s ≤ cur.size) :
    b_clear P #[t] ty #[.slice (some ⟨g, o, none⟩) 1 c] w = some (.tuple #[], w.setRow g (cur.toList.take o ++ z ++ cur.toList.drop (o + s)).toArray) := by
  obtain ⟨hu, i, hi, h4, h5⟩ := elB_spec h
  obtain ⟨i', zv, hi', hv, h6⟩ := zeroB_spec hz
  rw [hi] at hi'
  cases hi'
  have hzc : (Builtin.zeroCells zv.cells 1).toList = z := by
    rw [← h6]
    apply List.ext_getElem
    · simp [Builtin.zeroCells]
    · intro j h1 h2
      simp [Builtin.zeroCells] at h1 ⊢
      simp only [Array.getElem!_eq_getD, Nat.mod_eq_of_lt h1]
      simp [Array.getD, h1]
  have hst := run_storeCells_at (P := P) g o e z 0 cur w hh (by rw [Nat.add_zero, hzs]; exact hfit) (fun v hv => List.all_eq_true.1 hz1 v hv)
  rw [Nat.add_zero, hzs] at hst
  simp [b_clear, Builtin.clear_, run_underlying hu, zeroValue, typeInfo, hi, hv, hzc, hst, ro]
theorem sl_l1 {t e : TypeId} {z : Nat × Nat} (h : elB P t = Option.some (e, z)) {b o len : Nat} (h1 : 1 ≤ len) (w : World) :
    sl P t (.slice (Option.some ⟨b, o, none⟩) len 1) (Option.some (i64 1)) none none w = Option.some (.slice (Option.some ⟨b, o, none⟩) (len - 1) 0, w) := by
  obtain ⟨hu, hs⟩ := elem_eq h
  simp only [sl, run_sliceAt_slice w t _ _ _ _ hu, run_slice_l w t _ len 1 hu .i64 1 (by omega) (by omega), run_sizeOf' hs, Result.andThen_ok, sliced, ro]
  simp
theorem sl_lh {t e : TypeId} {z : Nat × Nat} (h : elB P t = Option.some (e, z)) {b o len cap : Nat} {l n : Int} (h0 : 0 ≤ l) (h1 : l ≤ n) (h2 : n ≤ cap) (h3 : l.toNat ≠ cap) (w : World) :
    sl P t (.slice (Option.some ⟨b, o, none⟩) len cap) (Option.some (i64 l)) (Option.some (i64 n)) none w = Option.some (.slice (Option.some ⟨b, o + l.toNat * z.1, none⟩) (n.toNat - l.toNat) (cap - l.toNat), w) := by
  obtain ⟨hu, hs⟩ := elem_eq h
  simp only [sl, run_sliceAt_slice w t _ _ _ _ hu, run_slice_lh w t _ len cap hu .i64 .i64 l n h0 h1 h2, run_sizeOf' hs, Result.andThen_ok, sliced, ro]
  simp [add_lit, Ne.symm h3]
theorem sl_lhm {t e : TypeId} {z : Nat × Nat} (h : elB P t = Option.some (e, z)) {a : Option Addr} {len cap : Nat} {l n m : Int} (h0 : 0 ≤ l) (h1 : l ≤ n) (h2 : n ≤ m) (h3 : m ≤ cap) (w : World) :
    ∃ v, sl P t (.slice a len cap) (Option.some (i64 l)) (Option.some (i64 n)) (Option.some (i64 m)) w = Option.some (v, w) := by
  obtain ⟨hu, hs⟩ := elem_eq h
  refine ⟨sliced a l.toNat n.toNat m.toNat z.1, ?_⟩
  simp only [sl, run_sliceAt_slice w t _ _ _ _ hu, run_slice_lhm w t a len cap hu .i64 .i64 .i64 l n m h0 h1 h2 h3, run_sizeOf' hs, Result.andThen_ok, ro]
end
section
variable {α : Type} {L : Lay α} {S S' : Nat → Prop} {w : World} {E : TypeId} {mx : Nat}
/-- As O.elem: what the element had is given up. -/
theorem O.elem2 {a : Option Addr} {n c : Nat} {xs : List α} (h : O (LList E mx L) S w [.slice a n c] xs) (h0 : 0 < L.n) {i : Nat} {x : α} (hi : xs[i]? = some x) :
    ∃ g cur cs S1, a = some ⟨g, 0, none⟩ ∧ S g ∧ g < w.heap.size ∧ hp w g = some (.cells cur E (0, 0)) ∧ (i + 1) * L.n ≤ cur.size ∧ (cur.toList.drop (i * L.n)).take L.n = cs ∧ At w g (i * L.n) cs ∧ O L S1 w cs x ∧ (∀ b, S1 b → S b ∧ b ≠ g ∧ b < w.heap.size) ∧
      ∀ (w' : World) (cs' : List Value) (x' : α) (S2 : Nat → Prop), O L S2 w' cs' x' → hp w' g = some (.cells (splice cur.toList (i * L.n) cs').toArray E (0, 0)) → (∀ b, b < w.heap.size → S b → b ≠ g → ¬ S1 b → hp w' b = hp w b) →
        (∀ b, b < w'.heap.size → S2 b → S1 b ∨ ¬ (b < w.heap.size ∧ S b)) → O (LList E mx L) (fun b => (S b ∧ ¬ S1 b) ∨ S2 b) w' [.slice a n c] (xs.set i x') := by
  obtain ⟨bs, ⟨s', css, bss, he, h3, hm, h1, rfl⟩, hn, hS⟩ := h
  obtain rfl : .slice a n c = s' := by simpa using he
  obtain ⟨cs, bx, h4, h5, h6⟩ := h3.get hi
  have hil : i < xs.length := (List.getElem?_eq_some_iff.1 hi).1
  have hcl : ∀ c ∈ css, c.length = L.n := fun c hc => by obtain ⟨x, _, z, _, h⟩ := h3.mem1 c hc; exact L.len h
  obtain ⟨e1, e2, ho⟩ := h1
  rcases ho with ⟨_, hz⟩ | ⟨g, cap, cur, hs, hg, hh, hc, hcm, hcs, ht⟩
  · omega
  simp only [Value.slice.injEq] at hs
  obtain ⟨rfl, rfl, rfl⟩ := hs
  have hlen := h3.length
  have hfl := sum_flat hcl
  have him : (i + 1) * L.n ≤ xs.length * L.n := Nat.mul_le_mul_right _ hil
  have hcm2 : xs.length * L.n ≤ c * L.n := Nat.mul_le_mul_right _ hc
  have hgm : g ∈ (blkOf (.slice (some ⟨g, 0, none⟩) xs.length c)).toList := by simp [blkOf]
  have hAt : ∀ (j : Nat) v, cs[j]? = some v → cur.toList[i * L.n + j]? = some v := fun j v hv => by
    have h7 := flat_get css i cs hcl h4 j v hv
    rw [← ht, List.getElem?_take] at h7
    split at h7
    · exact h7
    · contradiction
  have hbx : ∀ b ∈ bx, b ∈ bss.flatten := fun b hb => List.mem_flatten.2 ⟨bx, List.mem_of_getElem? h5, hb⟩
  rw [List.nodup_append] at hn
  have hnf : (bss.flatMap id).Nodup := by simpa [List.flatMap] using hn.2.1
  have nbx : bx.Nodup := by
    obtain ⟨l1, l2, hl⟩ := List.append_of_mem (List.mem_of_getElem? h5)
    have := hn.2.1
    rw [hl, List.flatten_append, List.flatten_cons, List.nodup_append, List.nodup_append] at this
    exact this.2.1.1
  have hgl : g < w.heap.size := Yq hh
  refine ⟨g, cur, cs, (· ∈ bx), rfl, hS g (List.mem_append_left _ hgm), hgl, hh, by omega, ?_, fun j v hv => ?_, ⟨bx, h6, nbx, fun b hb => hb⟩, fun b hb => ⟨hS b (List.mem_append_right _ (hbx b hb)), fun e => hn.2.2 g hgm b (hbx b hb) e.symm, L.lt h6 b hb⟩, ?_⟩
  · apply List.ext_getElem?
    intro j
    have hcl' := hcl cs (List.mem_of_getElem? h4)
    rw [List.getElem?_take]
    rcases Nat.lt_or_ge j L.n with hj | hj
    · rw [if_pos hj, List.getElem?_drop, hAt j (cs[j]'(by omega)) (List.getElem?_eq_getElem (by omega)), List.getElem?_eq_getElem (by omega)]
    · rw [if_neg (by omega), List.getElem?_eq_none (by omega)]
  · rw [hh, cellO_some, ← nth_eq]; exact hAt j v hv
  · rintro w' cs' x' S2 ⟨b2, k1, k2, k3⟩ hw hk hdis
    have lcs' := L.len k1
    have hilb : i < bss.length := by omega
    have hilc : i < css.length := by omega
    have hkeep : All3 (L.lay true w') (css.set i cs') (xs.set i x') (bss.set i b2) := by
      have hq : ∀ {css : List (List Value)} {xs : List α} {bss : List (List Nat)} (i : Nat), All3 (L.lay true w) css xs bss → (∀ (j : Nat) (bl : List Nat), j ≠ i → bss[j]? = some bl → ∀ b ∈ bl, hp w' b = hp w b) → All3 (L.lay true w') (css.set i cs') (xs.set i x') (bss.set i b2) := by
        intro css
        induction css with
        | nil => intro xs bss i h _; cases xs <;> cases bss <;> first | exact h | exact h.elim
        | cons d css ih =>
          intro xs bss i h hb
          cases xs with
          | nil => exact h.elim
          | cons y xs =>
            cases bss with
            | nil => exact h.elim
            | cons e bss =>
              cases i with
              | zero => exact ⟨k1, h.2.imp fun p q r hp hq hr hl => L.keep hl fun b hbr => by
                  obtain ⟨j, hj⟩ := List.getElem?_of_mem hr
                  exact hb (j + 1) r (by omega) (by simpa using hj) b hbr⟩
              | succ i => exact ⟨L.keep h.1 fun b hbr => hb 0 e (by omega) rfl b hbr, ih i h.2 fun j bl hj hl b hbb => hb (j + 1) bl (by omega) (by simpa using hl) b hbb⟩
      refine hq i h3 fun j bl hj hl b hb => ?_
      have hbf : b ∈ bss.flatten := List.mem_flatten.2 ⟨bl, List.mem_of_getElem? hl, hb⟩
      refine hk b ?_ (hS b (List.mem_append_right _ hbf)) (fun e => hn.2.2 g hgm b hbf e.symm) fun hbb => flat_apart (f := id) hnf hl h5 hj b hb hbb
      obtain ⟨y, _, z, _, h⟩ := h3.mem3 bl (List.mem_of_getElem? hl)
      exact L.lt h b hb
    refine ⟨(blkOf (.slice (some ⟨g, 0, none⟩) xs.length c)).toList ++ (bss.set i b2).flatten, ⟨_, css.set i cs', bss.set i b2, rfl, hkeep, by simpa using hm, ⟨?_, by simpa using e2, .inr ⟨g, c, _, by rw [List.length_set], by omega, hw, by simpa using hc, hcm, ?_, ?_⟩⟩, rfl⟩, ?_, ?_⟩
    · rw [sum_flat (n := L.n), List.length_set, List.length_set, hlen.1]
      intro d hd
      rcases List.mem_or_eq_of_mem_set hd with h | h
      · exact hcl d h
      · rw [h]; exact lcs'
    · rw [Zl]
      simp only [List.size_toArray, List.length_append, List.length_take, List.length_drop, Array.length_toList, lcs']
      rw [Nat.succ_mul] at him
      omega
    · rw [Nat.succ_mul] at him
      have hcz : cur.toList.length = cur.size := by simp
      rw [flat_set i hcl hilc lcs', ← ht, List.length_set, List.toList_toArray, take_splice (by rw [lcs']; omega) (by omega), Zl, lcs']
    · rw [List.nodup_append]
      have hmem : ∀ b ∈ (bss.set i b2).flatten, b ∈ b2 ∨ ∃ j bl, j ≠ i ∧ bss[j]? = some bl ∧ b ∈ bl := by
        intro b hb
        obtain ⟨l, hl, hb⟩ := List.mem_flatten.1 hb
        obtain ⟨j, hj⟩ := List.getElem?_of_mem hl
        rw [List.getElem?_set] at hj
        split at hj
        · obtain rfl : b2 = l := by simpa [hilb] using hj
          exact .inl hb
        · exact .inr ⟨j, l, by omega, hj, hb⟩
      have k4 : ∀ b ∈ b2, b ∈ bx ∨ ¬ (b < w.heap.size ∧ S b) := fun b hb => hdis b (L.lt k1 b hb) (k3 b hb)
      refine ⟨by simp [blkOf], ?_, ?_⟩
      · have hq : ∀ {bss : List (List Nat)} (i : Nat), bss.flatten.Nodup → (∀ b ∈ b2, ∀ (j : Nat) (bl : List Nat), j ≠ i → bss[j]? = some bl → b ∉ bl) → (bss.set i b2).flatten.Nodup := by
          intro bss
          induction bss with
          | nil => intro i h _; simp
          | cons e bss ih =>
            intro i h hb
            rw [List.flatten_cons, List.nodup_append] at h
            cases i with
            | zero =>
              rw [List.set_cons_zero, List.flatten_cons, List.nodup_append]
              refine ⟨k2, h.2.1, fun p hp q hq e => ?_⟩
              subst e
              obtain ⟨l, hl, hq⟩ := List.mem_flatten.1 hq
              obtain ⟨j, hj⟩ := List.getElem?_of_mem hl
              exact hb p hp (j + 1) l (by omega) (by simpa using hj) hq
            | succ i =>
              rw [List.set_cons_succ, List.flatten_cons, List.nodup_append]
              refine ⟨h.1, ih i h.2.1 fun b hbb j bl hj hl => hb b hbb (j + 1) bl (by omega) (by simpa using hl), fun p hp q hq e' => ?_⟩
              subst e'
              obtain ⟨l, hl, hq⟩ := List.mem_flatten.1 hq
              obtain ⟨j, hj⟩ := List.getElem?_of_mem hl
              rw [List.getElem?_set] at hj
              split at hj
              · split at hj
                · obtain rfl := Option.some.inj hj
                  exact hb p hq 0 e (by omega) rfl hp
                · contradiction
              · exact h.2.2 p hp p (List.mem_flatten.2 ⟨l, List.mem_of_getElem? hj, hq⟩) rfl
        refine hq i hn.2.1 fun b hb j bl hj hl hbl => ?_
        rcases k4 b hb with h | h
        · exact flat_apart (f := id) hnf hl h5 hj b hbl h
        · refine h ⟨?_, hS b (List.mem_append_right _ (List.mem_flatten.2 ⟨bl, List.mem_of_getElem? hl, hbl⟩))⟩
          obtain ⟨y, _, z, _, h⟩ := h3.mem3 bl (List.mem_of_getElem? hl)
          exact L.lt h b hbl
      · intro p hp q hq e
        subst e
        have hpg : p = g := by simpa [blkOf] using hp
        subst hpg
        rcases hmem p hq with h | ⟨j, bl, _, hl, h⟩
        · rcases k4 p h with h | h
          · exact hn.2.2 p hgm p (hbx p h) rfl
          · exact h ⟨hgl, hS p (List.mem_append_left _ hgm)⟩
        · exact hn.2.2 p hgm p (List.mem_flatten.2 ⟨bl, List.mem_of_getElem? hl, h⟩) rfl
    · intro b hb
      rcases List.mem_append.1 hb with hb | hb
      · have hbg : b = g := by simpa [blkOf] using hb
        subst hbg
        exact .inl ⟨hS b (List.mem_append_left _ hgm), fun h => hn.2.2 b hgm b (hbx b h) rfl⟩
      · obtain ⟨l, hl, hb⟩ := List.mem_flatten.1 hb
        obtain ⟨j, hj⟩ := List.getElem?_of_mem hl
        rw [List.getElem?_set] at hj
        split at hj
        · obtain rfl : b2 = l := by simpa [hilb] using hj
          exact .inr (k3 b hb)
        · rename_i hji
          exact .inl ⟨hS b (List.mem_append_right _ (List.mem_flatten.2 ⟨l, List.mem_of_getElem? hj, hb⟩)), fun h => flat_apart (f := id) hnf hj h5 (fun e => hji e.symm) b hb h⟩
/-- As O.row: what the element had is given up. -/
theorem O.row2 {a : Option Addr} {n c : Nat} {xs : List α} (h : O (LList E mx L) S w [.slice a n c] xs) (h0 : 0 < L.n) {i : Nat} {x : α} (hi : xs[i]? = some x) :
    ∃ g cur cs S1, a = some ⟨g, 0, none⟩ ∧ S g ∧ g < w.heap.size ∧ hp w g = some (.cells (rowv cur (i * L.n) cs).toArray E (0, 0)) ∧ i * L.n + L.n ≤ cur.length ∧ O L S1 w cs x ∧ (∀ b, S1 b → S b ∧ b ≠ g ∧ b < w.heap.size) ∧
      ∀ (w' : World) (cs' : List Value) (x' : α) (S2 : Nat → Prop), O L S2 w' cs' x' → hp w' g = some (.cells (rowv cur (i * L.n) cs').toArray E (0, 0)) → (∀ b, b < w.heap.size → S b → b ≠ g → ¬ S1 b → hp w' b = hp w b) →
        (∀ b, b < w'.heap.size → S2 b → S1 b ∨ ¬ (b < w.heap.size ∧ S b)) → O (LList E mx L) (fun b => (S b ∧ ¬ S1 b) ∨ S2 b) w' [.slice a n c] (xs.set i x') := by
  obtain ⟨g, cur, cs, S1, h1, h2, h3, h4, h5, h6, h7, h8, h9, h10⟩ := h.elem2 h0 hi
  refine ⟨g, cur.toList, cs, S1, h1, h2, h3, ?_, by rw [Nat.succ_mul] at h5; simpa using h5, h8, h9, h10⟩
  rw [rowv_self h6, h4]
end
end Go.Ev
