/- A part of the proof: an evaluator of the model, its laws, and contracts of functions; no condition. -/
import Derived.Test.YtggmfmanpjcjkaaGreatEvV
import Derived.Test.YtggmfmanpjcjkaaGreatEvW
import Derived.Test.YtggmfmanpjcjkaaGreatEvU
import Derived.Test.YtggmfmanpjcjkaaGreatS22
set_option linter.unusedVariables false
set_option linter.unusedSimpArgs false
set_option maxRecDepth 100000
set_option maxHeartbeats 1000000
namespace Go.Proofs.YtggmfmanpjcjkaaGreat.X
open Go Go.Ev Go.RowKit
theorem links_iff : ∀ (ns : List CNode), links ns = true ↔ (∀ i a b, ns[i]? = some a → ns[i + 1]? = some b → fitsL b.store a.wait a.store = true) ∧ (∀ a, ns[ns.length - 1]? = some a → a.wait = [])
  | [] => by simp [links]
  | [a] => by
    simp only [links, beq_iff_eq, List.length_eq_zero_iff]
    constructor
    · intro h
      refine ⟨fun i x y hx hy => by simp at hy, fun x hx => ?_⟩
      obtain rfl : a = x := by simpa using hx
      exact h
    · intro h
      exact h.2 a rfl
  | a :: b :: l => by
    have ih := links_iff (b :: l)
    have hl : links (a :: b :: l) = (fitsL b.store a.wait a.store && links (b :: l)) := by rw [links]
    rw [hl, Bool.and_eq_true, ih]
    constructor
    · rintro ⟨h1, h2, h3⟩
      refine ⟨fun i x y hx hy => ?_, fun x hx => h3 x (by simpa using hx)⟩
      cases i with
      | zero =>
        obtain rfl : a = x := by simpa using hx
        obtain rfl : b = y := by simpa using hy
        exact h1
      | succ i => exact h2 i x y (by simpa using hx) (by simpa using hy)
    · rintro ⟨h2, h3⟩
      exact ⟨h2 0 a b rfl rfl, fun i x y hx hy => h2 (i + 1) x y (by simpa using hx) (by simpa using hy), fun x hx => h3 x (by simpa using hx)⟩
theorem chainOk_iff {ns : List CNode} : chainOk ns = true ↔ (1 ≤ ns.length ∧ ns.length ≤ 4) ∧ (∀ x ∈ ns, nodeOk x = true) ∧ links ns = true := by
  simp only [chainOk, lenOk, Bool.and_eq_true, decide_eq_true_eq, List.all_eq_true]
  constructor
  · rintro ⟨⟨h1, h2⟩, h3⟩
    exact ⟨⟨by omega, by omega⟩, h2, h3⟩
  · rintro ⟨h1, h2, h3⟩
    exact ⟨⟨⟨by omega, by omega⟩, h2⟩, h3⟩
theorem fitsL_snoc : ∀ (w s t : List Ver) (v u : Ver), fitsL s w t = true → t[v.key.toNat]? = some u → tagLess u.tag v.tag = true → fitsL s (w ++ [v]) (t.set v.key.toNat v) = true
  | [], s, t, v, u, h, hu, hl => by
    obtain rfl := sameV_iff.1 (show sameV s t = true from h)
    have e : fitsL s ([] ++ [v]) (s.set v.key.toNat v) = (tagLess u.tag v.tag && fitsL (s.set v.key.toNat v) [] (s.set v.key.toNat v)) := by
      rw [List.nil_append]
      simp only [fitsL, hu]
    rw [e, hl, Bool.true_and]
    exact sameV_iff.2 rfl
  | a :: w, s, t, v, u, h, hu, hl => by
    cases hs : s[a.key.toNat]? with
    | none => rw [fitsL, hs] at h; cases h
    | some z =>
      rw [fitsL, hs] at h
      simp only [Bool.and_eq_true] at h
      rw [List.cons_append, fitsL, hs]
      simp only [Bool.and_eq_true]
      exact ⟨h.1, fitsL_snoc w _ t v u h.2 hu hl⟩
theorem nodeOk_iff {n : CNode} : nodeOk n = true ↔ storeOk n.store = true ∧ n.wait.length ≤ 6 ∧ ∀ v ∈ n.wait, verOk v = true := by
  simp only [nodeOk, Bool.and_eq_true, decide_eq_true_eq, List.all_eq_true, and_assoc]
theorem set_ok {st : List Ver} {v u : Ver} (h : storeOk st = true) (hv : verOk v = true) (hu : st[v.key.toNat]? = some u) (hl : tagLess u.tag v.tag = true) : storeOk (st.set v.key.toNat v) = true := by
  rw [← storeAdd_t hu hl]
  exact storeAdd_ok h hv
theorem addAt_eq {ns : List CNode} {i : Nat} {x : CNode} {v u : Ver} (hx : ns[i]? = some x) (hu : x.store[v.key.toNat]? = some u) (hl : tagLess u.tag v.tag = true) : addAt ns i v = ns.set i (addNode x v (decide (ns.length ≤ i + 1))) := by
  rw [addAt, hx]
  simp only [hu, hl, if_true]
theorem addNode_ok {x : CNode} {v u : Ver} {b : Bool} (h : nodeOk x = true) (hv : verOk v = true) (hu : x.store[v.key.toNat]? = some u) (hl : tagLess u.tag v.tag = true) (h6 : x.wait.length < 6) : nodeOk (addNode x v b) = true := by
  rw [nodeOk_iff] at *
  refine ⟨set_ok h.1 hv hu hl, ?_, ?_⟩
  · unfold addNode
    dsimp only
    split
    · omega
    · rw [List.length_append]; simp only [List.length_cons, List.length_nil]; omega
  · intro y hy
    unfold addNode at hy
    dsimp only at hy
    split at hy
    · exact h.2.2 y hy
    · rcases List.mem_append.1 hy with hy | hy
      · exact h.2.2 y hy
      · obtain rfl := List.mem_singleton.1 hy
        exact hv
theorem store_at {st : List Ver} {v : Ver} (h : storeOk st = true) (hv : verOk v = true) : ∃ u, st[v.key.toNat]? = some u := by
  obtain ⟨h0, h3⟩ := ver_key hv
  obtain ⟨u, hu, _⟩ := drop_at (l := st) (k := v.key.toNat) (by rw [(storeOk_iff.1 h).2]; omega)
  exact ⟨u, hu⟩
/-- What passing on does, node by node. -/
theorem pass_eq {ns : List CNode} {k : Nat} {x y : CNode} {v : Ver} {l : List Ver} (h : chainOk ns = true) (hx : ns[k]? = some x) (hy : ns[k + 1]? = some y) (hw : x.wait = v :: l) :
    ∃ u, y.store[v.key.toNat]? = some u ∧ tagLess u.tag v.tag = true ∧ verOk v = true ∧ passAt ns k = (ns.set k ⟨x.store, l⟩).set (k + 1) (addNode y v (decide (ns.length ≤ k + 2))) := by
  rw [chainOk_iff] at h
  obtain ⟨hl14, hn, hk⟩ := h
  rw [links_iff] at hk
  have hxo := hn x (List.mem_of_getElem? hx)
  have hyo := hn y (List.mem_of_getElem? hy)
  have hv : verOk v = true := (nodeOk_iff.1 hxo).2.2 v (by rw [hw]; exact List.mem_cons_self)
  obtain ⟨u, hu⟩ := store_at (nodeOk_iff.1 hyo).1 hv
  have hf := hk.1 k x y hx hy
  rw [hw, fitsL, hu] at hf
  simp only [Bool.and_eq_true] at hf
  refine ⟨u, hu, hf.1, hv, ?_⟩
  rw [passAt_eq hx hw, addAt_eq (x := y) (by rw [List.getElem?_set_ne (by omega)]; exact hy) hu hf.1, List.length_set]
theorem chainOk_pass {ns : List CNode} {k : Nat} {x y : CNode} {v : Ver} {l : List Ver} (h : chainOk ns = true) (hx : ns[k]? = some x) (hy : ns[k + 1]? = some y) (hw : x.wait = v :: l) (h6 : y.wait.length < 6) : chainOk (passAt ns k) = true := by
  obtain ⟨u, hu, hl, hv, e⟩ := pass_eq h hx hy hw
  rw [e]
  rw [chainOk_iff] at h ⊢
  obtain ⟨hl14, hn, hk⟩ := h
  rw [links_iff] at hk ⊢
  have hxo := nodeOk_iff.1 (hn x (List.mem_of_getElem? hx))
  have hyo := hn y (List.mem_of_getElem? hy)
  have hkl : k + 1 < ns.length := (List.getElem?_eq_some_iff.1 hy).1
  have hf := hk.1 k x y hx hy
  rw [hw, fitsL, hu] at hf
  simp only [Bool.and_eq_true] at hf
  have hst : ∀ b, (addNode y v b).store = y.store.set v.key.toNat v := fun _ => rfl
  refine ⟨by rw [List.length_set, List.length_set]; exact hl14, fun z hz => ?_, fun i a b ha hb => ?_, fun a ha => ?_⟩
  · rcases List.mem_or_eq_of_mem_set hz with hz | rfl
    · rcases List.mem_or_eq_of_mem_set hz with hz | rfl
      · exact hn z hz
      · rw [nodeOk_iff]
        refine ⟨hxo.1, ?_, fun w hw' => hxo.2.2 w (by rw [hw]; exact List.mem_cons_of_mem _ hw')⟩
        have := hxo.2.1
        rw [hw] at this
        simp only [List.length_cons] at this
        dsimp only
        omega
    · exact addNode_ok hyo hv hu hl h6
  · by_cases h1 : i = k + 1
    · subst h1
      rw [List.getElem?_set_self (by rw [List.length_set]; omega)] at ha
      obtain rfl := Option.some.inj ha
      rw [List.getElem?_set_ne (by omega), List.getElem?_set_ne (by omega)] at hb
      have hb2 : k + 1 + 1 < ns.length := (List.getElem?_eq_some_iff.1 hb).1
      have h5 := fitsL_snoc _ _ _ v u (hk.1 (k + 1) y b hy hb) hu hl
      unfold addNode
      simp only [show decide (ns.length ≤ k + 2) = false by simp; omega]
      exact h5
    · rw [List.getElem?_set_ne (by omega)] at ha
      by_cases h2 : i = k
      · subst h2
        rw [List.getElem?_set_self (by omega)] at ha
        obtain rfl := Option.some.inj ha
        rw [List.getElem?_set_self (by rw [List.length_set]; omega)] at hb
        obtain rfl := Option.some.inj hb
        rw [hst]
        exact hf.2
      · rw [List.getElem?_set_ne (by omega)] at ha
        rw [List.getElem?_set_ne (by omega)] at hb
        by_cases h3 : i + 1 = k
        · subst h3
          rw [List.getElem?_set_self (by omega)] at hb
          obtain rfl := Option.some.inj hb
          exact hk.1 i a x ha hx
        · rw [List.getElem?_set_ne (by omega)] at hb
          exact hk.1 i a b ha hb
  · rw [List.length_set, List.length_set] at ha
    by_cases h1 : ns.length - 1 = k + 1
    · rw [h1, List.getElem?_set_self (by rw [List.length_set]; omega)] at ha
      obtain rfl := Option.some.inj ha
      unfold addNode
      simp only [show decide (ns.length ≤ k + 2) = true by simp; omega, if_true]
      exact hk.2 y (by rw [h1]; exact hy)
    · rw [List.getElem?_set_ne (by omega), List.getElem?_set_ne (by omega)] at ha
      exact hk.2 a ha
theorem passP_ok {ns : List CNode} {i : Int} (h : chainOk ns = true) : chainOk (passP ns i) = true := by
  unfold passP
  split
  · rename_i hc
    obtain ⟨k, x, y, v, l, rfl, hk, hx, hy, hxw, hy6⟩ := canPass_parts hc
    rw [Int.toNat_natCast]
    exact chainOk_pass h hx hy hxw hy6
  · exact h
/-! ### Draining -/
/-- Node by node, what waits. -/
def waits (ns : List CNode) (i : Nat) : Nat := match ns[i]? with
  | some x => x.wait.length
  | none => 0
def headS (ns : List CNode) : List Ver := match ns[0]? with
  | some x => x.store
  | none => []
theorem waits_le {ns : List CNode} (h : chainOk ns = true) (i : Nat) : waits ns i ≤ 6 := by
  unfold waits
  split
  · rename_i x hx
    exact (nodeOk_iff.1 ((chainOk_iff.1 h).2.1 x (List.mem_of_getElem? hx))).2.1
  · omega
theorem pass_facts {ns : List CNode} (h : chainOk ns = true) (k : Nat) : (passP ns k).length = ns.length ∧ headS (passP ns k) = headS ns ∧
    (∀ i, i ≠ k → i ≠ k + 1 → waits (passP ns k) i = waits ns i) ∧
    ((canPass ns k = true ∧ waits (passP ns k) k + 1 = waits ns k ∧ waits (passP ns k) (k + 1) ≤ waits ns (k + 1) + 1) ∨ (canPass ns k = false ∧ passP ns k = ns)) := by
  cases hc : canPass ns k
  · have e : passP ns k = ns := by rw [passP, hc]; rfl
    rw [e]
    exact ⟨rfl, rfl, fun _ _ _ => rfl, .inr ⟨rfl, rfl⟩⟩
  · have e : passP ns k = passAt ns k := by rw [passP, hc, if_pos rfl, Int.toNat_natCast]
    rw [e]
    obtain ⟨k', x, y, v, l, hkk, hk, hx, hy, hxw, hy6⟩ := canPass_parts hc
    obtain rfl : k = k' := by omega
    obtain ⟨u, hu, hl, hv, e2⟩ := pass_eq h hx hy hxw
    rw [e2]
    refine ⟨by rw [List.length_set, List.length_set], ?_, fun i h1 h2 => ?_, .inl ⟨rfl, ?_, ?_⟩⟩
    · unfold headS
      rw [List.getElem?_set_ne (by omega)]
      by_cases h0 : k = 0
      · subst h0
        rw [List.getElem?_set_self (by omega), hx]
      · rw [List.getElem?_set_ne (by omega)]
    · unfold waits
      rw [List.getElem?_set_ne (by omega), List.getElem?_set_ne (by omega)]
    · unfold waits
      rw [List.getElem?_set_ne (by omega), List.getElem?_set_self (by omega), hx]
      simp only [hxw, List.length_cons]
    · unfold waits
      rw [List.getElem?_set_self (by rw [List.length_set]; omega), hy]
      unfold addNode
      dsimp only
      split
      · omega
      · rw [List.length_append]; simp
theorem can_of {ns : List CNode} {k : Nat} (h1 : k + 1 < ns.length) (h2 : 0 < waits ns k) (h3 : waits ns (k + 1) < 6) : canPass ns k = true := by
  obtain ⟨x, hx, _⟩ := drop_at (l := ns) (k := k) (by omega)
  obtain ⟨y, hy, _⟩ := drop_at (l := ns) (k := k + 1) (by omega)
  simp only [waits, hx, hy] at h2 h3
  simp only [canPass, Int.toNat_natCast, hx, hy, Bool.and_eq_true, decide_eq_true_eq]
  exact ⟨⟨by omega, by omega⟩, h2, h3⟩
theorem last_empty {ns : List CNode} (h : chainOk ns = true) {k : Nat} (hk : ns.length ≤ k + 1) : waits ns k = 0 := by
  unfold waits
  split
  · rename_i x hx
    have hkl := (List.getElem?_eq_some_iff.1 hx).1
    have := (links_iff ns).1 (chainOk_iff.1 h).2.2 |>.2 x (by rw [show ns.length - 1 = k by omega]; exact hx)
    rw [this]
    rfl
  · rfl
/-- What stands when a sweep comes to node j (those behind are done). -/
structure Swept (t : Nat) (ns ys : List CNode) (j : Nat) : Prop where
  ok : chainOk ys = true
  len : ys.length = ns.length
  hd : headS ys = headS ns
  lo : ∀ i, i < j → waits ys i = waits ns i
  at_ : waits ys j + 1 ≤ waits ns j ∨ waits ys j = 0
  hi : ∀ i, j < i → waits ys i ≤ 6 * (i + 1) - (t + 1)
theorem Swept.next {t j : Nat} {ns ys : List CNode} (h0 : chainOk ns = true) (hb : ∀ i, waits ns i ≤ 6 * (i + 1) - t) (h : Swept t ns ys (j + 1)) : Swept t ns (passP ys j) j := by
  obtain ⟨f1, f2, f3, f4⟩ := pass_facts h.ok j
  have hw := waits_le (passP_ok (i := (j : Int)) h.ok)
  have hlo := h.lo j (by omega)
  have hat := h.at_
  have hbj := hb j
  have hbj1 := hb (j + 1)
  have hw0 := waits_le h0 (j + 1)
  refine ⟨passP_ok h.ok, f1.trans h.len, f2.trans h.hd, fun i hi => ?_, ?_, fun i hi => ?_⟩
  · rw [f3 i (by omega) (by omega)]
    exact h.lo i (by omega)
  · rcases f4 with ⟨_, g1, _⟩ | ⟨g1, g2⟩
    · left
      omega
    · rw [g2]
      rcases Nat.eq_zero_or_pos (waits ys j) with h1 | h1
      · exact .inr h1
      · exfalso
        by_cases hl : j + 1 < ys.length
        · have := can_of hl h1 (by omega)
          rw [this] at g1
          cases g1
        · have := last_empty h.ok (k := j) (by omega)
          omega
  · by_cases h1 : i = j + 1
    · subst h1
      have := hw (j + 1)
      rcases f4 with ⟨_, g1, g2⟩ | ⟨g1, g2⟩
      · omega
      · rw [g2]
        omega
    · rw [f3 i (by omega) (by omega)]
      exact h.hi i (by omega)
theorem Swept.done {t : Nat} {ns ys : List CNode} (hb : ∀ i, waits ns i ≤ 6 * (i + 1) - t) (h : Swept t ns ys 0) : ∀ i, waits ys i ≤ 6 * (i + 1) - (t + 1) := by
  intro i
  cases i with
  | zero =>
    have := h.at_
    have := hb 0
    omega
  | succ i => exact h.hi (i + 1) (by omega)
end Go.Proofs.YtggmfmanpjcjkaaGreat.X
