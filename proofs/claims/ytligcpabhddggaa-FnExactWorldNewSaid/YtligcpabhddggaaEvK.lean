/- A part of the proof: an evaluator of the model, its laws, and contracts of functions; no condition. -/
import Derived.Test.YtligcpabhddggaaEvJ
set_option linter.unusedVariables false
set_option linter.unusedSimpArgs false
namespace Go.Ev
open Go Go.RowKit
/-! ### A row of one's own, whose elements may be shared -/
section
variable {α : Type} {L : Lay α} {S S' : Nat → Prop} {w w' : World} {E mx g : Nat}
def Row1 (L : Lay α) (E : TypeId) (S : Nat → Prop) (w : World) (g : Nat) (xs : List α) : Prop :=
  ∃ css cur, hp w g = some (.cells cur E (0, 0)) ∧ css.flatten.length ≤ cur.size ∧ cur.toList.take css.flatten.length = css.flatten ∧ All2 (D L S w) css xs ∧ ∀ b, S b → b ≠ g
theorem All2.of3 {β γ δ : Type} {R : β → γ → δ → Prop} {Q : β → γ → Prop} : ∀ {l : List β} {m : List γ} {n : List δ}, All3 R l m n → (∀ a b c, c ∈ n → R a b c → Q a b) → All2 Q l m
  | [], [], [], _, _ => trivial
  | a :: l, b :: m, c :: n, h, k => ⟨k a b c List.mem_cons_self h.1, All2.of3 h.2 fun x y z hz => k x y z (List.mem_cons_of_mem _ hz)⟩
  | [], _ :: _, _, h, _ => h.elim
  | [], [], _ :: _, h, _ => h.elim
  | _ :: _, [], _, h, _ => h.elim
  | _ :: _, _ :: _, [], h, _ => h.elim
theorem Els.d2 {css : List (List Value)} {xs : List α} (h : Els L S w css xs) : All2 (D L S w) css xs := by
  obtain ⟨bss, h3, hn, hS⟩ := h
  refine All2.of3 h3 fun a b c hc h => ?_
  obtain ⟨bs, h4, h5⟩ := L.read h
  exact ⟨bs, h4, fun x hx => hS x (List.mem_flatten.2 ⟨c, hc, h5 x hx⟩)⟩
theorem Row1.len {xs : List α} (h : Row1 L E S w g xs) : g < w.heap.size := by obtain ⟨css, cur, h1, _⟩ := h; exact hp_lt h1
theorem Row1.keep {xs : List α} (h : Row1 L E S w g xs) (k : ∀ b, (S b ∨ b = g) → b < w.heap.size → hp w' b = hp w b) : Row1 L E S w' g xs := by
  obtain ⟨css, cur, h1, h2, h3, h4, h5⟩ := h
  exact ⟨css, cur, (k g (.inr rfl) (hp_lt h1)).trans h1, h2, h3, h4.imp fun _ _ h => h.keep fun b hb hs => k b (.inl hb) hs, h5⟩
theorem Row1.wide {xs : List α} (h : Row1 L E S w g xs) (k : ∀ b, S b → b < w.heap.size → S' b) (hg : ∀ b, S' b → b ≠ g) : Row1 L E S' w g xs := by
  obtain ⟨css, cur, h1, h2, h3, h4, h5⟩ := h
  exact ⟨css, cur, h1, h2, h3, h4.imp fun _ _ h => h.wide k, hg⟩
theorem Row1.d {xs : List α} (h : Row1 L E S w g xs) (hm : xs.length ≤ mx) (hx : xs.length ≤ 9223372036854775807) (c : Nat) : D (LList E mx L) (fun b => S b ∨ b = g) w [.slice (some ⟨g, 0, none⟩) xs.length c] xs := by
  obtain ⟨css, cur, h1, h2, h3, h4, h5⟩ := h
  obtain ⟨bss, h6⟩ := All3.of2 (Q := D L S w) (R := fun cs x bs => L.lay false w cs x bs ∧ ∀ b ∈ bs, S b) (fun a b h => h) h4
  have hr : ∀ b ∈ rowB (.slice (some ⟨g, 0, none⟩) xs.length c) xs, b = g := by
    intro b hb
    cases xs with
    | nil => simp [rowB] at hb
    | cons x xs => simpa [rowB, blkOf] using hb
  refine ⟨_, ⟨_, css, bss, rfl, h6.imp fun _ _ _ _ _ _ h => h.1, hm, ⟨_, _, rfl, hx, .inr ⟨g, 0, rfl, ?_⟩⟩, fun b hb => by rw [hr b hb]; exact hp_lt h1, rfl⟩, fun b hb => ?_⟩
  · intro j v hv
    rw [h1, cellO_some, ← nth_eq, Nat.zero_add]
    rw [← h3, List.getElem?_take] at hv
    split at hv
    · exact hv
    · contradiction
  · rcases List.mem_append.1 hb with hb | hb
    · exact .inr (hr b hb)
    · obtain ⟨l, hl, hb⟩ := List.mem_flatten.1 hb
      obtain ⟨_, _, _, _, h⟩ := h6.mem3 l hl
      exact .inl (h.2 b hb)
theorem Row1.row {xs : List α} (h : Row1 L E S w g xs) {i : Nat} {x : α} (hi : xs[i]? = some x) :
    ∃ cur cs, hp w g = some (.cells (rowv cur (i * L.n) cs).toArray E (0, 0)) ∧ i * L.n + L.n ≤ cur.length ∧ cs.length = L.n ∧ D L S w cs x ∧
      ∀ (w' : World) (cs' : List Value) (x' : α), D L S w' cs' x' → hp w' g = some (.cells (rowv cur (i * L.n) cs').toArray E (0, 0)) → (∀ b, b < w.heap.size → S b → hp w' b = hp w b) → Row1 L E S w' g (xs.set i x') := by
  obtain ⟨css, cur, h1, h2, h3, h4, h5⟩ := h
  obtain ⟨cs, hc, hd⟩ := h4.get hi
  have hcl : ∀ c ∈ css, c.length = L.n := fun c hc => by obtain ⟨x, _, h⟩ := h4.mem hc; exact h.len
  have hil : i < css.length := (List.getElem?_eq_some_iff.1 hc).1
  have hfl := sum_flat hcl
  have him : (i + 1) * L.n ≤ css.length * L.n := Nat.mul_le_mul_right _ hil
  rw [Nat.succ_mul] at him
  have hcz : cur.toList.length = cur.size := by simp
  have hAt : ∀ (j : Nat) v, cs[j]? = some v → cur.toList[i * L.n + j]? = some v := fun j v hv => by
    have h7 := flat_get css i cs hcl hc j v hv
    rw [← h3, List.getElem?_take] at h7
    split at h7
    · exact h7
    · contradiction
  have hcs := hcl cs (List.mem_of_getElem? hc)
  have hrow : rowv cur.toList (i * L.n) cs = cur.toList := by
    refine rowv_self (n := L.n) ?_
    apply List.ext_getElem?
    intro j
    rw [List.getElem?_take]
    rcases Nat.lt_or_ge j L.n with hj | hj
    · rw [if_pos hj, List.getElem?_drop, hAt j (cs[j]'(by omega)) (List.getElem?_eq_getElem (by omega)), List.getElem?_eq_getElem (by omega)]
    · rw [if_neg (by omega), List.getElem?_eq_none (by omega)]
  refine ⟨cur.toList, cs, by rw [hrow]; exact h1, by omega, hcs, hd, fun w' cs' x' k1 k2 k3 => ?_⟩
  have lcs' := k1.len
  have hlen : (css.set i cs').flatten.length = css.flatten.length := by
    rw [hfl, sum_flat (n := L.n), List.length_set]
    intro d hd
    rcases List.mem_or_eq_of_mem_set hd with h | h
    · exact hcl d h
    · rw [h]; exact lcs'
  refine ⟨css.set i cs', _, k2, ?_, ?_, All2.set i h4 (fun _ _ _ _ _ _ h => h.keep fun b hb hs => k3 b hs hb) k1, h5⟩
  · rw [hlen, List.size_toArray, rowv_len (by omega)]; omega
  · have ht := take_splice (cur := cur.toList) (cs := cs') (o := i * L.n) (N := css.flatten.length) (by omega) (by omega)
    rw [hlen, List.toList_toArray]
    unfold rowv
    rw [ht, h3, flat_set i hcl hil lcs', splice_eq, lcs']
end
end Go.Ev
