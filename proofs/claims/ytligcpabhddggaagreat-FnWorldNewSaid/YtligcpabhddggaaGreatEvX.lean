/- A part of the proof, without conditions. -/
import Derived.Test.YtligcpabhddggaaGreatEvI
set_option linter.unusedVariables false
set_option linter.unusedSimpArgs false
namespace Go.Ev
open Go Go.RowKit
/-! ### Texts -/
def bts (l : List UInt8) : ByteArray := ⟨l.toArray⟩
theorem bts_size (l : List UInt8) : (bts l).size = l.length := by simp [bts, ByteArray.size]
theorem bts_of (s : ByteArray) : bts s.toList = s := by
  rw [ByteArray.toList_eq]
  cases s
  simp [bts]
theorem text_ext {a b : ByteArray} (h : a.toList = b.toList) : a = b := by rw [← bts_of a, h, bts_of]
def verEq (a b : Ver) : Bool := (a.key == b.key) && ((a.tag == b.tag) && ((a.past == b.past) && ((a.text.toList == b.text.toList) && (a.gone == b.gone))))
theorem verEq_iff {a b : Ver} : verEq a b = true ↔ a = b := by
  obtain ⟨k, t, p, x, g⟩ := a
  obtain ⟨k', t', p', x', g'⟩ := b
  simp only [verEq, Bool.and_eq_true, beq_iff_eq, Ver.mk.injEq]
  exact ⟨fun ⟨h1, h2, h3, h4, h5⟩ => ⟨h1, h2, h3, text_ext h4, h5⟩, fun ⟨h1, h2, h3, h4, h5⟩ => ⟨h1, h2, h3, by rw [h4], h5⟩⟩
theorem tmod_nat (a b : Nat) : (a : Int).tmod (b : Int) = ((a % b : Nat) : Int) := by
  rw [Int.tmod_eq_emod_of_nonneg (by omega)]; rfl
theorem tdiv_nat (a b : Nat) : (a : Int).tdiv (b : Int) = ((a / b : Nat) : Int) := by
  rw [Int.tdiv_eq_ediv_of_nonneg (by omega)]; rfl
/-! ### Short names: many laws in one (simp takes each part) -/
theorem one_cell {v : Value} [One v] : v.oneCell' = true := One.h.2
theorem qz : type_of% (And.intro @World.size_alloc (And.intro @size_setRow (And.intro @dw_size (And.intro @List.length_set.{0} (And.intro @Array.length_toList.{0} (And.intro @List.length_cons.{0} (And.intro @List.length_nil.{0} (And.intro @List.length_append.{0} (And.intro @bts_size (And.intro @List.all_cons.{0} (And.intro @List.all_nil.{0} (And.intro @one_cell (And.intro @Bool.and_self @Bool.and_true))))))))))))) := And.intro @World.size_alloc (And.intro @size_setRow (And.intro @dw_size (And.intro @List.length_set.{0} (And.intro @Array.length_toList.{0} (And.intro @List.length_cons.{0} (And.intro @List.length_nil.{0} (And.intro @List.length_append.{0} (And.intro @bts_size (And.intro @List.all_cons.{0} (And.intro @List.all_nil.{0} (And.intro @one_cell (And.intro @Bool.and_self @Bool.and_true))))))))))))
theorem qs : type_of% (And.intro @hp_alloc_lt (And.intro @hp_alloc_eq (And.intro @hp_set_ne (And.intro @wrap_small (And.intro @ups_ap_cons (And.intro @ups_ap_nil (And.intro @upd_same (And.intro @upd_other (And.intro @env0_ap0 (And.intro @env0_aps (And.intro @xt_a (And.intro @xt_b (And.intro @xt_c @nk_ptr))))))))))))) := And.intro @hp_alloc_lt (And.intro @hp_alloc_eq (And.intro @hp_set_ne (And.intro @wrap_small (And.intro @ups_ap_cons (And.intro @ups_ap_nil (And.intro @upd_same (And.intro @upd_other (And.intro @env0_ap0 (And.intro @env0_aps (And.intro @xt_a (And.intro @xt_b (And.intro @xt_c @nk_ptr))))))))))))
theorem qm : type_of% (And.intro @stR_box (And.intro @stR_boxA (And.intro @stR_row (And.intro @stR_row0 (And.intro @stR_row1 (And.intro @stR_rowA (And.intro @stR_rowA0 (And.intro @splice_rowv (And.intro @splice_rowv0 (And.intro @splice_rowv1 (And.intro @splice_z (And.intro @splice_n (And.intro @splice_s (And.intro @nth_rowv (And.intro @nth_rowv0 (And.intro @nth_rowv1 @rowv_len)))))))))))))))) := And.intro @stR_box (And.intro @stR_boxA (And.intro @stR_row (And.intro @stR_row0 (And.intro @stR_row1 (And.intro @stR_rowA (And.intro @stR_rowA0 (And.intro @splice_rowv (And.intro @splice_rowv0 (And.intro @splice_rowv1 (And.intro @splice_z (And.intro @splice_n (And.intro @splice_s (And.intro @nth_rowv (And.intro @nth_rowv0 (And.intro @nth_rowv1 @rowv_len)))))))))))))))
theorem qk : type_of% (And.intro @hp_alloc_lt (And.intro @hp_set_ne @hp_dw)) := And.intro @hp_alloc_lt (And.intro @hp_set_ne @hp_dw)
/-! ### Short proofs: what is left to a tactic each time -/
theorem xD {p : Prop} (h : p := by first | assumption | ((try simp only [qz]) <;> omega) | fail) : p := h
theorem xF {p : Prop} (h : p := by first | assumption | ((try simp only [qz, In]) <;> omega) | fail) : p := h
theorem xE {w w' : World} (h : Ext w w' := by (repeat (first | exact Ext.rfl | assumption | (refine Ext.al ?_ _) | (refine Ext.dw ?_) | (refine Ext.set ?_ (by (try simp only [qz]); omega) _) | (refine Ext.tr ?_ (by assumption))))) : Ext w w' := h
theorem xM {S : Nat → Prop} {w w' : World} (h : Mod S w w' := by (repeat (first | exact Mod.rfl | assumption | (refine Mod.al ?_ _) | (refine Mod.dw' ?_) | (refine Mod.set' ?_ (by first | (left; (try simp only [qz]); omega) | (right; assumption) | (right; simp; done)) _) | (refine Mod.ex ?_ (by assumption))))) : Mod S w w' := h
theorem xA {p : Prop} (h : p := by first | omega | assumption | rfl | exact congrArg i64 (by omega) | (simp; done) | (simp; omega)) : p := h
theorem xB {p : Prop} (h : p := by (try simp only [qz]); omega) : p := h
theorem xN {p : Prop} (h : p := by (try simp only [In, qz] at *); omega) : p := h
theorem xI {p : Prop} (h : p := by intro x hx h; (try dsimp only at h); (try simp only [In, qz] at *); omega) : p := h
theorem xV {p : Prop} (h : p := by intro b h1 h2; (try dsimp only at h1); (try simp only [In, qz] at *); omega) : p := h
/-! ### A row of one's own, whose elements may be shared -/
section
variable {α : Type} {L : Lay α} {S S' : Nat → Prop} {w w' : World} {E mx g : Nat}
def Row1 (L : Lay α) (E : TypeId) (S : Nat → Prop) (w : World) (g : Nat) (xs : List α) : Prop :=
  ∃ css cur, hp w g = some (.cells cur E (0, 0)) ∧ css.flatten.length ≤ cur.size ∧ cur.toList.take css.flatten.length = css.flatten ∧ All2 (D L S w) css xs ∧ ∀ b, S b → b ≠ g
theorem All2.of3 {β γ δ : Type} {R : β → γ → δ → Prop} {Q : β → γ → Prop} : ∀ {l : List β} {m : List γ} {n : List δ}, All3 R l m n → (∀ a b c, c ∈ n → R a b c → Q a b) → All2 Q l m
  | [], [], [], _, _ => trivial
  | a :: l, b :: m, c :: n, h, k => ⟨k a b c List.mem_cons_self h.1, All2.of3 h.2 fun x y z hz => k x y z (List.mem_cons_of_mem _ hz)⟩
  | [], _ :: _, _, h, _ => h.elim
  | [], [], _ :: _, h, _ => h.elim
  | _ :: _, [], _, h, _ => h.elim
  | _ :: _, _ :: _, [], h, _ => h.elim
theorem Els.d2 {css : List (List Value)} {xs : List α} (h : Els L S w css xs) : All2 (D L S w) css xs := by
  obtain ⟨bss, h3, hn, hS⟩ := h
  refine All2.of3 h3 fun a b c hc h => ?_
  obtain ⟨bs, h4, h5⟩ := L.read h
  exact ⟨bs, h4, fun x hx => hS x (List.mem_flatten.2 ⟨c, hc, h5 x hx⟩)⟩
theorem O.row1 {xs : List α} {n c : Nat} (h : O (LList E mx L) S w [.slice (some ⟨g, 0, none⟩) n c] xs) : Row1 L E (fun b => S b ∧ b ≠ g) w g xs := by
  obtain ⟨css, h1, h2, h3, h4⟩ := h.un
  obtain ⟨l1, l2, ho⟩ := h1
  rcases ho with ⟨h, _⟩ | ⟨g', cap, cur, he, _, hh, hc, _, hs, ht⟩
  · cases h
  · simp only [Value.slice.injEq, Option.some.injEq, Addr.mk.injEq, and_true] at he
    obtain ⟨rfl, rfl, rfl⟩ := he
    have hm : xs.length * L.n ≤ c * L.n := Nat.mul_le_mul_right _ hc
    refine ⟨css, cur, hh, by omega, by rw [l1]; exact ht, ?_, fun b hb => hb.2⟩
    have := h2.wide (S' := fun b => S b ∧ b ≠ g) fun b hb _ => ⟨hb.1, fun e => hb.2.1 (by simp [blkOf, e])⟩
    exact this.d2
theorem Row1.len {xs : List α} (h : Row1 L E S w g xs) : g < w.heap.size := by obtain ⟨css, cur, h1, _⟩ := h; exact hp_lt h1
theorem Row1.keep {xs : List α} (h : Row1 L E S w g xs) (k : ∀ b, (S b ∨ b = g) → b < w.heap.size → hp w' b = hp w b) : Row1 L E S w' g xs := by
  obtain ⟨css, cur, h1, h2, h3, h4, h5⟩ := h
  exact ⟨css, cur, (k g (.inr rfl) (hp_lt h1)).trans h1, h2, h3, h4.imp fun _ _ h => h.keep fun b hb hs => k b (.inl hb) hs, h5⟩
theorem Row1.wide {xs : List α} (h : Row1 L E S w g xs) (k : ∀ b, S b → b < w.heap.size → S' b) (hg : ∀ b, S' b → b ≠ g) : Row1 L E S' w g xs := by
  obtain ⟨css, cur, h1, h2, h3, h4, h5⟩ := h
  exact ⟨css, cur, h1, h2, h3, h4.imp fun _ _ h => h.wide k, hg⟩
theorem Row1.d {xs : List α} (h : Row1 L E S w g xs) (hm : xs.length ≤ mx) (hx : xs.length ≤ 9223372036854775807) (c : Nat) : D (LList E mx L) (fun b => S b ∨ b = g) w [.slice (some ⟨g, 0, none⟩) xs.length c] xs := by
  obtain ⟨css, cur, h1, h2, h3, h4, h5⟩ := h
  obtain ⟨bss, h6⟩ := All3.of2 (Q := D L S w) (R := fun cs x bs => L.lay false w cs x bs ∧ ∀ b ∈ bs, S b) (fun a b h => h) h4
  have hr : ∀ b ∈ rowB (.slice (some ⟨g, 0, none⟩) xs.length c) xs, b = g := by
    intro b hb
    cases xs with
    | nil => simp [rowB] at hb
    | cons x xs => simpa [rowB, blkOf] using hb
  refine ⟨_, ⟨_, css, bss, rfl, h6.imp fun _ _ _ _ _ _ h => h.1, hm, ⟨_, _, rfl, hx, .inr ⟨g, 0, rfl, ?_⟩⟩, fun b hb => by rw [hr b hb]; exact hp_lt h1, rfl⟩, fun b hb => ?_⟩
  · intro j v hv
    rw [h1, cellO_some, ← nth_eq, Nat.zero_add]
    rw [← h3, List.getElem?_take] at hv
    split at hv
    · exact hv
    · contradiction
  · rcases List.mem_append.1 hb with hb | hb
    · exact .inr (hr b hb)
    · obtain ⟨l, hl, hb⟩ := List.mem_flatten.1 hb
      obtain ⟨_, _, _, _, h⟩ := h6.mem3 l hl
      exact .inl (h.2 b hb)
theorem Row1.row {xs : List α} (h : Row1 L E S w g xs) {i : Nat} {x : α} (hi : xs[i]? = some x) :
    ∃ cur cs, hp w g = some (.cells (rowv cur (i * L.n) cs).toArray E (0, 0)) ∧ i * L.n + L.n ≤ cur.length ∧ cs.length = L.n ∧ D L S w cs x ∧
      ∀ (w' : World) (cs' : List Value) (x' : α), D L S w' cs' x' → hp w' g = some (.cells (rowv cur (i * L.n) cs').toArray E (0, 0)) → (∀ b, b < w.heap.size → S b → hp w' b = hp w b) → Row1 L E S w' g (xs.set i x') := by
  obtain ⟨css, cur, h1, h2, h3, h4, h5⟩ := h
  obtain ⟨cs, hc, hd⟩ := h4.get hi
  have hcl : ∀ c ∈ css, c.length = L.n := fun c hc => by obtain ⟨x, _, h⟩ := h4.mem hc; exact h.len
  have hil : i < css.length := (List.getElem?_eq_some_iff.1 hc).1
  have hfl := sum_flat hcl
  have him : (i + 1) * L.n ≤ css.length * L.n := Nat.mul_le_mul_right _ hil
  rw [Nat.succ_mul] at him
  have hcz : cur.toList.length = cur.size := by simp
  have hAt : ∀ (j : Nat) v, cs[j]? = some v → cur.toList[i * L.n + j]? = some v := fun j v hv => by
    have h7 := flat_get css i cs hcl hc j v hv
    rw [← h3, List.getElem?_take] at h7
    split at h7
    · exact h7
    · contradiction
  have hcs := hcl cs (List.mem_of_getElem? hc)
  have hrow : rowv cur.toList (i * L.n) cs = cur.toList := by
    refine rowv_self (n := L.n) ?_
    apply List.ext_getElem?
    intro j
    rw [List.getElem?_take]
    rcases Nat.lt_or_ge j L.n with hj | hj
    · rw [if_pos hj, List.getElem?_drop, hAt j (cs[j]'(by omega)) (List.getElem?_eq_getElem (by omega)), List.getElem?_eq_getElem (by omega)]
    · rw [if_neg (by omega), List.getElem?_eq_none (by omega)]
  refine ⟨cur.toList, cs, by rw [hrow]; exact h1, by omega, hcs, hd, fun w' cs' x' k1 k2 k3 => ?_⟩
  have lcs' := k1.len
  have hlen : (css.set i cs').flatten.length = css.flatten.length := by
    rw [hfl, sum_flat (n := L.n), List.length_set]
    intro d hd
    rcases List.mem_or_eq_of_mem_set hd with h | h
    · exact hcl d h
    · rw [h]; exact lcs'
  refine ⟨css.set i cs', _, k2, ?_, ?_, All2.set i h4 (fun _ _ _ _ _ _ h => h.keep fun b hb hs => k3 b hs hb) k1, h5⟩
  · rw [hlen, List.size_toArray, rowv_len (by omega)]; omega
  · have ht := take_splice (cur := cur.toList) (cs := cs') (o := i * L.n) (N := css.flatten.length) (by omega) (by omega)
    rw [hlen, List.toList_toArray]
    unfold rowv
    rw [ht, h3, flat_set i hcl hil lcs', splice_eq, lcs']
end
/-! ### Clipped rows -/
section
variable {P : Program} {α : Type} {L : Lay α} {S : Nat → Prop} {w : World} {E : TypeId} {mx : Nat} {xs : List α}
theorem O.clip {a : Option Addr} {n c : Nat} (h : O (LList E mx L) S w [.slice a n c] xs) : n ≤ c ∧ c ≤ 9223372036854775807 ∧ O (LList E mx L) S w [.slice a n n] xs := by
  obtain ⟨bs, ⟨s, css, bss, hs, h3, hm, hO, hb⟩, hn, hS⟩ := h
  obtain rfl := (List.cons.inj hs).1
  obtain ⟨hl, hn9, ho⟩ := hO
  rcases ho with ⟨h1, h0⟩ | ⟨g, cap, cur, h1, hg, hh, hc, hcm, hsz, ht⟩
  · cases h1
    exact ⟨Nat.le_refl _, by omega, bs, ⟨_, css, bss, rfl, h3, hm, ⟨hl, hn9, .inl ⟨rfl, h0⟩⟩, hb⟩, hn, hS⟩
  · cases h1
    exact ⟨hc, hcm, bs, ⟨_, css, bss, rfl, h3, hm, ⟨hl, hn9, .inr ⟨g, xs.length, cur, rfl, hg, hh, Nat.le_refl _, hn9, Nat.le_trans (Nat.mul_le_mul_right _ hc) hsz, ht⟩⟩, hb⟩, hn, hS⟩
end
/-! ### Plain laws of tags, causes and stores -/
theorem tag_ext {a b : Tag} (h1 : a.t = b.t) (h2 : a.p = b.p) : a = b := by cases a; cases b; simp_all
theorem pastOk_iff {xs : List Tag} : pastOk xs = true ↔ xs.all tagOk = true ∧ xs.length = 4 := by simp [pastOk]
theorem storeOk_iff {xs : List Ver} : storeOk xs = true ↔ slots 0 xs = true ∧ xs.length = 4 := by simp [storeOk]
theorem slots_get : ∀ {xs : List Ver} {i k : Nat} {x : Ver}, slots i xs = true → xs[k]? = some x → slotOk (i + k) x = true
  | a :: xs, i, 0, x, h, hx => by
    simp only [slots, Bool.and_eq_true] at h
    obtain rfl : a = x := by simpa using hx
    exact h.1
  | a :: xs, i, k + 1, x, h, hx => by
    simp only [slots, Bool.and_eq_true] at h
    have := slots_get (i := i + 1) (k := k) h.2 (by simpa using hx)
    rwa [show i + 1 + k = i + (k + 1) by omega] at this
  | [], _, _, _, _, hx => by simp at hx
/-! ### Parts of an owned row -/
section
variable {P : Program}
variable {α : Type} {L : Lay α} {S S1 : Nat → Prop} {w : World} {E mx : Nat}
theorem D.ofSl {s : Value} {css : List (List Value)} {xs : List α} (h1 : Sl w s xs.length css.flatten) (h2 : All2 (D L S w) css xs) (hb : ∀ b ∈ (blkOf s).toList, S b ∧ b < w.heap.size) (h3 : xs.length ≤ mx) : D (LList E mx L) S w [s] xs := by
  obtain ⟨bss, h6⟩ := All3.of2 (Q := D L S w) (R := fun cs x bs => L.lay false w cs x bs ∧ ∀ b ∈ bs, S b) (fun a b h => h) h2
  have hr : ∀ b ∈ rowB s xs, b ∈ (blkOf s).toList := by
    intro b hb
    cases xs with
    | nil => simp [rowB] at hb
    | cons x xs => simpa [rowB] using hb
  refine ⟨_, ⟨s, css, bss, rfl, h6.imp fun _ _ _ _ _ _ h => h.1, h3, h1, fun b h => (hb b (hr b h)).2, rfl⟩, fun b h => ?_⟩
  rcases List.mem_append.1 h with h | h
  · exact (hb b (hr b h)).1
  · obtain ⟨l, hl, h⟩ := List.mem_flatten.1 h
    obtain ⟨_, _, _, _, q⟩ := h6.mem3 l hl
    exact q.2 b h
theorem D.take {a : Option Addr} {n c k : Nat} {xs : List α} (h : D (LList E mx L) S w [.slice a n c] xs) (hk : k ≤ n) : D (LList E mx L) S w [.slice a k c] (xs.take k) := by
  have hn := h.n
  obtain ⟨bs, ⟨s', css, bss, he, h3, hm, ⟨⟨a', c', e1, hn9, h1⟩, hlt, rfl⟩⟩, hS⟩ := h
  obtain rfl : .slice a n c = s' := by simpa using he
  simp only [Value.slice.injEq] at e1
  obtain ⟨rfl, _, rfl⟩ := e1
  have hl : (xs.take k).length = k := by rw [List.length_take]; omega
  have hbr : ∀ z ∈ rowB (.slice a k c) (xs.take k), z ∈ rowB (.slice a n c) xs := by
    intro z hz
    cases xs with
    | nil => simp [rowB] at hz
    | cons y ys =>
      cases k with
      | zero => simp [rowB] at hz
      | succ k =>
        cases a with
        | none => simp [rowB, blkOf] at hz
        | some _ => simpa [rowB, blkOf] using hz
  have hfl : ∀ z ∈ (bss.take k).flatten, z ∈ bss.flatten := by
    intro z hz
    obtain ⟨l, hl, hz⟩ := List.mem_flatten.1 hz
    exact List.mem_flatten.2 ⟨l, List.mem_of_mem_take hl, hz⟩
  refine ⟨_, ⟨_, css.take k, bss.take k, rfl, h3.take k, by omega, ⟨a, c, by rw [hl], by omega, ?_⟩, fun b hb => hlt b (hbr b hb), rfl⟩, fun b hb => ?_⟩
  · rcases h1 with h1 | ⟨b, o, rfl, h1⟩
    · left
      have e : css.flatten = (css.take k).flatten ++ (css.drop k).flatten := by rw [← List.flatten_append, List.take_append_drop]
      rw [e] at h1
      exact (List.append_eq_nil_iff.1 h1).1
    · right
      refine ⟨b, o, rfl, fun j v hv => h1 j v ?_⟩
      have e : css.flatten = (css.take k).flatten ++ (css.drop k).flatten := by rw [← List.flatten_append, List.take_append_drop]
      rw [e, List.getElem?_append_left ((List.getElem?_eq_some_iff.1 hv).1)]
      exact hv
  · rcases List.mem_append.1 hb with hb | hb
    · exact hS b (List.mem_append_left _ (hbr b hb))
    · exact hS b (List.mem_append_right _ (hfl b hb))
end
/-! ### Places -/
structure PlaceD where
  me : Int
  clock : Int
  chain : List CNode
  log : List Ver
  got : List (List Ver)
  fell : Bool
abbrev LVerSS (E F G : TypeId) : Lay (List (List Ver)) := LList G 5864062014805 (LVers E F)
def LPlace (E F N G : TypeId) : Lay PlaceD := LMap (LPair LInt (LPair LInt (LPair (LNodes E F N) (LPair (LVers E F) (LPair (LVerSS E F G) LBool))))) fun p => (p.me, p.clock, p.chain, p.log, p.got, p.fell)
theorem LList_n {α : Type} {L : Lay α} {E mx : Nat} : (LList E mx L).n = 1 := rfl
section
variable {E F N G : TypeId} {S : Nat → Prop} {w : World} {cs : List Value} {p : PlaceD}
theorem LPlace_n : (LPlace E F N G).n = 6 := rfl
theorem D.place : D (LPlace E F N G) S w cs p ↔ ∃ a c a1 c1 a2 c2, cs = [i64 p.me, i64 p.clock, .slice a p.chain.length c, .slice a1 p.log.length c1, .slice a2 p.got.length c2, .bool p.fell] ∧
    D (LNodes E F N) S w [.slice a p.chain.length c] p.chain ∧ D (LVers E F) S w [.slice a1 p.log.length c1] p.log ∧ D (LVerSS E F G) S w [.slice a2 p.got.length c2] p.got := by
  unfold LPlace
  rw [D.map]
  simp only [D.pair]
  constructor
  · rintro ⟨c1, d1, rfl, h1, c2, d2, rfl, h2, c3, d3, rfl, h3, c4, d4, rfl, h4, c5, d5, rfl, h5, h6⟩
    obtain rfl := D.int.1 h1
    obtain rfl := D.int.1 h2
    obtain rfl := D.bool.1 h6
    obtain ⟨a, c, rfl, h3⟩ := h3.sl'
    obtain ⟨a1, c1, rfl, h4⟩ := h4.sl'
    obtain ⟨a2, c2, rfl, h5⟩ := h5.sl'
    exact ⟨a, c, a1, c1, a2, c2, rfl, h3, h4, h5⟩
  · rintro ⟨a, c, a1, c1, a2, c2, rfl, h3, h4, h5⟩
    exact ⟨[_], _, rfl, D.int.2 rfl, [_], _, rfl, D.int.2 rfl, [_], _, rfl, h3, [_], _, rfl, h4, [_], [_], rfl, h5, D.bool.2 rfl⟩
theorem O.place_mk {S1 S2 S3 : Nat → Prop} {s t u : Value} (h1 : O (LNodes E F N) S1 w [s] p.chain) (h2 : O (LVers E F) S2 w [t] p.log) (h3 : O (LVerSS E F G) S3 w [u] p.got) (d12 : ∀ b, b < w.heap.size → S1 b → ¬ S2 b) (d13 : ∀ b, b < w.heap.size → S1 b → ¬ S3 b) (d23 : ∀ b, b < w.heap.size → S2 b → ¬ S3 b) :
    O (LPlace E F N G) (fun b => S1 b ∨ S2 b ∨ S3 b) w [i64 p.me, i64 p.clock, s, t, u, .bool p.fell] p := by
  unfold LPlace
  rw [O.map]
  have k5 := O.pair (p := (p.got, p.fell)) (S2 := fun _ => False) h3 (O.bool.2 rfl) (fun _ _ _ h => h)
  have k4 := O.pair (p := (p.log, p.got, p.fell)) h2 k5 (fun b hb h h' => h'.elim (d23 b hb h) id)
  have k3 := O.pair (p := (p.chain, p.log, p.got, p.fell)) h1 k4 (fun b hb h h' => h'.elim (d12 b hb h) fun h' => h'.elim (d13 b hb h) id)
  have k2 := O.pair (p := (p.clock, p.chain, p.log, p.got, p.fell)) (S1 := fun _ => False) (O.int.2 rfl) k3 (fun _ _ h => h.elim)
  have k1 := O.pair (p := (p.me, p.clock, p.chain, p.log, p.got, p.fell)) (S1 := fun _ => False) (O.int.2 rfl) k2 (fun _ _ h => h.elim)
  exact k1.wide fun b h _ => by
    rcases h with h | h | h | h | h | h
    · exact h.elim
    · exact h.elim
    · exact .inl h
    · exact .inr (.inl h)
    · exact .inr (.inr h)
    · exact h.elim
theorem O.place_un (h : O (LPlace E F N G) S w cs p) : ∃ a c a1 c1 a2 c2 S1 S2 S3, cs = [i64 p.me, i64 p.clock, .slice a p.chain.length c, .slice a1 p.log.length c1, .slice a2 p.got.length c2, .bool p.fell] ∧
    O (LNodes E F N) S1 w [.slice a p.chain.length c] p.chain ∧ O (LVers E F) S2 w [.slice a1 p.log.length c1] p.log ∧ O (LVerSS E F G) S3 w [.slice a2 p.got.length c2] p.got ∧
    (∀ b, S1 b → S b ∧ ¬ S2 b ∧ ¬ S3 b ∧ b < w.heap.size) ∧ (∀ b, S2 b → S b ∧ ¬ S1 b ∧ ¬ S3 b ∧ b < w.heap.size) ∧ (∀ b, S3 b → S b ∧ ¬ S1 b ∧ ¬ S2 b ∧ b < w.heap.size) := by
  unfold LPlace at h
  rw [O.map] at h
  obtain ⟨e1, f1, A1, B1, rfl, h1, k1, x1, y1⟩ := h.unpair
  obtain ⟨e2, f2, A2, B2, rfl, h2, k2, x2, y2⟩ := k1.unpair
  obtain ⟨e3, f3, A3, B3, rfl, h3, k3, x3, y3⟩ := k2.unpair
  obtain ⟨e4, f4, A4, B4, rfl, h4, k4, x4, y4⟩ := k3.unpair
  obtain ⟨e5, f5, A5, B5, rfl, h5, k5, x5, y5⟩ := k4.unpair
  obtain rfl := O.int.1 h1
  obtain rfl := O.int.1 h2
  obtain rfl := O.bool.1 k5
  obtain ⟨a, c, rfl, h3⟩ := h3.sl'
  obtain ⟨a1, c1, rfl, h4⟩ := h4.sl'
  obtain ⟨a2, c2, rfl, h5⟩ := h5.sl'
  refine ⟨a, c, a1, c1, a2, c2, A3, A4, A5, rfl, h3, h4, h5, fun b hb => ?_, fun b hb => ?_, fun b hb => ?_⟩
  · have q3 := x3 b hb
    exact ⟨(y1 b (y2 b q3.1).1).1, fun h => q3.2.1 (x4 b h).1, fun h => q3.2.1 (y4 b (x5 b h).1).1, q3.2.2⟩
  · have q4 := x4 b hb
    have q3 := y3 b q4.1
    exact ⟨(y1 b (y2 b q3.1).1).1, q3.2.1, fun h => q4.2.1 (x5 b h).1, q4.2.2⟩
  · have q5 := x5 b hb
    have q4 := y4 b q5.1
    have q3 := y3 b q4.1
    exact ⟨(y1 b (y2 b q3.1).1).1, q3.2.1, q4.2.1, q5.2.2⟩
end
end Go.Ev
