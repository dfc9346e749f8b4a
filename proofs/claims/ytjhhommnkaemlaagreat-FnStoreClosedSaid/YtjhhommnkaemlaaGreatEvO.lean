/- A part of the proof, without conditions. -/
import Derived.Test.YtjhhommnkaemlaaGreatEvI
set_option linter.unusedVariables false
set_option linter.unusedSimpArgs false
set_option linter.deprecated false
namespace Go.Ev
open Go Go.RowKit
def VM (l : List UInt8) : ByteArray := ⟨l.toArray⟩
theorem Oh (l : List UInt8) : (VM l).size = l.length := by simp [VM, ByteArray.size]
theorem GQ (a b : Nat) : (a : Int).tmod (b : Int) = ((a % b : Nat) : Int) := by
 rw [Int.tmod_eq_emod_of_nonneg (by omega)]; rfl
theorem Lj (a b : Nat) : (a : Int).tdiv (b : Int) = ((a / b : Nat) : Int) := by
 rw [Int.tdiv_eq_ediv_of_nonneg (by omega)]; rfl
theorem Oi {v : Value} [One v] : v.oneCell' = true := One.h.2
theorem qz : type_of% (And.intro @World.size_alloc (And.intro @size_setRow (And.intro @Ac (And.intro @List.length_set.{0} (And.intro @Array.length_toList.{0} (And.intro @List.length_cons.{0} (And.intro @List.length_nil.{0} (And.intro @List.length_append.{0} (And.intro @Oh (And.intro @List.all_cons.{0} (And.intro @List.all_nil.{0} (And.intro @Oi (And.intro @Bool.and_self @Bool.and_true))))))))))))) := And.intro @World.size_alloc (And.intro @size_setRow (And.intro @Ac (And.intro @List.length_set.{0} (And.intro @Array.length_toList.{0} (And.intro @List.length_cons.{0} (And.intro @List.length_nil.{0} (And.intro @List.length_append.{0} (And.intro @Oh (And.intro @List.all_cons.{0} (And.intro @List.all_nil.{0} (And.intro @Oi (And.intro @Bool.and_self @Bool.and_true))))))))))))
theorem qs : type_of% (And.intro @Ae (And.intro @Af (And.intro @Ad (And.intro @wrap_small (And.intro @Kg (And.intro @LW (And.intro @OP (And.intro @Nk (And.intro @OQ (And.intro @OR (And.intro @Uu (And.intro @Uv (And.intro @Uw @LQ))))))))))))) := And.intro @Ae (And.intro @Af (And.intro @Ad (And.intro @wrap_small (And.intro @Kg (And.intro @LW (And.intro @OP (And.intro @Nk (And.intro @OQ (And.intro @OR (And.intro @Uu (And.intro @Uv (And.intro @Uw @LQ))))))))))))
theorem qm : type_of% (And.intro @PV (And.intro @OV (And.intro @KJ (And.intro @OW (And.intro @OX (And.intro @LY (And.intro @Nn (And.intro @Da (And.intro @Jp (And.intro @Jq (And.intro @OS (And.intro @OT (And.intro @OU (And.intro @Hh (And.intro @Nl (And.intro @Nm @EO)))))))))))))))) := And.intro @PV (And.intro @OV (And.intro @KJ (And.intro @OW (And.intro @OX (And.intro @LY (And.intro @Nn (And.intro @Da (And.intro @Jp (And.intro @Jq (And.intro @OS (And.intro @OT (And.intro @OU (And.intro @Hh (And.intro @Nl (And.intro @Nm @EO)))))))))))))))
theorem qk : type_of% (And.intro @Ae (And.intro @Ad @Bg)) := And.intro @Ae (And.intro @Ad @Bg)
theorem xD {p : Prop} (h : p := by first | assumption | ((try simp only [qz]) <;> omega) | fail) : p := h
theorem xF {p : Prop} (h : p := by first | assumption | ((try simp only [qz, In]) <;> omega) | fail) : p := h
theorem xE {w w' : World} (h : Ext w w' := by (repeat (first | exact Ext.rfl | assumption | (refine Ext.al ?_ _) | (refine Ext.dw ?_) | (refine Ext.set ?_ (by (try simp only [qz]); omega) _) | (refine Ext.tr ?_ (by assumption))))) : Ext w w' := h
theorem xM {S : Nat → Prop} {w w' : World} (h : Mod S w w' := by (repeat (first | exact Mod.rfl | assumption | (refine Mod.al ?_ _) | (refine Mod.Sq ?_) | (refine Mod.AE ?_ (by first | (left; (try simp only [qz]); omega) | (right; assumption) | (right; simp; done)) _) | (refine Mod.ex ?_ (by assumption))))) : Mod S w w' := h
theorem xA {p : Prop} (h : p := by first | omega | assumption | rfl | exact congrArg i64 (by omega) | (simp; done) | (simp; omega)) : p := h
theorem xB {p : Prop} (h : p := by (try simp only [qz]); omega) : p := h
theorem xN {p : Prop} (h : p := by (try simp only [In, qz] at *); omega) : p := h
theorem xI {p : Prop} (h : p := by intro x hx h; (try dsimp only at h); (try simp only [In, qz] at *); omega) : p := h
theorem xV {p : Prop} (h : p := by intro b h1 h2; (try dsimp only at h1); (try simp only [In, qz] at *); omega) : p := h
section
variable {α : Type} {L : Lay α} {S S' : Nat → Prop} {w w' : World} {E mx g : Nat}
def Nv (L : Lay α) (E : TypeId) (S : Nat → Prop) (w : World) (g : Nat) (xs : List α) : Prop :=
 ∃ css cur, hp w g = some (.cells cur E (0, 0)) ∧ css.flatten.length ≤ cur.size ∧ cur.toList.take css.flatten.length = css.flatten ∧ CY (D L S w) css xs ∧ ∀ b, S b → b ≠ g
theorem CY.VN {β γ δ : Type} {R : β → γ → δ → Prop} {Q : β → γ → Prop} : ∀ {l : List β} {m : List γ} {n : List δ}, Bb R l m n → (∀ a b c, c ∈ n → R a b c → Q a b) → CY Q l m
 | [], [], [], _, _ => trivial
 | a :: l, b :: m, c :: n, h, k => ⟨k a b c List.mem_cons_self h.1, CY.VN h.2 fun x y z hz => k x y z (List.mem_cons_of_mem _ hz)⟩
 | [], _ :: _, _, h, _ => h.elim
 | [], [], _ :: _, h, _ => h.elim
 | _ :: _, [], _, h, _ => h.elim
 | _ :: _, _ :: _, [], h, _ => h.elim
theorem FN.d2 {css : List (List Value)} {xs : List α} (h : FN L S w css xs) : CY (D L S w) css xs := by
 obtain ⟨bss, h3, hn, hS⟩ := h
 refine CY.VN h3 fun a b c hc h => ?_
 obtain ⟨bs, h4, h5⟩ := L.read h
 exact ⟨bs, h4, fun x hx => hS x (List.mem_flatten.2 ⟨c, hc, h5 x hx⟩)⟩
theorem O.TV {xs : List α} {n c : Nat} (h : O (AQ E mx L) S w [.slice (some ⟨g, 0, none⟩) n c] xs) : Nv L E (fun b => S b ∧ b ≠ g) w g xs := by
 obtain ⟨css, h1, h2, h3, h4⟩ := h.un
 obtain ⟨l1, l2, ho⟩ := h1
 rcases ho with ⟨h, _⟩ | ⟨g', cap, cur, he, _, hh, hc, _, hs, ht⟩
 ·cases h
 ·simp only [Value.slice.injEq, Option.some.injEq, Addr.mk.injEq, and_true] at he
  obtain ⟨rfl, rfl, rfl⟩ := he
  have hm : xs.length * L.n ≤ c * L.n := Nat.mul_le_mul_right _ hc
  refine ⟨css, cur, hh, by omega, by rw [l1]; exact ht, ?_, fun b hb => hb.2⟩
  have := h2.wide (S' := fun b => S b ∧ b ≠ g) fun b hb _ => ⟨hb.1, fun e => hb.2.1 (by simp [Ax, e])⟩
  exact this.d2
theorem Nv.wide {xs : List α} (h : Nv L E S w g xs) (k : ∀ b, S b → b < w.heap.size → S' b) (hg : ∀ b, S' b → b ≠ g) : Nv L E S' w g xs := by
 obtain ⟨css, cur, h1, h2, h3, h4, h5⟩ := h
 exact ⟨css, cur, h1, h2, h3, h4.imp fun _ _ h => h.wide k, hg⟩
theorem Nv.d {xs : List α} (h : Nv L E S w g xs) (hm : xs.length ≤ mx) (hx : xs.length ≤ 9223372036854775807) (c : Nat) : D (AQ E mx L) (fun b => S b ∨ b = g) w [.slice (some ⟨g, 0, none⟩) xs.length c] xs := by
 obtain ⟨css, cur, h1, h2, h3, h4, h5⟩ := h
 obtain ⟨bss, h6⟩ := Bb.WC (Q := D L S w) (R := fun cs x bs => L.lay false w cs x bs ∧ ∀ b ∈ bs, S b) (fun a b h => h) h4
 have hr : ∀ b ∈ CQ (.slice (some ⟨g, 0, none⟩) xs.length c) xs, b = g := by
  intro b hb
  cases xs with
  | nil => simp [CQ] at hb
  | cons x xs => simpa [CQ, Ax] using hb
 refine ⟨_, ⟨_, css, bss, rfl, h6.imp fun _ _ _ _ _ _ h => h.1, hm, ⟨_, _, rfl, hx, .inr ⟨g, 0, rfl, ?_⟩⟩, fun b hb => by rw [hr b hb]; exact Aq h1, rfl⟩, fun b hb => ?_⟩
 ·intro j v hv
  rw [h1, Bt, ← CX, Nat.zero_add]
  rw [← h3, List.getElem?_take] at hv
  split at hv
  ·exact hv
  ·contradiction
 ·rcases List.mem_append.1 hb with hb | hb
  ·exact .inr (hr b hb)
  ·obtain ⟨l, hl, hb⟩ := List.mem_flatten.1 hb
   obtain ⟨_, _, _, _, h⟩ := h6.Pp l hl
   exact .inl (h.2 b hb)
theorem Nv.row {xs : List α} (h : Nv L E S w g xs) {i : Nat} {x : α} (hi : xs[i]? = some x) :
  ∃ cur cs, hp w g = some (.cells (Ba cur (i * L.n) cs).toArray E (0, 0)) ∧ i * L.n + L.n ≤ cur.length ∧ cs.length = L.n ∧ D L S w cs x ∧
   ∀ (w' : World) (cs' : List Value) (x' : α), D L S w' cs' x' → hp w' g = some (.cells (Ba cur (i * L.n) cs').toArray E (0, 0)) → (∀ b, b < w.heap.size → S b → hp w' b = hp w b) → Nv L E S w' g (xs.set i x') := by
 obtain ⟨css, cur, h1, h2, h3, h4, h5⟩ := h
 obtain ⟨cs, hc, hd⟩ := h4.get hi
 have hcl : ∀ c ∈ css, c.length = L.n := fun c hc => by obtain ⟨x, _, h⟩ := h4.mem hc; exact h.len
 have hil : i < css.length := (List.getElem?_eq_some_iff.1 hc).1
 have hfl := Bh hcl
 have him : (i + 1) * L.n ≤ css.length * L.n := Nat.mul_le_mul_right _ hil
 rw [Nat.succ_mul] at him
 have hcz : cur.toList.length = cur.size := by simp
 have hAt : ∀ (j : Nat) v, cs[j]? = some v → cur.toList[i * L.n + j]? = some v := fun j v hv => by
  have h7 := flat_get css i cs hcl hc j v hv
  rw [← h3, List.getElem?_take] at h7
  split at h7
  ·exact h7
  ·contradiction
 have hcs := hcl cs (List.mem_of_getElem? hc)
 have hrow : Ba cur.toList (i * L.n) cs = cur.toList := by
  refine Ka (n := L.n) ?_
  apply List.ext_getElem?
  intro j
  rw [List.getElem?_take]
  rcases Nat.lt_or_ge j L.n with hj | hj
  ·rw [if_pos hj, List.getElem?_drop, hAt j (cs[j]'(by omega)) (List.getElem?_eq_getElem (by omega)), List.getElem?_eq_getElem (by omega)]
  ·rw [if_neg (by omega), List.getElem?_eq_none (by omega)]
 refine ⟨cur.toList, cs, by rw [hrow]; exact h1, by omega, hcs, hd, fun w' cs' x' k1 k2 k3 => ?_⟩
 have lcs' := k1.len
 have hlen : (css.set i cs').flatten.length = css.flatten.length := by
  rw [hfl, Bh (n := L.n), List.length_set]
  intro d hd
  rcases List.mem_or_eq_of_mem_set hd with h | h
  ·exact hcl d h
  ·rw [h]; exact lcs'
 refine ⟨css.set i cs', _, k2, ?_, ?_, CY.set i h4 (fun _ _ _ _ _ _ h => h.Ak fun b hb hs => k3 b hs hb) k1, h5⟩
 ·rw [hlen, List.size_toArray, EO (by omega)]; omega
 ·have ht := Hf (cur := cur.toList) (cs := cs') (o := i * L.n) (N := css.flatten.length) (by omega) (by omega)
  rw [hlen, List.toList_toArray]
  unfold Ba
  rw [ht, h3, Jo i hcl hil lcs', Aa, lcs']
end
section
variable {P : Program} {α : Type} {L : Lay α} {S : Nat → Prop} {w : World} {E : TypeId} {mx : Nat} {xs : List α}
theorem O.clip {a : Option Addr} {n c : Nat} (h : O (AQ E mx L) S w [.slice a n c] xs) : n ≤ c ∧ c ≤ 9223372036854775807 ∧ O (AQ E mx L) S w [.slice a n n] xs := by
 obtain ⟨bs, ⟨s, css, bss, hs, h3, hm, hO, hb⟩, hn, hS⟩ := h
 obtain rfl := (List.cons.inj hs).1
 obtain ⟨hl, hn9, ho⟩ := hO
 rcases ho with ⟨h1, h0⟩ | ⟨g, cap, cur, h1, hg, hh, hc, hcm, hsz, ht⟩
 ·cases h1
  exact ⟨Nat.le_refl _, by omega, bs, ⟨_, css, bss, rfl, h3, hm, ⟨hl, hn9, .inl ⟨rfl, h0⟩⟩, hb⟩, hn, hS⟩
 ·cases h1
  exact ⟨hc, hcm, bs, ⟨_, css, bss, rfl, h3, hm, ⟨hl, hn9, .inr ⟨g, xs.length, cur, rfl, hg, hh, Nat.le_refl _, hn9, Nat.le_trans (Nat.mul_le_mul_right _ hc) hsz, ht⟩⟩, hb⟩, hn, hS⟩
end
end Go.Ev
