/- A part of the proof: an evaluator of the model, its laws, and contracts of functions; no condition. -/
import Derived.Lib.AppendZeros
import Derived.Test.YtligcpabhddggaaEvX
set_option linter.unusedVariables false
set_option linter.unusedSimpArgs false
namespace Go.Ev
open Go Go.RowKit
/-! ### A row made by growing; rows of one's own whose elements are only read -/
section
variable {P : Program} {α : Type} {L : Lay α} {S S1 : Nat → Prop} {w w' : World} {E mx B : Nat}
def OwnD (L : Lay α) (E : TypeId) (S : Nat → Prop) (B : Nat) (w : World) (s : Value) (xs : List α) : Prop :=
  ∃ css, Own w B E L.n s xs.length css.flatten ∧ All2 (D L S w) css xs ∧ ∀ b ∈ (blkOf s).toList, ¬ S b ∧ b < w.heap.size
theorem D.opened {a : Option Addr} {n c : Nat} {xs : List α} (h : D (LList E mx L) S w [.slice a n c] xs) : ∃ css, All2 (D L S w) css xs ∧ (xs = [] ∨ css.flatten = [] ∨ ∃ b o, a = some ⟨b, o, none⟩ ∧ At w b o css.flatten) := by
  obtain ⟨bs, ⟨s', css, bss, he, h3, hm, ⟨⟨a', c', e1, hn, h1⟩, hlt, rfl⟩⟩, hS⟩ := h
  obtain rfl : .slice a n c = s' := by simpa using he
  simp only [Value.slice.injEq] at e1
  obtain ⟨rfl, rfl, rfl⟩ := e1
  refine ⟨css, All2.of3 h3 fun x y z hz h => ⟨z, h, fun b hb => hS b (List.mem_append_right _ (List.mem_flatten.2 ⟨z, hz, hb⟩))⟩, .inr h1⟩
theorem All2.app2 {β γ : Type} {R : β → γ → Prop} : ∀ {l : List β} {m : List γ} {l' : List β} {m' : List γ}, All2 R l m → All2 R l' m' → All2 R (l ++ l') (m ++ m')
  | [], [], _, _, _, h => h
  | a :: l, b :: m, _, _, h, h' => ⟨h.1, All2.app2 h.2 h'⟩
  | [], _ :: _, _, _, h, _ => h.elim
  | _ :: _, [], _, _, h, _ => h.elim
theorem OwnD.keep {s : Value} {xs : List α} (h : OwnD L E S B w s xs) (k : ∀ b, S b ∨ b ∈ (blkOf s).toList → b < w.heap.size → hp w' b = hp w b) (hw : w.heap.size ≤ w'.heap.size) : OwnD L E S B w' s xs := by
  obtain ⟨css, h1, h2, h3⟩ := h
  exact ⟨css, h1.keep fun g hg => k g (.inr (by simp [hg])) (h3 g (by simp [hg])).2, h2.imp fun _ _ h => h.keep fun b hb hs => k b (.inl hb) hs, fun b hb => ⟨(h3 b hb).1, Nat.lt_of_lt_of_le (h3 b hb).2 hw⟩⟩
/-- A row that is read, behind one's own. -/
theorem OwnD.app {t ty y : Nat} (hE : elB P t = some (E, L.n, y)) {z : List Value} (hz : zeroB P E = some z) (hzs : z.length = L.n) (h0 : 0 < L.n) {a0 : Option Addr} {n0 c0 : Nat} {xs ys : List α} {a : Option Addr} {n c : Nat}
    (ho : OwnD L E S B w (.slice a0 n0 c0) xs) (hx : D (LList E mx L) S w [.slice a n c] ys) (hS : ∀ b, S b → b < w.heap.size) (hB : B ≤ w.heap.size) (hl : xs.length + ys.length ≤ mx) (hy : mx * y ≤ 140737488355328) (hm2 : mx ≤ 140737488355328) :
    Ret (b_append P #[t, t] ty #[.slice a0 n0 c0, .slice a n c] w) fun r => ∃ a' c', r.1 = .slice a' (xs.length + ys.length) c' ∧ OwnD L E S B r.2 (.slice a' (xs.length + ys.length) c') (xs ++ ys) ∧ But w r.2 (blkOf (.slice a0 n0 c0)) := by
  have hn := hx.n.1
  obtain ⟨css, k1, k2⟩ := hx.opened
  obtain ⟨c1, h1, h2, h3⟩ := ho
  have hcl : ∀ c ∈ css, c.length = L.n := fun c hc => by obtain ⟨x, _, h⟩ := k1.mem hc; exact h.len
  have hfl := sum_flat hcl
  have hln := k1.length
  have hb1 : (xs.length + ys.length) * y ≤ mx * y := Nat.mul_le_mul_right _ hl
  have hn0 : n0 = xs.length := by
    obtain ⟨_, _, h⟩ := h1
    rcases h with ⟨h, hh⟩ | ⟨_, _, _, h, _⟩
    · simp only [Value.slice.injEq] at h; omega
    · simp only [Value.slice.injEq] at h; omega
  have hn0c : n0 ≤ c0 := by
    obtain ⟨_, _, h⟩ := h1
    rcases h with ⟨h, hh⟩ | ⟨_, _, _, h, _, _, hc, _⟩
    · simp only [Value.slice.injEq] at h; omega
    · simp only [Value.slice.injEq] at h; omega
  by_cases hz0 : ys.length = 0
  · have hnil : ys = [] := List.eq_nil_of_length_eq_zero hz0
    subst hnil
    subst hn
    simp only [List.length_nil, Nat.add_zero, List.append_nil]
    rw [app_none (P := P) (ty := ty) hE a0 a n0 c0 c hn0c w]
    refine ⟨_, rfl, a0, c0, by simp only; rw [hn0], ?_, But.of Ext.rfl _⟩
    rw [← hn0]
    exact ⟨c1, h1, h2, h3⟩
  · obtain ⟨b, o, rfl, hA⟩ : ∃ b o, a = some ⟨b, o, none⟩ ∧ At w b o css.flatten := by
      rcases k2 with h | h | h
      · rw [h] at hz0; exact absurd rfl hz0
      · rw [h] at hfl
        simp only [List.length_nil] at hfl
        have := Nat.mul_pos (show 0 < css.length by omega) h0
        omega
      · exact h
    have hones : css.flatten.all Value.oneCell' = true := by
      rw [List.all_eq_true]
      intro v hv
      obtain ⟨c, hc, hv⟩ := List.mem_flatten.1 hv
      obtain ⟨x, _, h⟩ := k1.mem hc
      exact List.all_eq_true.1 h.one v hv
    subst hn
    refine Ret.mono (app_own hE hz hzs h0 h1 hB hA (by rw [hfl, hln]) hones (by omega) (by omega) (by omega)) ?_
    rintro ⟨s1, w1⟩ ⟨h4, h5, h6⟩
    dsimp only at *
    obtain ⟨a', c', e1, _⟩ := h4.at
    have hg : ∀ b, S b → b < w.heap.size → hp w1 b = hp w b := fun b hb hs => h5.blk b hs fun e => (h3 b (by simp [e])).1 hb
    subst e1
    refine ⟨a', c', rfl, ⟨c1 ++ css, ?_, All2.app2 (h2.imp fun _ _ h => h.keep hg) (k1.imp fun _ _ h => h.keep hg), fun b hb => ?_⟩, h5⟩
    · rw [List.length_append, List.flatten_append]
      exact h4
    · rcases h6 with h6 | ⟨g, h6, h7, h8⟩
      · rw [h6] at hb
        exact ⟨(h3 b hb).1, Nat.lt_of_lt_of_le (h3 b hb).2 h5.size⟩
      · rw [h6] at hb
        simp only [Option.toList_some, List.mem_singleton] at hb
        subst hb
        exact ⟨fun h => absurd (hS b h) (by omega), h8⟩
theorem OwnD.blk {s : Value} {xs : List α} (h : OwnD L E S B w s xs) : ∀ b ∈ (blkOf s).toList, B ≤ b := by
  obtain ⟨css, h1, _⟩ := h
  exact fun b hb => (h1.lt (g := b) (by simpa using hb)).1
theorem OwnD.d {s : Value} {xs : List α} (h : OwnD L E S B w s xs) (hm : xs.length ≤ mx) : D (LList E mx L) (fun b => S b ∨ b ∈ (blkOf s).toList) w [s] xs := by
  obtain ⟨css, h1, h2, h3⟩ := h
  exact D.ofSl h1.sl (h2.imp fun _ _ h => h.wide fun b h _ => .inl h) (fun b hb => ⟨.inr hb, (h3 b hb).2⟩) hm
end
end Go.Ev
