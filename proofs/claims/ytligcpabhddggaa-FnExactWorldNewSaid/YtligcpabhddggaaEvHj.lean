/- A part of the proof: an evaluator of the model, its laws, and contracts of functions; no condition. -/
import Derived.Test.YtligcpabhddggaaEvHi
set_option linter.unusedVariables false
set_option linter.unusedSimpArgs false
namespace Go.Ev
open Go Go.RowKit
/-! ### What was seen behind each step -/
section
variable {P : Program} {α : Type} {L : Lay α} {S S1 S' : Nat → Prop} {w w' : World} {E mx B : Nat}
theorem OwnD.wide {s : Value} {xs : List α} (h : OwnD L E S B w s xs) (k : ∀ b, S b → S' b) (k' : ∀ b ∈ (blkOf s).toList, ¬ S' b) : OwnD L E S' B w s xs := by
  obtain ⟨css, h1, h2, h3⟩ := h
  exact ⟨css, h1, h2.imp fun _ _ h => h.wide fun b h _ => k b h, fun b hb => ⟨k' b hb, (h3 b hb).2⟩⟩
theorem OwnD.sl {s : Value} {xs : List α} (h : OwnD L E S B w s xs) : ∃ a c, s = .slice a xs.length c := by
  obtain ⟨css, h1, _⟩ := h
  obtain ⟨a, c, h, _⟩ := h1.at
  exact ⟨a, c, h⟩
/-- One more, that stands in a block. -/
theorem OwnD.app1 {t ty y : Nat} (hE : elB P t = some (E, L.n, y)) {z : List Value} (hz : zeroB P E = some z) (hzs : z.length = L.n) (h0 : 0 < L.n) {a0 : Option Addr} {n0 c0 g c E' : Nat} {xs : List α} {x : α} {cs : List Value}
    (ho : OwnD L E S B w (.slice a0 n0 c0) xs) (hx : D L S w cs x) (hg : hp w g = some (.cells cs.toArray E' (0, 0))) (hS : ∀ b, S b → b < w.heap.size) (hB : B ≤ w.heap.size) (hl : xs.length + 1 ≤ mx) (hy : mx * y ≤ 140737488355328) (hm2 : mx ≤ 140737488355328) :
    Ret (b_append P #[t, t] ty #[.slice a0 n0 c0, .slice (some ⟨g, 0, none⟩) 1 c] w) fun r => ∃ a' c', r.1 = .slice a' (xs.length + 1) c' ∧ OwnD L E S B r.2 (.slice a' (xs.length + 1) c') (xs ++ [x]) ∧ But w r.2 (blkOf (.slice a0 n0 c0)) ∧ (blkOf (.slice a' (xs.length + 1) c') = blkOf (.slice a0 n0 c0) ∨ ∃ g, blkOf (.slice a' (xs.length + 1) c') = some g ∧ w.heap.size ≤ g) := by
  obtain ⟨c1, h1, h2, h3⟩ := ho
  have hb1 : (xs.length + 1) * y ≤ mx * y := Nat.mul_le_mul_right _ hl
  have hn0 : n0 = xs.length := by
    obtain ⟨_, _, h⟩ := h1
    rcases h with ⟨h, hh⟩ | ⟨_, _, _, h, _⟩
    · simp only [Value.slice.injEq] at h; omega
    · simp only [Value.slice.injEq] at h; omega
  have hA : At w g 0 cs := fun j v hj => by rw [hg]; simpa [cellO] using hj
  subst hn0
  refine Ret.mono (app_own hE hz hzs h0 h1 hB hA (m := 1) (by rw [hx.len, Nat.one_mul]) hx.one (by omega) (by omega) (by omega)) ?_
  rintro ⟨s1, w1⟩ ⟨h4, h5, h6⟩
  dsimp only at *
  obtain ⟨a', c', e1, _⟩ := h4.at
  have hg : ∀ b, S b → b < w.heap.size → hp w1 b = hp w b := fun b hb hs => h5.blk b hs fun e => (h3 b (by simp [e])).1 hb
  subst e1
  refine ⟨a', c', rfl, ⟨c1 ++ [cs], ?_, All2.app2 (h2.imp fun _ _ h => h.keep hg) ⟨hx.keep hg, trivial⟩, fun b hb => ?_⟩, h5, ?_⟩
  · rw [List.length_append, List.flatten_append]
    simpa using h4
  · rcases h6 with h6 | ⟨g, h6, h7, h8⟩
    · rw [h6] at hb
      exact ⟨(h3 b hb).1, Nat.lt_of_lt_of_le (h3 b hb).2 h5.size⟩
    · rw [h6] at hb
      simp only [Option.toList_some, List.mem_singleton] at hb
      subst hb
      exact ⟨fun h => absurd (hS b h) (by omega), h8⟩
  · rcases h6 with h6 | ⟨g, h6, h7, h8⟩
    · exact .inl h6
    · exact .inr ⟨g, h6, h7⟩
end
section
variable {L : Lay (List Tag)} {S S' : Nat → Prop} {w0 w w' : World} {E B : Nat}
/-- The walk's heap: the views' block, the row of what was seen. -/
def Wk (L : Lay (List Tag)) (E : TypeId) (w0 w : World) (S : Nat → Prop) (g : Nat) (cur : List Value) (b : Book) (s : Value) (sn : List (List Tag)) : Prop :=
  Vw L w S E g cur b.vs ∧ OwnD L E S w0.heap.size w s sn ∧ ¬ S g ∧ (∀ x ∈ (blkOf s).toList, x ≠ g) ∧ w0.heap.size ≤ g ∧ g < w.heap.size ∧ (∀ x, S x → w0.heap.size ≤ x ∧ x < w.heap.size) ∧ Ext w0 w
theorem Wk.ext {g : Nat} {cur : List Value} {b : Book} {s : Value} {sn : List (List Tag)} (h : Wk L E w0 w S g cur b s sn) (k : Ext w w') : Wk L E w0 w' S g cur b s sn := by
  obtain ⟨h1, h2, h3, h4, h5, h6, h7, h8⟩ := h
  have hs := k.size
  exact ⟨h1.keep (k.blk h6) (fun b _ hb => k.blk hb) (fun b hb _ => hb), h2.keep (fun b _ hb => k.blk hb) hs, h3, h4, h5, by omega, fun x hx => by have := h7 x hx; omega, h8.tr k⟩
theorem Wk.wide {g : Nat} {cur : List Value} {b : Book} {s : Value} {sn : List (List Tag)} (h : Wk L E w0 w S g cur b s sn) (k : ∀ x, S x → S' x) (k' : ∀ x, S' x → w0.heap.size ≤ x ∧ x < w.heap.size) (kg : ¬ S' g) (ks : ∀ x ∈ (blkOf s).toList, ¬ S' x) : Wk L E w0 w S' g cur b s sn := by
  obtain ⟨h1, h2, h3, h4, h5, h6, h7, h8⟩ := h
  exact ⟨h1.keep rfl (fun b _ hb => rfl) (fun b hb _ => k b hb), h2.wide k ks, kg, h4, h5, h6, k', h8⟩
/-- A view changes. -/
theorem Wk.set {g : Nat} {cur : List Value} {b : Book} {s : Value} {sn : List (List Tag)} (h : Wk L E w0 w S g cur b s sn) {i : Nat} (hi : i < b.vs.length) {a : Option Addr} {c : Nat} {x : List Tag} (hx : D L S w [.slice a x.length c] x) :
    Wk L E w0 (w.setRow g (splice cur i [.slice a x.length c]).toArray) S g (splice cur i [.slice a x.length c]) ⟨b.vs.set i x, b.wr⟩ s sn := by
  obtain ⟨h1, h2, h3, h4, h5, h6, h7, h8⟩ := h
  refine ⟨h1.put h3 hi hx rfl, h2.keep (fun b hb hl => hp_set_ne fun e => ?_) (by simp), h3, h4, h5, by simpa using h6, fun x hx => by simpa using h7 x hx, h8.set h5 _⟩
  subst e
  rcases hb with hb | hb
  · exact h3 hb
  · exact h4 _ hb rfl
/-- One more seen. -/
theorem Wk.push {P : Program} {t ty y : Nat} (hL : L.n = 1) (hE : elB P t = some (E, L.n, y)) {z : List Value} (hz : zeroB P E = some z) (hzs : z.length = L.n) {g g1 c E' n : Nat} {cur : List Value} {b : Book} {a0 : Option Addr} {c0 mx : Nat} {sn : List (List Tag)}
    (h : Wk L E w0 w S g cur b (.slice a0 n c0) sn) {x : List Tag} {v : Value} (hx : D L S w [v] x) (hg : hp w g1 = some (.cells #[v] E' (0, 0))) (hl : sn.length + 1 ≤ mx) (hy : mx * y ≤ 140737488355328) (hm2 : mx ≤ 140737488355328) :
    Ret (b_append P #[t, t] ty #[.slice a0 n c0, .slice (some ⟨g1, 0, none⟩) 1 c] w) fun r => ∃ a' c', r.1 = .slice a' (sn ++ [x]).length c' ∧ Wk L E w0 r.2 S g cur b (.slice a' (sn ++ [x]).length c') (sn ++ [x]) := by
  obtain ⟨h1, h2, h3, h4, h5, h6, h7, h8⟩ := h
  refine Ret.mono (OwnD.app1 (mx := mx) hE hz hzs (by omega) h2 hx (by simpa using hg) (fun b hb => (h7 b hb).2) h8.size hl hy hm2) ?_
  rintro r ⟨a', c', e, h9, h10, h11⟩
  rw [List.length_append, List.length_singleton]
  have hs := h10.size
  have kk : ∀ b, S b → b < w.heap.size → hp r.2 b = hp w b := fun b hb hl => h10.blk b hl fun e => by
    obtain ⟨css, _, _, hh⟩ := h2
    exact (hh b (by simp [e])).1 hb
  refine ⟨a', c', e, h1.keep (h10.blk g h6 fun e => h4 g (by simp [e]) rfl) kk (fun b hb _ => hb), h9, h3, fun y hy => ?_, h5, by omega, fun y hy => by have := h7 y hy; omega, ?_⟩
  · rcases h11 with e | ⟨g2, e, hg2⟩
    · rw [e] at hy
      exact h4 y hy
    · rw [e] at hy
      simp only [Option.toList_some, List.mem_singleton] at hy
      omega
  · exact ⟨h10.os.trans h8.os, h10.tape.trans h8.tape, h10.output.trans h8.output, Nat.le_trans h8.size hs, fun b hb => (h10.blk b (Nat.lt_of_lt_of_le hb h8.size) fun e => by
      have := h2.blk b (by simp [e])
      omega).trans (h8.blk hb)⟩
end
end Go.Ev
namespace Go.Ev
open Go Go.RowKit
end Go.Ev
