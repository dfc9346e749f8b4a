/- A part of the proof: an evaluator of the model, its laws, and contracts of functions; no condition. -/
import Derived.Test.YtkhbpmhagpljiaaDoorEvJ
import Derived.Test.YtkhbpmhagpljiaaDoorEvR
set_option linter.unusedVariables false
set_option linter.unusedSimpArgs false
namespace Go.Ev
open Go Go.RowKit Go.ChangeShapes Go.WideShapes Go.ChangeAt
/-! ### Arguments that read as data over blocks -/
abbrev Rl (P : Program) (t : TypeId) {α : Type} (L : Lay α) : Prop := Rd P t fun W cs x => D L (fun b => b < W.heap.size) W cs x
abbrev RlFs (P : Program) (fs : List Field) (off n : Nat) {α : Type} (L : Lay α) : Prop := RdFs P fs off n fun W cs x => D L (fun b => b < W.heap.size) W cs x
section
variable {P : Program} {t e E : TypeId} {α β : Type} {L : Lay α} {M : Lay β} {mx bytes : Nat}
theorem list_dl {w : World} {s : Value} {css : List (List Value)} {xs : List α} (h0 : 0 < L.n) (h1 : Sl w s xs.length css.flatten) (h2 : All2 (fun cs x => D L (fun b => b < w.heap.size) w cs x) css xs) (hl : ∀ c ∈ css, c.length = L.n) (h3 : xs.length ≤ mx) :
    D (LList E mx L) (fun b => b < w.heap.size) w [s] xs := by
  obtain ⟨bss, h4⟩ := All3.of2 (Q := fun cs x => D L (fun b => b < w.heap.size) w cs x) (R := fun cs v bs => L.lay false w cs v bs ∧ ∀ b ∈ bs, b < w.heap.size) (fun cs v h => h) h2
  have hb : ∀ b ∈ rowB s xs, b < w.heap.size := by
    intro b hb
    cases xs with
    | nil => simp [rowB] at hb
    | cons x xs =>
      cases css with
      | nil => exact h2.elim
      | cons c css =>
        have hc := hl c List.mem_cons_self
        cases c with
        | nil => simp at hc; omega
        | cons v c =>
          obtain ⟨a, k, rfl, _, h | ⟨d, o, rfl, hA⟩⟩ := h1
          · simp at h
          · simp only [rowB, blkOf, Option.toList_some, List.mem_singleton] at hb
            subst hb
            exact hA.lt
  refine ⟨rowB s xs ++ bss.flatten, ⟨s, css, bss, rfl, h4.imp fun _ _ _ _ _ _ h => h.1, h3, h1, hb, rfl⟩, fun b hbb => ?_⟩
  rcases List.mem_append.1 hbb with hbb | hbb
  · exact hb b hbb
  · obtain ⟨l, hl, hbb⟩ := List.mem_flatten.1 hbb
    obtain ⟨_, _, _, _, h⟩ := h4.mem3 l hl
    exact h.2 b hbb
theorem rl_list (hu : P.underlying t = some (.slice e)) (hs : P.cellsOf e = L.n) (h0 : 0 < L.n) (hb : P.bytesOf e = bytes) (hm : 140737488351232 / bytes ≤ mx) (hp : 0 < bytes) (he : Rl P e L) : Rl P t (LList E mx L) :=
  rd_map (rd_slice hu hs h0 hb he) fun W cs xs ⟨s, css, h1, h2, h3, h4, h5⟩ => ⟨xs, by
    rw [h1]
    exact list_dl h0 h2 h3 h4 (Nat.le_trans ((Nat.le_div_iff_mul_le hp).2 h5) hm)⟩
theorem rl_cons {f : Field} {fs : List Field} {off n m : Nat} (hf : f.offset = off) (hs : P.cellsOf f.type = n) (h : Rl P f.type L) (hr : RlFs P fs (off + n) m M) : RlFs P (f :: fs) off (n + m) (LPair L M) := by
  intro H enc W fuel cs xs hx hw
  obtain ⟨p, c, d, h1, h2, h3⟩ := rd_cons hf hs h hr H enc W fuel cs xs hx hw
  exact ⟨p, D.pair.2 ⟨c, d, h1, h2, h3⟩⟩
theorem rl_map {f : β → α} (g : α → β) (hg : ∀ a, f (g a) = a) (h : Rl P t L) : Rl P t (LMap L f) := rd_map h fun W cs a ha => ⟨g a, by rw [D.map, hg]; exact ha⟩
theorem rl_int (hu : P.underlying t = some (.int .i64)) : Rl P t LInt := rd_map (rd_int hu) fun W cs n h => ⟨n, D.int.2 h.1⟩
end
end Go.Ev
