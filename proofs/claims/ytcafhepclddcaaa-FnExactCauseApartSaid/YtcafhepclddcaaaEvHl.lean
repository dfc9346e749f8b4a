/- A part of the proof: an evaluator of the model, its laws, and contracts of functions; no condition. -/
import Derived.Test.YtcafhepclddcaaaEvHk
set_option linter.unusedVariables false
set_option linter.unusedSimpArgs false
namespace Go.Ev
open Go Go.RowKit
/-! ### The reference's walk of causes -/
/-- The list of what is to be looked at: so far i are done; of the next one, k. -/
structure Todo (wr : Wr) (a b : Tag) (T : List Tag) (i : Nat) : Prop where
  first : T[0]? = some b
  nodup : T.Nodup
  reach : ∀ x ∈ T, x = b ∨ Reach wr b x
  done : ∀ (j : Nat) (y : Tag), j < i → T[j]? = some y → ∀ u ∈ pastW wr y, u ≠ a ∧ (0 < u.t → u ∈ T)
structure TodoK (wr : Wr) (a b : Tag) (T : List Tag) (i k : Nat) : Prop where
  todo : Todo wr a b T i
  part : ∀ (y : Tag), T[i]? = some y → ∀ u ∈ (pastW wr y).take k, u ≠ a ∧ (0 < u.t → u ∈ T)
section
variable {wr : Wr} {a b x u : Tag} {T : List Tag} {i k : Nat}
theorem Todo.start : Todo wr a b [b] 0 := ⟨rfl, by simp, fun x hx => .inl (by simpa using hx), fun j y h => absurd h (Nat.not_lt_zero _)⟩
theorem Todo.inner (h : Todo wr a b T i) : TodoK wr a b T i 0 := ⟨h, fun y hy u hu => by simp at hu⟩
theorem TodoK.end (h : TodoK wr a b T i k) (hx : T[i]? = some x) (hk : (pastW wr x).length ≤ k) : Todo wr a b T (i + 1) := by
  refine ⟨h.todo.first, h.todo.nodup, h.todo.reach, fun j y hj hy u hu => ?_⟩
  by_cases hji : j = i
  · subst hji
    rw [hx] at hy
    obtain rfl := Option.some.inj hy
    exact h.part x hx u (by rw [List.take_of_length_le hk]; exact hu)
  · exact h.todo.done j y (by omega) hy u hu
theorem TodoK.skip (h : TodoK wr a b T i k) (hx : T[i]? = some x) (hu : (pastW wr x)[k]? = some u) (hne : u ≠ a) (hin : 0 < u.t → u ∈ T) : TodoK wr a b T i (k + 1) := by
  refine ⟨h.todo, fun y hy v hv => ?_⟩
  rw [hx] at hy
  obtain rfl := Option.some.inj hy
  rw [List.take_add_one, hu] at hv
  rcases List.mem_append.1 hv with hv | hv
  · exact h.part x hx v hv
  · simp only [Option.toList_some, List.mem_singleton] at hv
    subst hv
    exact ⟨hne, hin⟩
theorem get_app {α : Type} {l m : List α} {j : Nat} {y : α} (h : l[j]? = some y) : (l ++ m)[j]? = some y := by
  rw [List.getElem?_append_left (List.getElem?_eq_some_iff.1 h).1]
  exact h
theorem TodoK.add (h : TodoK wr a b T i k) (hx : T[i]? = some x) (hu : (pastW wr x)[k]? = some u) (hne : u ≠ a) (hn : u ∉ T) : TodoK wr a b (T ++ [u]) i (k + 1) := by
  have hxT := List.mem_of_getElem? hx
  have hru : Reach wr b u := by
    rcases h.todo.reach x hxT with rfl | hr
    · exact .one (List.mem_of_getElem? hu)
    · exact .tr hr (List.mem_of_getElem? hu)
  have hback : ∀ {j : Nat} {y : Tag}, j ≤ i → (T ++ [u])[j]? = some y → T[j]? = some y := by
    intro j y hj hy
    have hi := (List.getElem?_eq_some_iff.1 hx).1
    rw [List.getElem?_append_left (by omega)] at hy
    exact hy
  refine ⟨⟨get_app h.todo.first, ?_, fun y hy => ?_, fun j y hj hy v hv => ?_⟩, fun y hy v hv => ?_⟩
  · rw [List.nodup_append]
    refine ⟨h.todo.nodup, by simp, fun p hp q hq e => ?_⟩
    simp only [List.mem_singleton] at hq
    subst hq e
    exact hn hp
  · rcases List.mem_append.1 hy with hy | hy
    · exact h.todo.reach y hy
    · simp only [List.mem_singleton] at hy
      subst hy
      exact .inr hru
  · obtain ⟨h1, h2⟩ := h.todo.done j y hj (hback (by omega) hy) v hv
    exact ⟨h1, fun ht => List.mem_append_left _ (h2 ht)⟩
  · have hy := hback (Nat.le_refl _) hy
    rw [hx] at hy
    obtain rfl := Option.some.inj hy
    rw [List.take_add_one, hu] at hv
    rcases List.mem_append.1 hv with hv | hv
    · obtain ⟨h1, h2⟩ := h.part x hx v hv
      exact ⟨h1, fun ht => List.mem_append_left _ (h2 ht)⟩
    · simp only [Option.toList_some, List.mem_singleton] at hv
      subst hv
      exact ⟨hne, fun _ => List.mem_append_right _ (List.mem_singleton.2 rfl)⟩
theorem TodoK.hit (h : TodoK wr a b T i k) (hx : T[i]? = some x) (hu : (pastW wr x)[k]? = some u) (he : u = a) : Reach wr b a := by
  subst he
  rcases h.todo.reach x (List.mem_of_getElem? hx) with rfl | hr
  · exact .one (List.mem_of_getElem? hu)
  · exact .tr hr (List.mem_of_getElem? hu)
theorem Todo.none (h : Todo wr a b T i) (hi : T.length ≤ i) (ht : ∀ y, isW wr y = true → 0 < y.t) : ¬ Reach wr b a := by
  have key : ∀ {y : Tag}, Reach wr b y → y ≠ a ∧ (0 < y.t → y ∈ T) := by
    intro y hy
    have hdone : ∀ y ∈ T, ∀ u ∈ pastW wr y, u ≠ a ∧ (0 < u.t → u ∈ T) := fun y hy u hu => by
      obtain ⟨j, hj⟩ := List.mem_iff_getElem?.1 hy
      exact h.done j y (by have := (List.getElem?_eq_some_iff.1 hj).1; omega) hj u hu
    induction hy with
    | one hm => exact hdone b (List.mem_of_getElem? h.first) _ hm
    | tr hr hm ih =>
      rename_i c d
      have hc : isW wr c = true := by
        cases hc : isW wr c with
        | true => rfl
        | false => rw [pastW_none hc] at hm; simp at hm
      exact hdone c (ih.2 (ht c hc)) _ hm
  exact fun hr => (key hr).1 rfl
/-- No more than these are ever to be looked at. -/
theorem Todo.len (h : Todo wr a b T i) : T.length ≤ 1 + (wr.flatMap fun p => p.2.2.2).length := by
  have := nodup_le T (b :: wr.flatMap fun p => p.2.2.2) h.nodup fun x hx => by
    rcases h.reach x hx with rfl | hr
    · exact List.mem_cons_self ..
    · refine List.mem_cons_of_mem _ (List.mem_flatMap.2 ?_)
      have : ∀ {c : Tag}, x ∈ pastW wr c → ∃ p ∈ wr, x ∈ p.2.2.2 := by
        intro c hm
        unfold pastW at hm
        split at hm
        · rename_i s k p hf
          exact ⟨_, wfind_mem hf, hm⟩
        · simp at hm
      cases hr with
      | one hm => exact this hm
      | tr _ hm => exact this hm
  simp only [List.length_cons] at this
  omega
end
theorem wr_flat_len {wr : Wr} (h : ∀ p ∈ wr, p.2.2.2.length = 4) : (wr.flatMap fun p => p.2.2.2).length = 4 * wr.length := by
  induction wr with
  | nil => rfl
  | cons p wr ih =>
    rw [List.flatMap_cons, List.length_append, ih fun q hq => h q (List.mem_cons_of_mem _ hq), h p (List.mem_cons_self ..), List.length_cons]
    omega
theorem swr_len : ∀ (l : List Done) (sn : List (List Tag)), (swr l sn).length ≤ l.length
  | [], sn => by cases sn <;> simp [swr]
  | _ :: _, [] => by simp [swr]
  | d :: l, p :: sn => by
    have := swr_len l sn
    rw [swr]
    split <;> simp only [List.length_cons] <;> omega
theorem swr_tags : ∀ (l : List Done) (sn : List (List Tag)), sn.length = l.length → (swr l sn).map (·.1) = (l.filter fun d => d.kind == 1).map (·.tag)
  | [], [], _ => rfl
  | [], _ :: _, h => by simp at h
  | _ :: _, [], h => by simp at h
  | d :: l, p :: sn, h => by
    have ih := swr_tags l sn (by simpa using h)
    rw [swr, List.filter_cons]
    split <;> simp [ih]
end Go.Ev
