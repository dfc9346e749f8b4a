/- A part of the proof: an evaluator of the model, its laws, and contracts of functions; no condition. -/
import Derived.Test.YtcafhepclddcaaaEvHj
set_option linter.unusedVariables false
set_option linter.unusedSimpArgs false
namespace Go.Ev
open Go Go.RowKit
/-! ### What happened before -/
def pastW (wr : Wr) (t : Tag) : List Tag := match wfind wr t with
  | some (_, _, p) => p
  | none => []
def isW (wr : Wr) (t : Tag) : Bool := (wfind wr t).isSome
inductive Reach (wr : Wr) (t : Tag) : Tag → Prop
  | one {u : Tag} : u ∈ pastW wr t → Reach wr t u
  | tr {u v : Tag} : Reach wr t u → v ∈ pastW wr u → Reach wr t v
theorem Reach.trans {wr : Wr} {t u v : Tag} (h : Reach wr t u) (k : Reach wr u v) : Reach wr t v := by
  induction k with
  | one hk => exact .tr h hk
  | tr _ hk ih => exact .tr ih hk
theorem nodup_le {α : Type} [DecidableEq α] : ∀ (l m : List α), l.Nodup → (∀ x ∈ l, x ∈ m) → l.length ≤ m.length
  | [], m, _, _ => Nat.zero_le _
  | a :: l, m, h, k => by
    rw [List.nodup_cons] at h
    have ha := k a (List.mem_cons_self ..)
    have h1 := nodup_le l (m.erase a) h.2 fun x hx => by
      have hne : x ≠ a := fun e => h.1 (e ▸ hx)
      exact (List.mem_erase_of_ne hne).2 (k x (List.mem_cons_of_mem _ hx))
    rw [List.length_erase_of_mem ha] at h1
    have := List.length_pos_of_mem ha
    simp only [List.length_cons]
    omega
theorem isW_mem {wr : Wr} {t : Tag} (h : isW wr t = true) : t ∈ wr.map (·.1) := by
  unfold isW at h
  obtain ⟨x, hx⟩ := Option.isSome_iff_exists.1 h
  exact List.mem_map.2 ⟨_, wfind_mem hx, rfl⟩
theorem mem_isW : ∀ {wr : Wr} {t : Tag}, t ∈ wr.map (·.1) → isW wr t = true
  | [], t, h => by simp at h
  | p :: wr, t, h => by
    unfold isW
    rw [wfind_cons]
    cases hp : (p.1 == t) with
    | true => rfl
    | false =>
      simp only [Bool.false_eq_true, if_false]
      refine mem_isW (wr := wr) (t := t) ?_
      rcases List.mem_map.1 h with ⟨q, hq, rfl⟩
      rcases List.mem_cons.1 hq with rfl | hq
      · simp at hp
      · exact List.mem_map.2 ⟨q, hq, rfl⟩
theorem pastW_none {wr : Wr} {t : Tag} (h : isW wr t = false) : pastW wr t = [] := by
  unfold isW at h
  unfold pastW
  cases hf : wfind wr t with
  | none => rfl
  | some x => rw [hf] at h; cases h
/-- What a walk from a tag adds. -/
structure Grown (wr : Wr) (t : Tag) (o o' : List Tag) : Prop where
  sub : ∀ x ∈ o, x ∈ o'
  nodup : o'.Nodup
  isw : ∀ x ∈ o', isW wr x = true
  reach : ∀ x ∈ o', x ∉ o → Reach wr t x
  closed : ∀ x, (x = t ∨ (x ∈ o' ∧ x ∉ o)) → ∀ u ∈ pastW wr x, isW wr u = true → u ∈ o'
/-- Within the walk: the first k of what a tag hangs on are done. -/
structure Going (wr : Wr) (t : Tag) (o : List Tag) (k : Nat) (o' : List Tag) : Prop where
  sub : ∀ x ∈ o, x ∈ o'
  nodup : o'.Nodup
  isw : ∀ x ∈ o', isW wr x = true
  reach : ∀ x ∈ o', x ∉ o → Reach wr t x
  closed : ∀ x ∈ o', x ∉ o → ∀ u ∈ pastW wr x, isW wr u = true → u ∈ o'
  done : ∀ u ∈ (pastW wr t).take k, isW wr u = true → u ∈ o'
section
variable {wr : Wr} {t u : Tag} {o o' o'' : List Tag} {k : Nat}
theorem Going.start (h1 : o.Nodup) (h2 : ∀ x ∈ o, isW wr x = true) : Going wr t o 0 o :=
  ⟨fun _ h => h, h1, h2, fun _ h k => absurd h k, fun _ h k => absurd h k, fun _ h => by simp at h⟩
theorem Going.skip (h : Going wr t o k o') (hu : (pastW wr t)[k]? = some u) (hs : isW wr u = true → u ∈ o') : Going wr t o (k + 1) o' := by
  refine ⟨h.sub, h.nodup, h.isw, h.reach, h.closed, fun v hv hw => ?_⟩
  rw [List.take_add_one, hu] at hv
  rcases List.mem_append.1 hv with hv | hv
  · exact h.done v hv hw
  · simp only [Option.toList_some, List.mem_singleton] at hv
    subst hv
    exact hs hw
theorem Going.add (h : Going wr t o k o') (hu : (pastW wr t)[k]? = some u) (hn : u ∉ o') (hw : isW wr u = true) (g : Grown wr u (o' ++ [u]) o'') : Going wr t o (k + 1) o'' := by
  have hsub : ∀ x ∈ o', x ∈ o'' := fun x hx => g.sub x (List.mem_append_left _ hx)
  have huo : u ∈ o'' := g.sub u (List.mem_append_right _ (List.mem_singleton.2 rfl))
  have hru : Reach wr t u := .one (List.mem_of_getElem? hu)
  refine ⟨fun x hx => hsub x (h.sub x hx), g.nodup, g.isw, fun x hx hxo => ?_, fun x hx hxo v hv hvw => ?_, fun v hv hvw => ?_⟩
  · by_cases h1 : x ∈ o'
    · exact h.reach x h1 hxo
    · by_cases h2 : x = u
      · subst h2; exact hru
      · exact hru.trans (g.reach x hx (by simp [h1, h2]))
  · by_cases h1 : x ∈ o'
    · exact hsub v (h.closed x h1 hxo v hv hvw)
    · by_cases h2 : x = u
      · subst h2; exact g.closed x (.inl rfl) v hv hvw
      · exact g.closed x (.inr ⟨hx, by simp [h1, h2]⟩) v hv hvw
  · rw [List.take_add_one, hu] at hv
    rcases List.mem_append.1 hv with hv | hv
    · exact hsub v (h.done v hv hvw)
    · simp only [Option.toList_some, List.mem_singleton] at hv
      subst hv
      exact huo
theorem Going.end (h : Going wr t o k o') (hk : (pastW wr t).length ≤ k) : Grown wr t o o' := by
  refine ⟨h.sub, h.nodup, h.isw, h.reach, fun x hx v hv hvw => ?_⟩
  rcases hx with rfl | ⟨h1, h2⟩
  · exact h.done v (by rw [List.take_of_length_le hk]; exact hv) hvw
  · exact h.closed x h1 h2 v hv hvw
theorem Grown.mem (h : Grown wr t [] o') {x : Tag} : x ∈ o' ↔ isW wr x = true ∧ Reach wr t x := by
  constructor
  · exact fun hx => ⟨h.isw x hx, h.reach x hx (by simp)⟩
  · rintro ⟨hw, hr⟩
    revert hw
    induction hr with
    | one hm => exact fun hb => h.closed _ (.inl rfl) _ hm hb
    | tr hr hm ih =>
      rename_i c d
      intro hb
      have hc : isW wr c = true := by
        cases hc : isW wr c with
        | true => rfl
        | false => rw [pastW_none hc] at hm; simp at hm
      exact h.closed _ (.inr ⟨ih hc, by simp⟩) _ hm hb
theorem Going.room (h : Going wr t o k o') (hn : u ∉ o') (hw : isW wr u = true) : o'.length + 1 ≤ wr.length := by
  have h1 := nodup_le (o' ++ [u]) (wr.map (·.1)) (by
    rw [List.nodup_append]
    refine ⟨h.nodup, by simp, fun a ha b hb e => ?_⟩
    simp only [List.mem_singleton] at hb
    subst hb e
    exact hn ha) (fun x hx => by
      rcases List.mem_append.1 hx with hx | hx
      · exact isW_mem (h.isw x hx)
      · simp only [List.mem_singleton] at hx
        subst hx
        exact isW_mem hw)
  simpa using h1
end
/-- The set in the heap. -/
def outO (o : List Tag) : Obj := mapO (o.map fun u => (u, .bool true))
theorem mfind_out (o : List Tag) (t : Tag) : mfind (o.map fun u => (u, Value.bool true)) t = if t ∈ o then some (.bool true) else none := by
  induction o with
  | nil => simp [mfind_nil]
  | cons a o ih =>
    rw [List.map_cons, mfind_cons, ih]
    by_cases h : a = t
    · subst h; simp
    · have h' : (a == t) = false := by simp [h]
      have h2 : t ≠ a := fun e => h e.symm
      simp [h', h2]
instance oneFunc {f : Fn} {x c : Array Value} : One (.func f x c) := ⟨rfl, rfl⟩
section
variable {P : Program} {M K E : TypeId} {z : Value}
open Classical in
noncomputable def lkR1 (P : Program) (M : TypeId) (z : Value) (b : Nat) (t : Tag) (w : World) (o : Option Obj) : Option (Value × World) :=
  if h : ∃ l, o = some (mapO l) then some ((mfind h.choose t).getD z, w) else lk P M (.map (some b)) (.agg #[i64 t.t, i64 t.p]) false w
theorem lk_lkR1 (h : TagM P M K E z) (b : Nat) (t : Tag) (w : World) : lk P M (.map (some b)) (.agg #[i64 t.t, i64 t.p]) false w = lkR1 P M z b t w (hp w b) := by
  unfold lkR1
  split
  · rename_i hx
    exact lk_map1 h hx.choose_spec t
  · rfl
theorem lkR1_map (b : Nat) (t : Tag) (w : World) (l : List (Tag × Value)) : lkR1 P M z b t w (some (mapO l)) = some ((mfind l t).getD z, w) := by
  have hx : ∃ l', some (mapO l) = some (mapO l') := ⟨l, rfl⟩
  have hc : l = hx.choose := mapO_inj (Option.some.inj hx.choose_spec)
  unfold lkR1
  rw [dif_pos hx, ← hc]
end
end Go.Ev
