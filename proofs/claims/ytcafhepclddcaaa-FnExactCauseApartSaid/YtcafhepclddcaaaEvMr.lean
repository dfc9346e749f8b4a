/- A part of the proof: an evaluator of the model, its laws, and contracts of functions; no condition. -/
import Derived.Maps.RangeRun
import Derived.Test.YtcafhepclddcaaaEvHk
set_option linter.unusedVariables false
set_option linter.unusedSimpArgs false
namespace Go.Ev
open Go Go.RowKit
/-! ### Walking over a map -/
section
variable {P : Program}
theorem ents_mem : ∀ (l : List (Tag × Value)) (k : Nat) (x : MapEntry), x ∈ ents k l → ∃ j p, l[j]? = some p ∧ x = ent (k + j) p
  | [], k, x, h => by simp [ents] at h
  | p :: l, k, x, h => by
    rcases List.mem_cons.1 (show x ∈ ent k p :: ents (k + 1) l from h) with rfl | h
    · exact ⟨0, p, rfl, rfl⟩
    · obtain ⟨j, q, h1, h2⟩ := ents_mem l (k + 1) x h
      exact ⟨j + 1, q, by simpa using h1, by rw [h2]; congr 1; omega⟩
theorem mem_ents : ∀ (l : List (Tag × Value)) (k j : Nat) (p : Tag × Value), l[j]? = some p → ent (k + j) p ∈ ents k l
  | [], k, j, p, h => by simp at h
  | q :: l, k, 0, p, h => by
    simp only [List.getElem?_cons_zero, Option.some.injEq] at h
    subst h
    exact List.mem_cons_self ..
  | q :: l, k, j + 1, p, h => by
    have := mem_ents l (k + 1) j p (by simpa using h)
    rw [show k + (j + 1) = k + 1 + j by omega]
    exact List.mem_cons_of_mem _ this
theorem ents_born : ∀ (l : List (Tag × Value)) (k : Nat), (ents k l).map (·.born) = List.range' k l.length
  | [], k => rfl
  | p :: l, k => by
    show (ent k p).born :: (ents (k + 1) l).map (·.born) = _
    rw [ents_born l (k + 1), List.length_cons, List.range'_succ]
    rfl
theorem nt_map (w : World) (ty : TypeId) {r bm : Nat} {seen : Array Nat} {c0 : Nat} {l : List (Tag × Value)} (hr : hp w r = some (.mapIter (some bm) l.length seen c0)) (hb : hp w bm = some (mapO l)) (hc : l.length ≤ c0) :
    ((∀ j, j < l.length → j ∈ seen.toList) ∧ nt P (pt r 0) false ty w = some (.tuple #[.bool false], w)) ∨
    ∃ (j : Nat) (p : Tag × Value) (w1 : World), l[j]? = some p ∧ j ∉ seen.toList ∧ (w1 = w ∨ w1 = w.drew) ∧ nt P (pt r 0) false ty w = some (.tuple #[.bool true, .agg #[i64 p.1.t, i64 p.1.p], p.2], setM w1 r (.mapIter (some bm) l.length (seen.push j) l.length)) := by
  have hold : ∀ x ∈ (ents 0 l).toArray.toList, x.born < l.length := fun x hx => by
    obtain ⟨j, p, h1, h2⟩ := ents_mem l 0 x (by simpa using hx)
    subst h2
    have := (List.getElem?_eq_some_iff.1 h1).1
    show 0 + j < _
    omega
  rcases run_next_at (P := P) w ty r bm l.length c0 seen (ents 0 l).toArray l.length hr hb hold hc with ⟨h0, h⟩ | ⟨e, he, w1, hw, h⟩
  · left
    refine ⟨fun j hj => ?_, congrArg ro h⟩
    obtain ⟨p, hp⟩ : ∃ p, l[j]? = some p := ⟨_, List.getElem?_eq_getElem hj⟩
    have hm := mem_ents l 0 j p hp
    rw [Nat.zero_add] at hm
    cases hd : decide (j ∈ seen.toList) with
    | true => simpa using hd
    | false =>
      have hin : ent j p ∈ (leftOf (ents 0 l).toArray seen).toList := by
        simp only [leftOf, Array.toList_filter, List.mem_filter]
        refine ⟨by simpa using hm, ?_⟩
        have : seen.contains (ent j p).born = false := by
          show seen.contains j = false
          simpa using hd
        simpa using this
      have : (leftOf (ents 0 l).toArray seen).toList = [] := List.eq_nil_of_length_eq_zero (by simpa using h0)
      rw [this] at hin
      simp at hin
  · right
    simp only [leftOf, Array.toList_filter, List.mem_filter] at he
    obtain ⟨j, p, h1, h2⟩ := ents_mem l 0 e (by simpa using he.1)
    rw [Nat.zero_add] at h2
    subst h2
    refine ⟨j, p, w1, h1, ?_, hw, congrArg ro h⟩
    have := he.2
    simpa [ent] using this
theorem en_map (w : World) {r bm since j : Nat} {seen : Array Nat} {l : List (Tag × Value)} {p : Tag × Value} (hr : hp w r = some (.mapIter (some bm) since (seen.push j) l.length)) (hb : hp w bm = some (mapO l)) (hj : l[j]? = some p) :
    en P (pt r 0) w = some (.tuple #[.agg #[i64 p.1.t, i64 p.1.p], p.2], w) := by
  have hm := mem_ents l 0 j p hj
  rw [Nat.zero_add] at hm
  have hn : ((ents 0 l).toArray.toList.map (·.born)).Nodup := by
    rw [List.toList_toArray, ents_born]
    exact List.nodup_range'
  exact congrArg ro (run_entry_at (P := P) w r bm since seen (ents 0 l).toArray l.length (ent j p) hr hb (by simpa using hm) hn)
theorem rg_map {M K E : TypeId} (hM : P.underlying M = some (.map K E)) (w : World) {bm : Nat} {l : List (Tag × Value)} (hb : hp w bm = some (mapO l)) : rg P M (.map (some bm)) w = some (pt w.heap.size 0, w.alloc (.mapIter (some bm) l.length #[] l.length)) :=
  congrArg ro (run_range_map (P := P) w M K E bm (ents 0 l).toArray l.length hM hb)
theorem drew_ext (w : World) : Ext w w.drew := (Below.refl _ w).drew
end
end Go.Ev
