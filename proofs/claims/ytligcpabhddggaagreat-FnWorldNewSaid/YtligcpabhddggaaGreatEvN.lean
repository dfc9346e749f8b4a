/- A part of the proof, without conditions. -/
import Derived.MapKept
import Derived.Test.YtligcpabhddggaaGreatEvX
set_option linter.unusedVariables false
set_option linter.unusedSimpArgs false
namespace Go.Ev
open Go Go.RowKit
/-! ### Maps whose keys are tags -/
def setM (w : World) (b : Nat) (o : Obj) : World := { w with heap := w.heap.setIfInBounds b o }
theorem size_setM (w : World) (b : Nat) (o : Obj) : (setM w b o).heap.size = w.heap.size := by simp [setM]
theorem hp_setM_ne {w : World} {b k : Nat} {o : Obj} (h : k ≠ b) : hp (setM w b o) k = hp w k := by
  unfold hp setM
  simp only [Array.getElem?_setIfInBounds]
  rw [if_neg (fun h' => h h'.symm)]
theorem hp_setM_eq {w : World} {b : Nat} {o : Obj} (h : b < w.heap.size) : hp (setM w b o) b = some o := by
  unfold hp setM
  simp [Array.getElem?_setIfInBounds, h]
theorem Ext.setM {a b : World} (h : Ext a b) {k : Nat} (hk : a.heap.size ≤ k) (o : Obj) : Ext a (setM b k o) :=
  ⟨h.os, h.tape, h.output, by rw [size_setM]; exact h.size, fun x hx => by show hp _ _ = _; rw [hp_setM_ne (by omega)]; exact h.blk hx⟩
theorem Mod.setM (w : World) (g : Nat) (o : Obj) : Mod (fun b => b = g) w (Go.Ev.setM w g o) := ⟨by rfl, by rfl, by rfl, by simp [size_setM], fun b _ hb => hp_setM_ne hb⟩
theorem stR_put {P : Program} {t b o : Nat} {e : TypeId} {a : Option Addr} {l c : Nat} {w : World} {cur : List Value} (h : o < cur.length) :
    stR P t 1 b o (.agg #[.slice a l c]) w (some (.cells cur.toArray e (0, 0))) = some (undef, w.setRow b (splice cur o [.slice a l c]).toArray) := by
  show (if _ then _ else _) = _
  rw [if_pos ⟨rfl, by simp only [List.size_toArray]; omega, rfl⟩]
  rfl
theorem ia_arr {P : Program} {t e n s : Nat} (h : P.underlying t = some (.array n e)) (hs : szB P e = some s) {b o : Nat} {i : Int} (h0 : 0 ≤ i) (h1 : i < n) (w : World) :
    ia P t (pt b o) (i64 i) w = some (pt b (o + i.toNat * s), w) := by
  simp [ia, Instr.indexAt, asIntOf, run_underlying h, Instr.sureAddr, pt, h0, h1, run_sizeOf' hs, ro, add_lit]
/-- The entries of a map, in the order in which they came. -/
def ent (k : Nat) (p : Tag × Value) : MapEntry := { key := .agg #[i64 p.1.t, i64 p.1.p], val := p.2, born := k }
def ents : Nat → List (Tag × Value) → List MapEntry
  | _, [] => []
  | k, p :: l => ent k p :: ents (k + 1) l
theorem ents_app : ∀ (l : List (Tag × Value)) (k : Nat) (p : Tag × Value), ents k (l ++ [p]) = ents k l ++ [ent (k + l.length) p]
  | [], k, p => rfl
  | q :: l, k, p => by
    show ent k q :: ents (k + 1) (l ++ [p]) = ent k q :: (ents (k + 1) l ++ [_])
    rw [ents_app l (k + 1) p, List.length_cons, show k + (l.length + 1) = k + 1 + l.length by omega]
def mapO (l : List (Tag × Value)) : Obj := .map (ents 0 l).toArray l.length
def mfind (l : List (Tag × Value)) (t : Tag) : Option Value := (l.find? fun p => p.1 == t).map (·.2)
theorem mfind_cons (p : Tag × Value) (l : List (Tag × Value)) (t : Tag) : mfind (p :: l) t = if p.1 == t then some p.2 else mfind l t := by
  unfold mfind
  rw [List.find?_cons]
  cases p.1 == t <;> rfl
/-- A map's type, whose keys are two whole numbers. -/
structure TagM (P : Program) (M K E : TypeId) (z : Value) : Prop where
  m : P.underlying M = some (.map K E)
  k : ∃ f g : Field, P.underlying K = some (.struct #[f, g]) ∧ P.underlying f.type = some (.int .i64) ∧ P.underlying g.type = some (.int .i64) ∧ (f.name ≠ "_" ∧ g.name ≠ "_" ∧ f.offset = 0 ∧ g.offset = 1)
  z : (P.info? E).bind (·.zero) = some z
  s : P.stoodInHeld K = false
section
variable {P : Program} {M K E : TypeId} {z : Value}
theorem run_key (h : TagM P M K E z) (emp : Bool) (a b : Int) (w : World) : (Instr.checkKey emp 10000 K (.agg #[i64 a, i64 b])).run P w = .ok () w := by
  obtain ⟨f, g, hs, hf, hg, h1, h2, h3, h4⟩ := h.k
  have ag : ∀ t, P.underlying t = some (.int .i64) → aggB P t = some false := fun t h => by simp [aggB, h, aggD]
  have p : (part f.type #[i64 a, i64 b] 0).run P w = .ok (i64 a) w := part_int (ag _ hf) _ rfl w
  have q : (part g.type #[i64 a, i64 b] 1).run P w = .ok (i64 b) w := part_int (ag _ hg) _ rfl w
  have c : ∀ (t : TypeId) (x : Int), P.underlying t = some (.int .i64) → (Instr.checkKey emp 9999 t (i64 x)).run P w = .ok () w := fun t x ht => by
    show (Instr.checkKey emp (9998 + 1) t (i64 x)).run P w = _
    unfold Instr.checkKey
    simp only [Sem.run_bind, run_underlying ht, Result.andThen_ok]
    rfl
  show (Instr.checkKey emp (9999 + 1) K _).run P w = _
  unfold Instr.checkKey
  simp only [Sem.run_bind, run_underlying hs, Result.andThen_ok]
  simp [h1, h2, h3, h4, Sem.run_bind, p, q, c _ _ hf, c _ _ hg, Result.andThen_ok]
theorem run_tagEq (h : TagM P M K E z) (a b c d : Int) (w : World) : (Op.equal K (.agg #[i64 a, i64 b]) (.agg #[i64 c, i64 d])).run P w = .ok ((a == c) && (b == d)) w := by
  obtain ⟨f, g, hs, hf, hg, h1, h2, h3, h4⟩ := h.k
  have ag : ∀ t, P.underlying t = some (.int .i64) → aggB P t = some false := fun t h => by simp [aggB, h, aggD]
  have e0 := run_equalIn_int (P := P) w 9998 f.type .i64 .i64 a c hf
  have e1 := run_equalIn_int (P := P) w 9998 g.type .i64 .i64 b d hg
  have p : ∀ x y, (part f.type #[i64 x, i64 y] 0).run P w = .ok (i64 x) w := fun x y => part_int (ag _ hf) _ rfl w
  have q : ∀ x y, (part g.type #[i64 x, i64 y] 1).run P w = .ok (i64 y) w := fun x y => part_int (ag _ hg) _ rfl w
  show (Op.equalIn (9999 + 1) K _ _).run P w = _
  unfold Op.equalIn
  simp only [Sem.run_bind, run_underlying hs, Result.andThen_ok, run_program, h.s]
  cases hb : (a == c) <;> cases hc : (b == d) <;> simp [h1, h2, h3, h4, Sem.run_bind, p, q, e0, e1, Result.andThen_ok, hb, hc]
theorem run_findAsking (h : TagM P M K E z) (t : Tag) (w : World) : ∀ (l : List (Tag × Value)) (k j : Nat), ∃ r, (Instr.findAsking K (.agg #[i64 t.t, i64 t.p]) (ents k l) j).run P w = .ok r w ∧ r.map (·.2) = mfind l t
  | [], k, j => ⟨none, by simp [ents, Instr.findAsking], rfl⟩
  | p :: l, k, j => by
    obtain ⟨r, h1, h2⟩ := run_findAsking h t w l (k + 1) (j + 1)
    have he := run_tagEq h t.t t.p p.1.t p.1.p w
    have hb : (p.1 == t) = ((t.t == p.1.t) && (t.p == p.1.p)) := by
      rw [Bool.eq_iff_iff]
      obtain ⟨⟨a, b⟩, v⟩ := p
      obtain ⟨c, d⟩ := t
      simp only [Bool.and_eq_true, beq_iff_eq, Tag.mk.injEq]
      omega
    rw [mfind_cons, hb]
    unfold ents Instr.findAsking
    simp only [Sem.run_bind, ent, he, Result.andThen_ok]
    cases hc : ((t.t == p.1.t) && (t.p == p.1.p))
    · exact ⟨r, by simpa using h1, by simpa using h2⟩
    · exact ⟨some (j, p.2), by simp, by simp⟩
theorem run_findKey (h : TagM P M K E z) (t : Tag) (w : World) (l : List (Tag × Value)) (k : Nat) : ∃ r, (Instr.findKey K (.agg #[i64 t.t, i64 t.p]) (ents k l)).run P w = .ok r w ∧ r.map (·.2) = mfind l t := by
  obtain ⟨f, g, hs, _⟩ := h.k
  unfold Instr.findKey
  simp only [Sem.run_bind, run_underlying hs, Result.andThen_ok]
  cases l with
  | nil => exact ⟨none, by simp [ents, Instr.findNow], rfl⟩
  | cons p l =>
    have : Instr.findNow (.struct #[f, g]) (.agg #[i64 t.t, i64 t.p]) (ents k (p :: l)) 0 = none := by
      unfold ents Instr.findNow
      rfl
    rw [this]
    exact run_findAsking h t w (p :: l) k 0
theorem lk_map (h : TagM P M K E z) {w : World} {b : Nat} {l : List (Tag × Value)} (hb : hp w b = some (mapO l)) (t : Tag) :
    lk P M (.map (some b)) (.agg #[i64 t.t, i64 t.p]) true w = some (.tuple #[(mfind l t).getD z, .bool (mfind l t).isSome], w) := by
  obtain ⟨r, h1, h2⟩ := run_findKey h t w l 0
  have hz := h.z
  cases hi : P.info? E with
  | none => rw [hi] at hz; cases hz
  | some i =>
    rw [hi] at hz
    have hz' : i.zero = some z := hz
    have hb' : w.heap[b]? = some (.map (ents 0 l).toArray l.length) := hb
    have hk := run_key h ((ents 0 l).toArray.isEmpty) t.t t.p w
    simp only [lk, Instr.lookup, Sem.run_bind, run_underlying h.m, Result.andThen_ok, show (getObj b).run P w = .ok (.map (ents 0 l).toArray l.length) w by simp [getObj, Sem.run, hb'], Sem.run_pure, hk, h1]
    rw [← h2]
    cases r with
    | none => simp [zeroValue, typeInfo, hi, hz', ro, Sem.run_bind]
    | some x => simp [ro, Sem.run_bind]
theorem mm_map (w : World) : mm P M none w = some (.map (some w.heap.size), w.alloc (mapO [])) := by
  simp [mm, Instr.makeMap, ro, mapO, ents]
theorem mu_map (h : TagM P M K E z) {w : World} {b : Nat} {l : List (Tag × Value)} (hb : hp w b = some (mapO l)) (t : Tag) (hn : mfind l t = none) (v : Value) :
    mu P M (.map (some b)) (.agg #[i64 t.t, i64 t.p]) v w = some (undef, setM w b (mapO (l ++ [(t, v)]))) := by
  obtain ⟨r, h1, h2⟩ := run_findKey h t w l 0
  rw [hn] at h2
  cases r with
  | some x => cases h2
  | none =>
    have hb' : w.heap[b]? = some (.map (ents 0 l).toArray l.length) := hb
    have hk := run_key h false t.t t.p w
    simp only [mu, Instr.mapUpdate, Sem.run_bind, run_underlying h.m, Result.andThen_ok, show (getObj b).run P w = .ok (.map (ents 0 l).toArray l.length) w by simp [getObj, Sem.run, hb'], hk, h1]
    have hs : (setObj b (.map ((ents 0 l).toArray.push (ent l.length (t, v))) (l.length + 1))).run P w = .ok () { w with heap := w.heap.setIfInBounds b (.map ((ents 0 l).toArray.push (ent l.length (t, v))) (l.length + 1)) } := by simp [setObj, Sem.run, hb']
    unfold ent at hs
    simp only [rs, hs]
    unfold mapO setM
    rw [ents_app]
    simp [ent]
theorem ents_inj : ∀ (l l' : List (Tag × Value)) (k : Nat), ents k l = ents k l' → l = l'
  | [], [], _, _ => rfl
  | [], _ :: _, _, h => by cases h
  | _ :: _, [], _, h => by cases h
  | ⟨⟨a, b⟩, v⟩ :: l, ⟨⟨c, d⟩, u⟩ :: l', k, h => by
    simp only [ents, ent, List.cons.injEq, MapEntry.mk.injEq, Value.agg.injEq] at h
    obtain ⟨⟨h1, h2, _⟩, h3⟩ := h
    have h1' := congrArg Array.toList h1
    simp only [List.cons.injEq, Value.int.injEq, true_and, and_true] at h1'
    obtain ⟨rfl, rfl⟩ := h1'
    subst h2
    rw [ents_inj l l' (k + 1) h3]
theorem mapO_inj {l l' : List (Tag × Value)} (h : mapO l = mapO l') : l = l' := by
  simp only [mapO, Obj.map.injEq] at h
  exact ents_inj l l' 0 (by simpa using congrArg Array.toList h.1)
open Classical in
noncomputable def lkR (P : Program) (M : TypeId) (z : Value) (b : Nat) (t : Tag) (w : World) (o : Option Obj) : Option (Value × World) :=
  if h : ∃ l, o = some (mapO l) then some (.tuple #[(mfind h.choose t).getD z, .bool (mfind h.choose t).isSome], w) else lk P M (.map (some b)) (.agg #[i64 t.t, i64 t.p]) true w
theorem lk_lkR (h : TagM P M K E z) (b : Nat) (t : Tag) (w : World) : lk P M (.map (some b)) (.agg #[i64 t.t, i64 t.p]) true w = lkR P M z b t w (hp w b) := by
  unfold lkR
  split
  · rename_i hx
    exact lk_map h hx.choose_spec t
  · rfl
theorem lkR_map (b : Nat) (t : Tag) (w : World) (l : List (Tag × Value)) : lkR P M z b t w (some (mapO l)) = some (.tuple #[(mfind l t).getD z, .bool (mfind l t).isSome], w) := by
  have hx : ∃ l', some (mapO l) = some (mapO l') := ⟨l, rfl⟩
  have hc : l = hx.choose := mapO_inj (Option.some.inj hx.choose_spec)
  unfold lkR
  rw [dif_pos hx, ← hc]
open Classical in
noncomputable def muR (P : Program) (M : TypeId) (b : Nat) (t : Tag) (v : Value) (w : World) (o : Option Obj) : Option (Value × World) :=
  if h : ∃ l, o = some (mapO l) ∧ mfind l t = none then some (undef, setM w b (mapO (h.choose ++ [(t, v)]))) else mu P M (.map (some b)) (.agg #[i64 t.t, i64 t.p]) v w
theorem mu_muR (h : TagM P M K E z) (b : Nat) (t : Tag) (v : Value) (w : World) : mu P M (.map (some b)) (.agg #[i64 t.t, i64 t.p]) v w = muR P M b t v w (hp w b) := by
  unfold muR
  split
  · rename_i hx
    exact mu_map h hx.choose_spec.1 t hx.choose_spec.2 v
  · rfl
theorem muR_map (b : Nat) (t : Tag) (v : Value) (w : World) (l : List (Tag × Value)) (hn : mfind l t = none) : muR P M b t v w (some (mapO l)) = some (undef, setM w b (mapO (l ++ [(t, v)]))) := by
  have hx : ∃ l', some (mapO l) = some (mapO l') ∧ mfind l' t = none := ⟨l, rfl, hn⟩
  have hc : l = hx.choose := mapO_inj (Option.some.inj hx.choose_spec.1)
  unfold muR
  rw [dif_pos hx, ← hc]
end
end Go.Ev
