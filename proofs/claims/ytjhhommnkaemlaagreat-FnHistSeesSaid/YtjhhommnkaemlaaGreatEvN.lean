/- A part of the proof: an evaluator of the model, its laws, and contracts of functions; no condition. -/
import Derived.MapKept
import Derived.Test.YtjhhommnkaemlaaGreatEvX
set_option linter.unusedVariables false
set_option linter.unusedSimpArgs false
set_option linter.deprecated false
namespace Go.Ev
open Go Go.RowKit
def Ir (w : World) (b : Nat) (o : Obj) : World := { w with heap := w.heap.setIfInBounds b o }
theorem Hp (w : World) (b : Nat) (o : Obj) : (Ir w b o).heap.size = w.heap.size := by simp [Ir]
theorem It {w : World} {b k : Nat} {o : Obj} (h : k ≠ b) : hp (Ir w b o) k = hp w k := by
 unfold hp Ir
 simp only [Array.getElem?_setIfInBounds]
 rw [if_neg (fun h' => h h'.symm)]
theorem Qg {w : World} {b : Nat} {o : Obj} (h : b < w.heap.size) : hp (Ir w b o) b = some o := by
 unfold hp Ir
 simp [h]
theorem Mod.Ir (w : World) (g : Nat) (o : Obj) : Mod (fun b => b = g) w (Go.Ev.Ir w g o) := ⟨by rfl, by rfl, by rfl, by simp [Hp], fun b _ hb => It hb⟩
theorem Jm {P : Program} {t b o : Nat} {e : TypeId} {a : Option Addr} {l c : Nat} {w : World} {cur : List Value} (h : o < cur.length) :
  GL P t 1 b o (.agg #[.slice a l c]) w (some (.cells cur.toArray e (0, 0))) = some (undef, w.setRow b (AG cur o [.slice a l c]).toArray) := by
 show (if _ then _ else _) = _
 rw [if_pos ⟨rfl, by simp only [List.size_toArray]; omega, rfl⟩]
 rfl
theorem GA {P : Program} {t e n s : Nat} (h : P.underlying t = some (.array n e)) (hs : OM P e = some s) {b o : Nat} {i : Int} (h0 : 0 ≤ i) (h1 : i < n) (w : World) :
  ia P t (pt b o) (i64 i) w = some (pt b (o + i.toNat * s), w) := by
 simp [ia, Instr.indexAt, asIntOf, run_underlying h, Instr.sureAddr, pt, h0, h1, Bi hs, ro, add_lit]
def Tc (k : Nat) (p : Tag × Value) : MapEntry := { key := .agg #[i64 p.1.t, i64 p.1.p], val := p.2, born := k }
def EB : Nat → List (Tag × Value) → List MapEntry
 | _, [] => []
 | k, p :: l => Tc k p :: EB (k + 1) l
theorem PD : ∀ (l : List (Tag × Value)) (k : Nat) (p : Tag × Value), EB k (l ++ [p]) = EB k l ++ [Tc (k + l.length) p]
 | [], k, p => rfl
 | q :: l, k, p => by
  show Tc k q :: EB (k + 1) (l ++ [p]) = Tc k q :: (EB (k + 1) l ++ [_])
  rw [PD l (k + 1) p, List.length_cons, show k + (l.length + 1) = k + 1 + l.length by omega]
def E7 (l : List (Tag × Value)) : Obj := .map (EB 0 l).toArray l.length
def Ee (l : List (Tag × Value)) (t : Tag) : Option Value := (l.find? fun p => p.1 == t).map (·.2)
theorem Mx (p : Tag × Value) (l : List (Tag × Value)) (t : Tag) : Ee (p :: l) t = if p.1 == t then some p.2 else Ee l t := by
 unfold Ee
 rw [List.find?_cons]
 cases p.1 == t <;> rfl
structure TagM (P : Program) (M K E : TypeId) (z : Value) : Prop where
 m : P.underlying M = some (.map K E)
 k : ∃ f g : Field, P.underlying K = some (.struct #[f, g]) ∧ P.underlying f.type = some (.int .i64) ∧ P.underlying g.type = some (.int .i64) ∧ (f.name ≠ "_" ∧ g.name ≠ "_" ∧ f.offset = 0 ∧ g.offset = 1)
 z : (P.info? E).bind (·.zero) = some z
 s : P.stoodInHeld K = false
section
variable {P : Program} {M K E : TypeId} {z : Value}
theorem QJ (h : TagM P M K E z) (emp : Bool) (a b : Int) (w : World) : (Instr.checkKey emp 10000 K (.agg #[i64 a, i64 b])).run P w = .ok () w := by
 obtain ⟨f, g, hs, hf, hg, h1, h2, h3, h4⟩ := h.k
 have ag : ∀ t, P.underlying t = some (.int .i64) → Kw P t = some false := fun t h => by simp [Kw, h, Tw]
 have p : (part f.type #[i64 a, i64 b] 0).run P w = .ok (i64 a) w := Gj (ag _ hf) _ rfl w
 have q : (part g.type #[i64 a, i64 b] 1).run P w = .ok (i64 b) w := Gj (ag _ hg) _ rfl w
 have c : ∀ (t : TypeId) (x : Int), P.underlying t = some (.int .i64) → (Instr.checkKey emp 9999 t (i64 x)).run P w = .ok () w := fun t x ht => by
  show (Instr.checkKey emp (9998 + 1) t (i64 x)).run P w = _
  unfold Instr.checkKey
  simp only [Sem.run_bind, run_underlying ht, Result.andThen_ok]
  rfl
 show (Instr.checkKey emp (9999 + 1) K _).run P w = _
 unfold Instr.checkKey
 simp only [Sem.run_bind, run_underlying hs, Result.andThen_ok]
 simp [h1, h2, h3, h4, Sem.run_bind, p, q, c _ _ hf, c _ _ hg, Result.andThen_ok]
theorem Rm (h : TagM P M K E z) (a b c d : Int) (w : World) : (Op.equal K (.agg #[i64 a, i64 b]) (.agg #[i64 c, i64 d])).run P w = .ok ((a == c) && (b == d)) w := by
 obtain ⟨f, g, hs, hf, hg, h1, h2, h3, h4⟩ := h.k
 have ag : ∀ t, P.underlying t = some (.int .i64) → Kw P t = some false := fun t h => by simp [Kw, h, Tw]
 have e0 := run_equalIn_int (P := P) w 9998 f.type .i64 .i64 a c hf
 have e1 := run_equalIn_int (P := P) w 9998 g.type .i64 .i64 b d hg
 have p : ∀ x y, (part f.type #[i64 x, i64 y] 0).run P w = .ok (i64 x) w := fun x y => Gj (ag _ hf) _ rfl w
 have q : ∀ x y, (part g.type #[i64 x, i64 y] 1).run P w = .ok (i64 y) w := fun x y => Gj (ag _ hg) _ rfl w
 show (Op.equalIn (9999 + 1) K _ _).run P w = _
 unfold Op.equalIn
 simp only [Sem.run_bind, run_underlying hs, Result.andThen_ok, run_program, h.s]
 cases hb : (a == c) <;> cases hc : (b == d) <;> simp [h1, h2, h3, h4, Sem.run_bind, p, q, e0, e1, Result.andThen_ok, hb, hc]
theorem Hg (h : TagM P M K E z) (t : Tag) (w : World) : ∀ (l : List (Tag × Value)) (k j : Nat), ∃ r, (Instr.findAsking K (.agg #[i64 t.t, i64 t.p]) (EB k l) j).run P w = .ok r w ∧ r.map (·.2) = Ee l t
 | [], k, j => ⟨none, by simp [EB, Instr.findAsking], rfl⟩
 | p :: l, k, j => by
  obtain ⟨r, h1, h2⟩ := Hg h t w l (k + 1) (j + 1)
  have he := Rm h t.t t.p p.1.t p.1.p w
  have hb : (p.1 == t) = ((t.t == p.1.t) && (t.p == p.1.p)) := by
   rw [Bool.eq_iff_iff]
   obtain ⟨⟨a, b⟩, v⟩ := p
   obtain ⟨c, d⟩ := t
   simp only [Bool.and_eq_true, beq_iff_eq, Tag.mk.injEq]
   omega
  rw [Mx, hb]
  unfold EB Instr.findAsking
  simp only [Sem.run_bind, Tc, he, Result.andThen_ok]
  cases hc : ((t.t == p.1.t) && (t.p == p.1.p))
  ·exact ⟨r, by simpa using h1, by simpa using h2⟩
  ·exact ⟨some (j, p.2), by simp, by simp⟩
theorem run_findKey (h : TagM P M K E z) (t : Tag) (w : World) (l : List (Tag × Value)) (k : Nat) : ∃ r, (Instr.findKey K (.agg #[i64 t.t, i64 t.p]) (EB k l)).run P w = .ok r w ∧ r.map (·.2) = Ee l t := by
 obtain ⟨f, g, hs, _⟩ := h.k
 unfold Instr.findKey
 simp only [Sem.run_bind, run_underlying hs, Result.andThen_ok]
 cases l with
 | nil => exact ⟨none, by simp [EB, Instr.findNow], rfl⟩
 | cons p l =>
  have : Instr.findNow (.struct #[f, g]) (.agg #[i64 t.t, i64 t.p]) (EB k (p :: l)) 0 = none := by
   unfold EB Instr.findNow
   rfl
  rw [this]
  exact Hg h t w (p :: l) k 0
theorem US (h : TagM P M K E z) {w : World} {b : Nat} {l : List (Tag × Value)} (hb : hp w b = some (E7 l)) (t : Tag) :
  lk P M (.map (some b)) (.agg #[i64 t.t, i64 t.p]) true w = some (.tuple #[(Ee l t).getD z, .bool (Ee l t).isSome], w) := by
 obtain ⟨r, h1, h2⟩ := run_findKey h t w l 0
 have hz := h.z
 cases hi : P.info? E with
 | none => rw [hi] at hz; cases hz
 | some i =>
  rw [hi] at hz
  have hz' : i.zero = some z := hz
  have hb' : w.heap[b]? = some (.map (EB 0 l).toArray l.length) := hb
  have hk := QJ h ((EB 0 l).toArray.isEmpty) t.t t.p w
  simp only [lk, Instr.lookup, Sem.run_bind, run_underlying h.m, Result.andThen_ok, show (getObj b).run P w = .ok (.map (EB 0 l).toArray l.length) w by simp [getObj, Sem.run, hb'], Sem.run_pure, hk, h1]
  rw [← h2]
  cases r with
  | none => simp [zeroValue, typeInfo, hi, hz', ro, Sem.run_bind]
  | some x => simp [ro]
theorem UT (w : World) : mm P M none w = some (.map (some w.heap.size), w.alloc (E7 [])) := by
 simp [mm, Instr.makeMap, ro, E7, EB]
theorem UU (h : TagM P M K E z) {w : World} {b : Nat} {l : List (Tag × Value)} (hb : hp w b = some (E7 l)) (t : Tag) (hn : Ee l t = none) (v : Value) :
  mu P M (.map (some b)) (.agg #[i64 t.t, i64 t.p]) v w = some (undef, Ir w b (E7 (l ++ [(t, v)]))) := by
 obtain ⟨r, h1, h2⟩ := run_findKey h t w l 0
 rw [hn] at h2
 cases r with
 | some x => cases h2
 | none =>
  have hb' : w.heap[b]? = some (.map (EB 0 l).toArray l.length) := hb
  have hk := QJ h false t.t t.p w
  simp only [mu, Instr.mapUpdate, Sem.run_bind, run_underlying h.m, Result.andThen_ok, show (getObj b).run P w = .ok (.map (EB 0 l).toArray l.length) w by simp [getObj, Sem.run, hb'], hk, h1]
  have hs : (setObj b (.map ((EB 0 l).toArray.push (Tc l.length (t, v))) (l.length + 1))).run P w = .ok () { w with heap := w.heap.setIfInBounds b (.map ((EB 0 l).toArray.push (Tc l.length (t, v))) (l.length + 1)) } := by simp [setObj, Sem.run, hb']
  unfold Tc at hs
  simp only [rs, hs]
  unfold E7 Ir
  rw [PD]
  simp [Tc]
theorem PE : ∀ (l l' : List (Tag × Value)) (k : Nat), EB k l = EB k l' → l = l'
 | [], [], _, _ => rfl
 | [], _ :: _, _, h => by cases h
 | _ :: _, [], _, h => by cases h
 | ⟨⟨a, b⟩, v⟩ :: l, ⟨⟨c, d⟩, u⟩ :: l', k, h => by
  simp only [EB, Tc, List.cons.injEq, MapEntry.mk.injEq, Value.agg.injEq] at h
  obtain ⟨⟨h1, h2, _⟩, h3⟩ := h
  have h1' := congrArg Array.toList h1
  simp only [List.cons.injEq, Value.int.injEq, true_and, and_true] at h1'
  obtain ⟨rfl, rfl⟩ := h1'
  subst h2
  rw [PE l l' (k + 1) h3]
theorem My {l l' : List (Tag × Value)} (h : E7 l = E7 l') : l = l' := by
 simp only [E7, Obj.map.injEq] at h
 exact PE l l' 0 (by simpa using congrArg Array.toList h.1)
open Classical in
noncomputable def WN (P : Program) (M : TypeId) (z : Value) (b : Nat) (t : Tag) (w : World) (o : Option Obj) : Option (Value × World) :=
 if h : ∃ l, o = some (E7 l) then some (.tuple #[(Ee h.choose t).getD z, .bool (Ee h.choose t).isSome], w) else lk P M (.map (some b)) (.agg #[i64 t.t, i64 t.p]) true w
theorem OG (h : TagM P M K E z) (b : Nat) (t : Tag) (w : World) : lk P M (.map (some b)) (.agg #[i64 t.t, i64 t.p]) true w = WN P M z b t w (hp w b) := by
 unfold WN
 split
 ·rename_i hx
  exact US h hx.choose_spec t
 ·rfl
theorem KK (b : Nat) (t : Tag) (w : World) (l : List (Tag × Value)) : WN P M z b t w (some (E7 l)) = some (.tuple #[(Ee l t).getD z, .bool (Ee l t).isSome], w) := by
 have hx : ∃ l', some (E7 l) = some (E7 l') := ⟨l, rfl⟩
 have hc : l = hx.choose := My (Option.some.inj hx.choose_spec)
 unfold WN
 rw [dif_pos hx, ← hc]
open Classical in
noncomputable def WO (P : Program) (M : TypeId) (b : Nat) (t : Tag) (v : Value) (w : World) (o : Option Obj) : Option (Value × World) :=
 if h : ∃ l, o = some (E7 l) ∧ Ee l t = none then some (undef, Ir w b (E7 (h.choose ++ [(t, v)]))) else mu P M (.map (some b)) (.agg #[i64 t.t, i64 t.p]) v w
theorem UW (h : TagM P M K E z) (b : Nat) (t : Tag) (v : Value) (w : World) : mu P M (.map (some b)) (.agg #[i64 t.t, i64 t.p]) v w = WO P M b t v w (hp w b) := by
 unfold WO
 split
 ·rename_i hx
  exact UU h hx.choose_spec.1 t hx.choose_spec.2 v
 ·rfl
theorem TI (b : Nat) (t : Tag) (v : Value) (w : World) (l : List (Tag × Value)) (hn : Ee l t = none) : WO P M b t v w (some (E7 l)) = some (undef, Ir w b (E7 (l ++ [(t, v)]))) := by
 have hx : ∃ l', some (E7 l) = some (E7 l') ∧ Ee l' t = none := ⟨l, rfl, hn⟩
 have hc : l = hx.choose := My (Option.some.inj hx.choose_spec.1)
 unfold WO
 rw [dif_pos hx, ← hc]
end
end Go.Ev
