/- A part of the proof, without conditions. -/
import Derived.Test.YtjhhommnkaemlaaGreatEvB
set_option linter.unusedVariables false
set_option linter.unusedSimpArgs false
set_option linter.deprecated false
namespace Go.Ev
open Go
theorem TD {P : Program} {f : FuncId} {args : Array Value} {w : World} {r : Value × World} (h : EV P f args w = some r) : CE P f args w r := by
 unfold EV at h
 split at h
 ·rename_i hh
  have := Classical.choose_spec hh.2
  simp only [Option.some.injEq] at h
  rw [h] at this
  exact this
 ·contradiction
theorem runN_ended {P : Program} {m : Machine} {o : Outcome} {w : World} {n : Nat} (h : runN P n m = .ended o w) (k : Nat) : runN P (n + k) m = .ended o w := by
 rw [runN_add, h]
theorem SW {P : Program} {f : FuncId} {args : Array Value} {w : World} {r r' : Value × World} (hi : P.inits.idxOf? f = none)
  (h : CE P f args w r) (h' : CE P f args w r') : r = r' := by
 have d : ∀ {r}, CE P f args w r → ∃ n, runN P n (lone (Frame.enter P f args .normal) [] w) = .ended (.done r.1) r.2 := by
  intro r h
  obtain ⟨n, v, w', hn, hv⟩ := Calls.done (R := fun v w' => v = r.1 ∧ w' = r.2) (Calls.mono h (by
   intro e w' ⟨he, hw⟩
   subst he
   exact ⟨rfl, hw⟩)) hi
  exact ⟨n, by rw [hn, hv.1, hv.2]⟩
 obtain ⟨n, hn⟩ := d h
 obtain ⟨k, hk⟩ := d h'
 have h1 := runN_ended hn k
 have h2 := runN_ended hk n
 rw [Nat.add_comm] at h2
 rw [h1] at h2
 obtain ⟨v, w1⟩ := r
 obtain ⟨v', w2⟩ := r'
 simp only [Stepped.ended.injEq, Outcome.done.injEq] at h2
 simp [h2.1, h2.2]
theorem Ro {P : Program} {f : FuncId} {args : Array Value} {w : World} {r : Value × World} (hi : P.inits.idxOf? f = none)
  (h : CE P f args w r) : EV P f args w = some r := by
 unfold EV
 rw [dif_pos ⟨hi, r, h⟩]
 have hh : P.inits.idxOf? f = none ∧ ∃ r, CE P f args w r := ⟨hi, r, h⟩
 exact congrArg some (SW hi (Classical.choose_spec hh.2) h)
structure Is (n : Nat) (e : Env) (a : Act) : Prop where
 size : a.tmps.size = n
 get : ∀ t, a.tmps.getD t undef = e t
 no : a.defers = []
theorem Is.eval {n : Nat} {e : Env} {a : Act} (h : Is n e a) : a.eval = val e := by
 funext x
 cases x <;> simp only [Act.eval, val]
 exact h.get _
theorem Is.put {n : Nat} {e : Env} {a : Act} (h : Is n e a) (d : Option Nat) (v : Value) : Is n (put n e d v) (a.put d v) := by
 cases d with
 | none => exact h
 | some d =>
  refine ⟨by simp [Act.put, h.size], ?_, h.no⟩
  intro t
  simp only [Act.put, Ev.put]
  by_cases hd : d < n
  ·rw [show Nat.blt d n = true from Nat.blt_eq ▸ hd]
   simp only [cond_true, Qa]
   by_cases ht : t = d
   ·subst ht
    simp [Array.getD_eq_getD_getElem?, h.size, hd]
   ·rw [show Nat.beq t d = false from Bool.eq_false_iff.2 fun h => ht (Nat.eq_of_beq_eq_true h)]
    have := h.get t
    simp only [Array.getD_eq_getD_getElem?] at this ⊢
    rw [Array.getElem?_setIfInBounds_ne (Ne.symm ht)]
    simpa using this
  ·rw [show Nat.blt d n = false from Bool.eq_false_iff.2 fun h => hd (Nat.blt_eq ▸ h)]
   have := h.get t
   simp only [cond_false]
   rw [← this]
   have hsz := h.size
   rw [Array.setIfInBounds_eq_of_size_le (by omega)]
theorem Is.TU {n : Nat} {e : Env} {a : Act} (h : Is n e a) (ops : Array Oper) (j : Nat) (t : Bool) :
  (Go.yielded ops a.tmps j == some t) = Ix (NO ops.toList e j) t := by
 unfold Go.yielded NO
 rw [Array.getElem?_toList]
 cases ho : ops[j]? with
 | none => simp [undef, Ix]
 | some o =>
  simp only [Option.bind_some]
  cases hd : o.dst with
  | none => simp [undef, Ix]
  | some d =>
   have hg := h.get d
   simp only [Option.bind_some]
   rw [Array.getD_eq_getD_getElem?] at hg
   cases hv : a.tmps[d]? with
   | none =>
    rw [hv] at hg
    simp only [Option.getD_none] at hg
    simp [← hg, undef, Ix]
   | some v =>
    rw [hv] at hg
    simp only [Option.getD_some] at hg
    rw [← hg]
    cases v <;> simp [Ix]
    rename_i b
    cases b <;> cases t <;> rfl
theorem Is.wanted {n : Nat} {e : Env} {a : Act} (h : Is n e a) (ops : Array Oper) (o : Oper) :
  Region.wanted o (Go.yielded ops a.tmps) = match o.guard with | none => true | some (j, t) => Ix (NO ops.toList e j) t := by
 unfold Region.wanted
 cases hg : o.guard with
 | none => rfl
 | some x => obtain ⟨j, t⟩ := x; exact h.TU ops j t
section
variable {P : Program} (hP : Plain P) {n : Nat}
 include hP
theorem JA {ops : Array Oper} {i : Nat} {o : Oper} (hi : ops[i]? = some o) {e : Env} {a : Act} {w : World} {r : Value × World} (ha : Is n e a)
  (h : Hx P (EV P) ops.toList e o w = some r) {K : Act → World → Prop} {Q : Exit → Act → World → Prop} (hK : K (a.put o.dst r.1) r.2) :
  wpOp P ops Q i K a w := by
 unfold wpOp
 simp only [hi]
 have ok : Q1 P (EV P) e o w = some r → o.wp P a w K Q := by
  intro h
  have := UE P hP _ _ _ _ _ h
  unfold Oper.wp
  rw [ha.eval]
  generalize (execOp (val e) o).run P w = x at this
  cases x with
  | halt y w' => simp [nx] at this
  | ok y w' =>
   cases y <;> simp only [nx, Option.some.injEq, reduceCtorEq] at this
   case value v => subst this; exact hK
   case skip => subst this; exact hK
   case enter f args =>
    simp only [Oper.upon]
    refine Calls.mono (TD this) ?_
    intro en w'' ⟨h1, h2⟩
    subst h1
    subst h2
    exact hK
 rw [ha.wanted]
 unfold Hx at h
 cases hg : o.guard with
 | none =>
  simp only [hg] at h
  rw [if_pos rfl]
  exact .inl (ok h)
 | some x =>
  obtain ⟨j, t⟩ := x
  simp only [hg, Ao] at h
  cases hw : Ix (NO ops.toList e j) t with
  | true =>
   simp only [hw] at h
   rw [if_pos hw]
   exact .inl (ok h)
  | false =>
   simp only [hw, Option.some.injEq] at h
   subst h
   rw [if_neg (by simp [hw])]
   exact hK
theorem K0 {ops : Array Oper} {Q : Exit → Act → World → Prop} {e' : Env} {w' : World} (hQ : ∀ a, Is n e' a → Q .normal a w') :
  ∀ (l : List Oper) (k : Nat), (∀ j, l[j]? = ops[k + j]?) → ∀ (e : Env) (a : Act) (w : World), Is n e a → OE P (EV P) n ops.toList l e w = some (e', w') →
   wpOps P ops Q (List.range' k l.length) a w
 | [], k, hl, e, a, w, ha, h => by
  simp only [OE, Option.some.injEq, Prod.mk.injEq] at h
  obtain ⟨rfl, rfl⟩ := h
  simpa [wpOps] using hQ a ha
 | o :: l, k, hl, e, a, w, ha, h => by
  simp only [OE] at h
  cases hr : Hx P (EV P) ops.toList e o w with
  | none => simp [hr] at h
  | some r =>
   simp only [hr, Option.bind_some] at h
   rw [List.length_cons, List.range'_succ, wpOps_cons]
   refine JA hP (by simpa using (hl 0).symm) ha hr ?_
   exact K0 hQ l (k + 1) (fun j => by have := hl (j + 1); simpa [Nat.add_assoc, Nat.add_comm 1 j] using this) _ _ _ (ha.put _ _) h
end
theorem K4 {t : Nat} : ∀ {l : List Operand}, .tmp t ∈ l → t ∈ tmpsOf l
 | x :: l, h => by
  rcases List.mem_cons.1 h with rfl | h2
  ·simp [tmpsOf]
  ·have ih := K4 h2
   cases x <;> simp [tmpsOf, ih]
theorem Qy (P : Program) (call : Cl) {e e' : Env} (o : Oper) (w : World) (h : ∀ x ∈ o.op.operands, val e x = val e' x) :
  Q1 P call e o w = Q1 P call e' o w := by
 obtain ⟨dst, op, type, pos, after, guard⟩ := o
 have vs : ∀ xs : Array Operand, (∀ x ∈ xs, val e x = val e' x) → Eh e xs = Eh e' xs := fun xs hx => by
  unfold Eh
  rw [List.map_congr_left fun x hm => hx x (Array.mem_toList_iff.1 hm)]
 have ps : ∀ ps : Array (Nat × Operand), (∀ x ∈ (ps.toList.map (·.2)), val e x = val e' x) → Ie e ps = Ie e' ps := fun ps hx => by
  unfold Ie
  rw [List.map_congr_left fun p hm => by rw [hx p.2 (List.mem_map.2 ⟨p, hm, rfl⟩)]]
 have ns : (∀ cs b, op ≠ .select cs b) → execOp (val e) ⟨dst, op, type, pos, after, guard⟩ = execOp (val e') ⟨dst, op, type, pos, after, guard⟩ := fun hs => execOp_congr _ hs h
 cases op <;> simp only [Q1] <;> simp only [Op.operands] at h
 case makeFunc fn a b => rw [vs a fun x hx => h x (by simp [hx]), vs b fun x hx => h x (by simp [hx])]
 case build t p => rw [ps p fun x hx => h x (by simpa using hx)]
 case buildSlice t k p => rw [ps p fun x hx => h x (by simpa using hx)]
 case makeMap t r => cases r <;> simp_all [PS]
 case slice t x lo hi mx => cases lo <;> cases hi <;> cases mx <;> simp_all [PS]
 case nilCheck => rw [ns (by simp)]
 case call c =>
  have hcall := ns (by simp)
  obtain ⟨callee, args, ts⟩ := c
  have ha : Eh e args = Eh e' args := vs args fun x hx => h x (by simp [Call.operands, hx])
  cases callee with
  | value x =>
   have hx : val e x = val e' x := h x (by simp [Call.operands])
   cases x <;> simp only [] <;> rw [ha] <;> try rw [hx]
  | invoke a b => simp only []; rw [hcall]
  | builtin b => cases b <;> simp only [] <;> first | rw [ha] | rw [hcall]
 all_goals (first | rfl | (simp_all; done))
theorem Qc (P : Program) (call : Cl) {ops : List Oper} {n : Nat} (e : Env) (o : Oper) (d : Option Nat) (v : Value) (w : World) (h : P8 d (looks ops o) = true) :
  Hx P call ops (put n e d v) o w = Hx P call ops e o w := by
 cases d with
 | none => rfl
 | some d =>
  have hl : d ∉ looks ops o := by
   intro hm
   simp only [P8, List.all_eq_true] at h
   have := h d hm
   simp [Nat.beq_refl] at this
  have ne : ∀ t, t ≠ d → put n e (some d) v t = e t := by
   intro t ht
   simp only [put]
   cases Nat.blt d n
   ·rfl
   ·simp only [cond_true, Qa]
    rw [show Nat.beq t d = false from Bool.eq_false_iff.2 fun h => ht (Nat.eq_of_beq_eq_true h)]
    rfl
  have hx : Q1 P call (put n e (some d) v) o w = Q1 P call e o w := by
   refine Qy P call o w fun x hx => ?_
   cases x with
   | tmp t =>
    refine ne t fun ht => hl ?_
    subst ht
    exact List.mem_append_left _ (K4 (Array.mem_toList_iff.2 hx))
   | _ => rfl
  unfold Hx
  cases hg : o.guard with
  | none => exact hx
  | some q =>
   obtain ⟨j, t⟩ := q
   have hv : NO ops (put n e (some d) v) j = NO ops e j := by
    unfold NO
    cases ho : ops[j]? with
    | none => rfl
    | some y =>
     simp only []
     cases hy : y.dst with
     | none => rfl
     | some b =>
      refine ne b fun hb => hl ?_
      subst hb
      exact List.mem_append_right _ (by simp [hg, ho, hy])
   simp only [hv, hx]
theorem put_comm {n : Nat} (e : Env) {x y : Option Nat} (v u : Value) (h : Px x y = true) : put n (put n e x v) y u = put n (put n e y u) x v := by
 cases x with
 | none => rfl
 | some a =>
  cases y with
  | none => rfl
  | some b =>
   have hne : a ≠ b := by
    intro hab
    subst hab
    simp [Px, Nat.beq_refl] at h
   simp only [put]
   cases Nat.blt a n <;> cases Nat.blt b n <;> try rfl
   funext t
   simp only [cond_true, Qa]
   by_cases h1 : t = a
   ·subst h1
    rw [show Nat.beq t b = false from Bool.eq_false_iff.2 fun h => hne (Nat.eq_of_beq_eq_true h)]
    simp
   ·rw [show Nat.beq t a = false from Bool.eq_false_iff.2 fun h => h1 (Nat.eq_of_beq_eq_true h)]
    simp
def OQ (ops : List Oper) (L : Nat → Bool) (i : Nat) : Prop := L i = false ∧ ∃ o, ops[i]? = some o ∧ ∀ ed ∈ o.after, EJ ed = true → L ed.on = true
def FU (L : Nat → Bool) (i : Nat) : Nat → Bool := fun k => Nat.beq k i || L k
theorem JB (L : Nat → Bool) (i : Nat) : FU L i i = true := by simp [FU, Nat.beq_refl]
theorem Fl (L : Nat → Bool) {i k : Nat} (h : k ≠ i) : FU L i k = L k := by
 simp only [FU]
 rw [show Nat.beq k i = false from Bool.eq_false_iff.2 fun hh => h (Nat.eq_of_beq_eq_true hh)]
 rfl
theorem JC {L : Nat → Bool} {i k : Nat} (h : L k = true) : FU L i k = true := by simp [FU, h]
theorem Qz (L : Nat → Bool) (i j : Nat) : FU (FU L i) j = FU (FU L j) i := by
 funext k
 simp only [FU, ← Bool.or_assoc, Bool.or_comm (Nat.beq k i)]
theorem OQ.set {ops : List Oper} {L : Nat → Bool} {i j : Nat} (h : OQ ops L j) (hne : j ≠ i) : OQ ops (FU L i) j := by
 obtain ⟨h0, o, ho, hall⟩ := h
 exact ⟨by rw [Fl L hne]; exact h0, o, ho, fun ed he hb => JC (hall ed he hb)⟩
def MI (A : List Nat) (L : Nat → Bool) : Prop := ∀ k i, L k = true → (A.getD k 0).testBit i = true → L i = true
def K5 (ops : List Oper) (A : List Nat) : Prop := ∀ j o, ops[j]? = some o → A.getD j 0 = NP A o.after.toList
theorem JD {A : List Nat} {L : Nat → Bool} (hS : MI A L) {i : Nat} : ∀ (l : List Edge), (∀ ed ∈ l, EJ ed = true → L ed.on = true) → (NP A l).testBit i = true → L i = true
 | [], _, h => by simp [NP] at h
 | ed :: l, hl, h => by
  unfold NP at h
  cases hb : EJ ed with
  | false => rw [hb] at h; exact JD hS l (fun x hx => hl x (List.mem_cons_of_mem _ hx)) h
  | true =>
   rw [hb] at h
   have h0 := hl ed List.mem_cons_self hb
   simp only [cond_true, Nat.testBit_or, Bool.or_eq_true] at h
   rcases h with (h | h) | h
   ·rw [Nat.testBit_two_pow] at h
    simp only [decide_eq_true_eq] at h
    rw [← h]; exact h0
   ·exact hS _ _ h0 h
   ·exact JD hS l (fun x hx => hl x (List.mem_cons_of_mem _ hx)) h
theorem OQ.Xg {ops : List Oper} {A : List Nat} (hA : K5 ops A) {L : Nat → Bool} (hS : MI A L) {j i : Nat} (h : OQ ops L j) (hb : (A.getD j 0).testBit i = true) : L i = true := by
 obtain ⟨h0, o, ho, hall⟩ := h
 rw [hA j o ho] at hb
 exact JD hS _ (fun ed he => hall ed (Array.mem_toList_iff.1 he)) hb
theorem MI.set {ops : List Oper} {A : List Nat} (hA : K5 ops A) {L : Nat → Bool} (hS : MI A L) {j : Nat} (h : OQ ops L j) : MI A (FU L j) := by
 intro k i hk hb
 by_cases hkj : k = j
 ·subst hkj; exact JC (h.Xg hA hS hb)
 ·rw [Fl L hkj] at hk; exact JC (hS k i hk hb)
abbrev K6 := List (Nat × (World → Prop))
def FL (P : Program) (call : Cl) (n : Nat) (ops : List Oper) (A : List Nat) (R : Env → World → Prop) (F : K6) : Nat → (Nat → Bool) → Env → World → Prop
 | 0, L, e, w => (∀ i, ¬ OQ ops L i) ∧ R e w
 | f + 1, L, e, w => ((∀ i, ¬ OQ ops L i) → R e w) ∧ ∀ i o, ops[i]? = some o → OQ ops L i → ∃ r, Hx P call ops e o w = some r ∧
   (Cb o.op = true → r.2 = w) ∧ (Cb o.op = false → ∀ p ∈ F, (A.getD i 0).testBit p.1 = false → p.2 r.2) ∧
   FL P call n ops A R F f (FU L i) (put n e o.dst r.1) r.2
theorem FL.weaken {P : Program} {call : Cl} {n : Nat} {ops : List Oper} {A : List Nat} {R : Env → World → Prop} {F : K6} {x : Nat × (World → Prop)} :
  ∀ (f : Nat) (L : Nat → Bool) (e : Env) (w : World), FL P call n ops A R (x :: F) f L e w → FL P call n ops A R F f L e w
 | 0, _, _, _, h => h
 | f + 1, L, e, w, h => ⟨h.1, fun i o ho hr => by
   obtain ⟨r, h1, h2, h3, h4⟩ := h.2 i o ho hr
   exact ⟨r, h1, h2, fun hq p hp hb => h3 hq p (List.mem_cons_of_mem _ hp) hb, FL.weaken f _ _ _ h4⟩⟩
theorem FL.first {P : Program} {call : Cl} {n : Nat} {ops : List Oper} {A : List Nat} (hA : K5 ops A) {R : Env → World → Prop} {i : Nat} {oi : Oper} {v : Value}
  (hi : ops[i]? = some oi) (hq : Cb oi.op = true) :
  ∀ (f : Nat) (L : Nat → Bool) (e : Env) (w : World) (F : K6), MI A L → OQ ops L i →
   (∀ j oj, ops[j]? = some oj → j ≠ i → L j = false → (A.getD j 0).testBit i = false → NQ ops oi oj = true) →
   Hx P call ops e oi w = some (v, w) →
   FL P call n ops A R ((i, fun u => Hx P call ops e oi u = some (v, u)) :: F) f (FU L i) (put n e oi.dst v) w → FL P call n ops A R F (f + 1) L e w := by
 intro f
 induction f with
 | zero =>
  intro L e w F hS hr hfree hv H
  refine ⟨fun h => (h i hr).elim, fun j oj hj hrj => ?_⟩
  by_cases hji : j = i
  ·subst hji
   have : oi = oj := by rw [hi] at hj; exact Option.some.inj hj
   subst this
   exact ⟨_, hv, fun _ => rfl, fun h => (by rw [hq] at h; cases h), H⟩
  ·exact (H.1 j (hrj.set hji)).elim
 | succ f ih =>
  intro L e w F hS hr hfree hv H
  refine ⟨fun h => (h i hr).elim, fun j oj hj hrj => ?_⟩
  by_cases hji : j = i
  ·subst hji
   have : oi = oj := by rw [hi] at hj; exact Option.some.inj hj
   subst this
   exact ⟨_, hv, fun _ => rfl, fun h => (by rw [hq] at h; cases h), FL.weaken _ _ _ _ H⟩
  ·obtain ⟨r, h1, h2, h3, h4⟩ := H.2 j oj hj (hrj.set hji)
   have hanc : (A.getD j 0).testBit i = false := by
    cases hb : (A.getD j 0).testBit i with
    | false => rfl
    | true =>
     have := hrj.Xg hA hS hb
     rw [hr.1] at this
     cases this
   have hap := hfree j oj hj hji hrj.1 hanc
   simp only [NQ, Bool.and_eq_true] at hap
   obtain ⟨⟨ha1, ha2⟩, ha3⟩ := hap
   rw [Qc P call e oj oi.dst v w ha1] at h1
   have same : ∀ u, Hx P call ops (put n e oj.dst r.1) oi u = Hx P call ops e oi u := fun u => Qc P call e oi oj.dst r.1 u ha2
   have hv' : Hx P call ops e oi r.2 = some (v, r.2) := by
    cases hqj : Cb oj.op with
    | true => rw [h2 hqj]; exact hv
    | false => exact h3 hqj _ List.mem_cons_self hanc
   refine ⟨r, h1, h2, fun hqj p hp hb => h3 hqj p (List.mem_cons_of_mem _ hp) hb, ?_⟩
   refine ih (FU L j) _ _ F (hS.set hA hrj) (hr.set (Ne.symm hji)) ?_ (by rw [same]; exact hv') ?_
   ·intro k ok hk hki hLk hb
    refine hfree k ok hk hki ?_ hb
    by_cases hkj : k = j
    ·subst hkj; exact hrj.1
    ·rw [Fl L hkj] at hLk; exact hLk
   ·simp only [same]
    rw [← put_comm e v r.1 ha3, Qz]
    exact h4
end Go.Ev
