/- A part of the proof, without conditions. -/
import Derived.Test.YtjhhommnkaemlaaGreatEvC
set_option linter.unusedVariables false
set_option linter.unusedSimpArgs false
set_option linter.deprecated false
namespace Go.Ev
open Go
theorem JJ {L : Nat} : ∀ (l : List Edge), (GG l &&& L) = GG l → ∀ ed ∈ l, EJ ed = true → L.testBit ed.on = true
 | [], _, ed, he, _ => by simp at he
 | x :: l, h, ed, he, hb => by
  have hx : ∀ k, (GG (x :: l)).testBit k = true → L.testBit k = true := by
   intro k hk
   rw [← h, Nat.testBit_and, Bool.and_eq_true] at hk
   exact hk.2
  rcases List.mem_cons.1 he with rfl | he
  ·refine hx _ ?_
   simp [GG, hb]
  ·cases hbx : EJ x with
   | false =>
    simp only [GG, hbx, cond_false] at h
    exact JJ l h ed he hb
   | true =>
    have hl : (GG l &&& L) = GG l := by
     apply Nat.eq_of_testBit_eq
     intro k
     rw [Nat.testBit_and]
     cases hk : (GG l).testBit k with
     | false => rfl
     | true =>
      rw [hx k (by simp [GG, hbx, hk])]
      rfl
    exact JJ l hl ed he hb
theorem Nt {L : Nat} : ∀ (l : List Edge), (∀ ed ∈ l, EJ ed = true → L.testBit ed.on = true) → (GG l &&& L) = GG l
 | [], _ => by simp [GG]
 | x :: l, h => by
  have ih := Nt l fun ed he => h ed (List.mem_cons_of_mem _ he)
  cases hbx : EJ x with
  | false => simpa [GG, hbx] using ih
  | true =>
   have h0 := h x List.mem_cons_self hbx
   apply Nat.eq_of_testBit_eq
   intro k
   simp only [GG, hbx, cond_true, Nat.testBit_and, Nat.testBit_or, Nat.testBit_two_pow]
   by_cases hk : x.on = k
   ·subst hk; simp [h0]
   ·have := congrArg (·.testBit k) ih
    simp only [Nat.testBit_and] at this
    simp [hk, this]
theorem CL {ops : List Oper} {L : Nat} {i : Nat} {o : Oper} (ho : ops[i]? = some o) : D8 L i o = true ↔ OQ ops L.testBit i := by
 unfold D8 OQ
 simp only [Bool.and_eq_true, Bool.not_eq_true', Nat.beq_eq]
 constructor
 ·rintro ⟨h0, h⟩
  exact ⟨h0, o, ho, fun ed he hb => JJ _ h ed (Array.mem_toList_iff.2 he) hb⟩
 ·rintro ⟨h0, o', ho', h⟩
  rw [ho] at ho'
  cases ho'
  exact ⟨h0, Nt _ fun ed he hb => h ed (Array.mem_toList_iff.1 he) hb⟩
theorem Lr {ops : List Oper} {L i : Nat} : ∀ (l : List Oper) (k : Nat), (∀ j, l[j]? = ops[k + j]?) → P9 L i l k = true → ∀ j, k ≤ j → OQ ops L.testBit j → j = i
 | [], k, hl, _, j, hj, hr => by
  obtain ⟨_, o, ho, _⟩ := hr
  have := hl (j - k)
  rw [show k + (j - k) = j by omega, ho] at this
  simp at this
 | o :: l, k, hl, h, j, hj, hr => by
  simp only [P9, Bool.and_eq_true, Bool.or_eq_true] at h
  by_cases hjk : j = k
  ·subst hjk
   have ho : ops[j]? = some o := by simpa using (hl 0).symm
   rcases h.1 with h | h
   ·exact Nat.eq_of_beq_eq_true h
   ·rw [(CL ho).2 hr] at h
    simp at h
  ·exact Lr l (k + 1) (fun m => by have := hl (m + 1); simpa [Nat.add_assoc, Nat.add_comm 1 m] using this) h.2 j (by omega) hr
theorem H6 {ops : List Oper} {A : List Nat} {L i : Nat} {oi : Oper} : ∀ (l : List Oper) (k : Nat), (∀ j, l[j]? = ops[k + j]?) → Nk ops A L i oi l k = true →
  ∀ j oj, k ≤ j → ops[j]? = some oj → j ≠ i → L.testBit j = false → (A.getD j 0).testBit i = false → NQ ops oi oj = true
 | [], k, hl, _, j, oj, hj, ho, _, _, _ => by
  have := hl (j - k)
  rw [show k + (j - k) = j by omega, ho] at this
  simp at this
 | o :: l, k, hl, h, j, oj, hj, ho, hji, hL, hb => by
  simp only [Nk, Bool.and_eq_true, Bool.or_eq_true] at h
  by_cases hjk : j = k
  ·subst hjk
   have ho' : ops[j]? = some o := by simpa using (hl 0).symm
   rw [ho] at ho'
   cases ho'
   rcases h.1 with ((h | h) | h) | h
   ·exact (hji (Nat.eq_of_beq_eq_true h)).elim
   ·rw [hL] at h; cases h
   ·rw [hb] at h; cases h
   ·exact h
  ·exact H6 l (k + 1) (fun m => by have := hl (m + 1); simpa [Nat.add_assoc, Nat.add_comm 1 m] using this) h.2 j oj (by omega) ho hji hL hb
theorem Bv (L i : Nat) : (L ||| 2 ^ i).testBit = FU L.testBit i := by
 funext k
 simp only [Nat.testBit_or, Nat.testBit_two_pow, FU]
 by_cases h : i = k
 ·subst h; simp [Nat.beq_refl]
 ·rw [show Nat.beq k i = false from Bool.eq_false_iff.2 fun hh => h (Nat.eq_of_beq_eq_true hh).symm]
  simp [h]
theorem GY {A : List Nat} : ∀ (l : List Oper) (B : List Nat), GK A l B = true → ∀ (j : Nat) o, l[j]? = some o → B.getD j 0 = NP A o.after.toList
 | o :: l, x :: r, h, j, o', ho => by
  simp only [GK, Bool.and_eq_true, Nat.beq_eq] at h
  cases j with
  | zero =>
   simp only [List.getElem?_cons_zero, Option.some.injEq] at ho
   subst ho
   simpa using h.1
  | succ j => simpa using GY l r h.2 j o' (by simpa using ho)
 | [], [], h, j, o', ho => by simp at ho
 | [], _ :: _, h, _, _, _ => by simp [GK] at h
 | _ :: _, [], h, _, _, _ => by simp [GK] at h
def H7 (pd : NS) : K6 := pd.map fun p => (p.1, fun u => p.2.1 u = some (p.2.2, u))
theorem JK {a : Nat} {w : World} : ∀ {pd : NS}, Rg a w pd → ∀ p ∈ H7 pd, a.testBit p.1 = false → p.2 w
 | [], _, p, hp, _ => by simp [H7] at hp
 | q :: l, h, p, hp, hb => by
  obtain ⟨h1, h2⟩ := h
  simp only [H7, List.map_cons, List.mem_cons] at hp
  rcases hp with rfl | hp
  ·simp only [] at hb
   rw [hb] at h1
   exact h1
  ·exact JK h2 p hp hb
theorem Ls {R : Type} {p : Prop} {x : Option R} {r : R} (h : Ah p x = some r) : p ∧ x = some r := by
 unfold Ah at h
 split at h
 ·exact ⟨‹_›, h⟩
 ·contradiction
theorem Td {R : Type} {p : Prop} (x : Option R) (h : p) : Ah p x = x := by unfold Ah; rw [if_pos h]
theorem Lt {P : Program} {call : Cl} {ops : List Oper} {e : Env} {o : Oper} (hp : HT o.op = true) {w : World} {r : Value × World}
  (h : Hx P call ops e o w = some r) (u : World) : Hx P call ops e o u = some (r.1, u) := by
 have key : ∀ r, Q1 P call e o w = some r → Q1 P call e o u = some (r.1, u) := by
  clear h
  intro r h
  obtain ⟨dst, op, type, pos, after, guard⟩ := o
  cases op <;> simp only [HT] at hp <;> try contradiction
  all_goals simp only [Q1] at h ⊢
  case pick x y z =>
   cases hc : val e x <;> rw [hc] at h <;> simp only [Az] at h <;> try contradiction
   rename_i t
   cases t <;> simp only [Az, Option.some.injEq] at h ⊢ <;> (subst h; rfl)
  all_goals (simp only [Option.some.injEq] at h; subst h; rfl)
 unfold Hx at h ⊢
 cases hg : o.guard with
 | none => simp only [hg] at h ⊢; exact key r h
 | some q =>
  obtain ⟨j, t⟩ := q
  simp only [hg, Ao] at h ⊢
  cases hw : Ix (NO ops e j) t with
  | true => simp only [hw] at h ⊢; exact key r h
  | false => simp only [hw, Option.some.injEq] at h ⊢; subst h; rfl
theorem FL.more {P : Program} {call : Cl} {n : Nat} {ops : List Oper} {A : List Nat} {R : Env → World → Prop} {F : K6} {i : Nat} {o : Oper} {e : Env} {v : Value}
  (ho : ops[i]? = some o) (hall : ∀ u, Hx P call ops e o u = some (v, u)) :
  ∀ (f : Nat) (L : Nat → Bool) (e' : Env) (w : World), FL P call n ops A R F f L e' w → FL P call n ops A R ((i, fun u => Hx P call ops e o u = some (v, u)) :: F) f L e' w
 | 0, _, _, _, h => h
 | f + 1, L, e', w, h => ⟨h.1, fun k ok hk hr => by
   obtain ⟨r, h1, h2, h3, h4⟩ := h.2 k ok hk hr
   refine ⟨r, h1, h2, fun hq p hp hb => ?_, FL.more ho hall f _ _ _ h4⟩
   rcases List.mem_cons.1 hp with rfl | hp
   ·exact hall _
   ·exact h3 hq p hp hb⟩
theorem Gs {P : Program} {call : Cl} {n : Nat} {ops : List Oper} {A : List Nat} (hA : K5 ops A) {R : Env → World → Prop} :
  ∀ (l : List Nat) (L : Nat) (e : Env) (w : World) (pd : NS) (e' : Env) (w' : World), MI A L.testBit → GL ops A l L = true →
   OG P call n ops A l e w pd = some (e', w') → R e' w' → FL P call n ops A R (H7 pd) l.length L.testBit e w
 | [], L, e, w, pd, e', w', hS, hp, h, hR => by
  simp only [OG, Option.some.injEq, Prod.mk.injEq] at h
  obtain ⟨rfl, rfl⟩ := h
  refine ⟨fun i hr => ?_, hR⟩
  obtain ⟨h0, o, ho, _⟩ := hr
  simp only [GL, Nat.beq_eq] at hp
  have hi : i < ops.length := (List.getElem?_eq_some_iff.1 ho).1
  have hL : L = 2 ^ ops.length - 1 := by omega
  rw [hL, Nat.testBit_two_pow_sub_one] at h0
  simp [hi] at h0
 | i :: l, L, e, w, pd, e', w', hS, hp, h, hR => by
  simp only [OG] at h
  simp only [GL] at hp
  cases ho : ops[i]? with
  | none => simp [ho] at h
  | some o =>
   simp only [ho, Bool.and_eq_true] at h hp
   obtain ⟨⟨hr, hf⟩, hp⟩ := hp
   have hr := (CL ho).1 hr
   cases hg : Hx P call ops e o w with
   | none => simp [hg] at h
   | some r =>
    simp only [hg, Option.bind_some] at h
    cases hq : Cb o.op with
    | true =>
     simp only [hq, cond_true] at h hf
     obtain ⟨hw, h⟩ := Ls h
     have hg' : Hx P call ops e o w = some (r.1, w) := by rw [hg]; obtain ⟨a, b⟩ := r; simp only at hw; rw [hw]
     refine FL.first hA ho hq l.length L.testBit e w (H7 pd) hS hr (fun j oj hj hji hLj hb => H6 ops 0 (by simp) hf j oj (Nat.zero_le _) hj hji hLj hb) hg' ?_
     rw [← Bv]
     have hS' : MI A (L ||| 2 ^ i).testBit := by rw [Bv]; exact hS.set hA hr
     cases hpu : HT o.op with
     | true =>
      simp only [hpu] at h
      exact FL.more ho (Lt hpu hg) _ _ _ _ (Gs hA l _ _ _ pd e' w' hS' hp h hR)
     | false =>
      simp only [hpu] at h
      exact Gs hA l _ _ _ _ e' w' hS' hp h hR
    | false =>
     simp only [hq, cond_false] at h hf
     obtain ⟨hc, h2⟩ := Ls h
     refine ⟨fun hn => (hn i hr).elim, fun j oj hj hrj => ?_⟩
     have hji := Lr ops 0 (by simp) hf j (Nat.zero_le _) hrj
     subst hji
     rw [ho] at hj
     cases hj
     refine ⟨r, hg, fun hh => (by rw [hq] at hh; cases hh), fun _ => JK hc, ?_⟩
     rw [← Bv]
     exact Gs hA l _ _ _ pd e' w' (by rw [Bv]; exact hS.set hA hr) hp h2 hR
theorem HL {ops : List Oper} {A : List Nat} : ∀ (l : List Nat) (L : Nat), GL ops A l L = true → ∀ (S : List Nat), S.Nodup → (∀ k, L.testBit k = true ↔ k ∈ S) → (∀ k ∈ S, k < ops.length) → S.length + l.length = ops.length
 | [], L, h, S, hn, hS, hb => by
  simp only [GL, Nat.beq_eq] at h
  have hL : L = 2 ^ ops.length - 1 := by omega
  have : S.Perm (List.range ops.length) := by
   refine (List.perm_ext_iff_of_nodup hn List.nodup_range).2 fun k => ?_
   rw [← hS k, hL, Nat.testBit_two_pow_sub_one]
   simp
  simpa using this.length_eq
 | i :: l, L, h, S, hn, hS, hb => by
  simp only [GL] at h
  cases ho : ops[i]? with
  | none => simp [ho] at h
  | some o =>
   simp only [ho, Bool.and_eq_true] at h
   have hr := (CL ho).1 h.1.1
   have hi : i < ops.length := (List.getElem?_eq_some_iff.1 ho).1
   have := HL l _ h.2 (i :: S) (List.nodup_cons.2 ⟨fun hm => (by rw [← hS, hr.1] at hm; cases hm), hn⟩)
    (fun k => by
     rw [Bv]
     by_cases hk : k = i
     ·subst hk; simp [JB]
     ·rw [Fl _ hk, hS]; simp [hk])
    (fun k hk => by
     rcases List.mem_cons.1 hk with hk | hk
     ·subst hk; exact hi
     ·exact hb k hk)
   simp only [List.length_cons] at this ⊢
   omega
section
variable {P : Program} {n : Nat}
theorem Hl {e : Env} {a : Act} {w : World} {x : ResultVar} {v : Value} (ha : Is n e a) (h : NU P e w x = some v) :
  (∃ t, x = .tmp t ∧ a.tmps[t]?.getD undef = v) ∨ ∃ b t y, x = .cell b t ∧ a.tmps[b]?.getD undef = .pointer (some y) ∧ (loadVar t y).run P w = .ok v w := by
 have hgg : ∀ t, a.tmps[t]?.getD undef = e t := fun t => by rw [← ha.get]; simp
 cases x with
 | tmp t =>
  simp only [NU, Option.some.injEq] at h
  exact .inl ⟨t, rfl, by rw [hgg]; exact h⟩
 | cell b t =>
  simp only [NU] at h
  refine .inr ⟨b, t, ?_⟩
  simp only [hgg]
  cases hv : e b with
  | pointer y =>
   cases y with
   | none => simp [hv, Instr.loadAt, Instr.sureAddr, ro] at h
   | some y =>
    rw [hv] at h
    simp only [Instr.loadAt, Instr.sureAddr, Sem.run_bind, Sem.run_pure, Result.andThen_ok] at h
    refine ⟨y, by first | rfl | trivial, by first | rfl | trivial, ?_⟩
    cases hr : (loadVar t y).run P w with
    | ok u w' =>
     rw [hr] at h
     simp only [ro, Option.bind_some] at h
     obtain ⟨h1, h2⟩ := Ls h
     simp only [Option.some.injEq] at h2
     rw [h1, h2]
    | halt => rw [hr] at h; simp [ro] at h
  | _ => simp [hv, Instr.loadAt, Instr.sureAddr, ro] at h
theorem DJ {α β : Type} {x : Option α} {f : α → Option β} {r : β} (h : x.bind f = some r) : ∃ v, x = some v ∧ f v = some r := by
 cases x with
 | none => simp at h
 | some v => exact ⟨v, rfl, h⟩
theorem Qi {fn : Func} {e : Env} {a : Act} {w : World} {r : Value × World} (ha : Is n e a) (h : Ri P fn e w = some r) :
  (results fn a.tmps).run P w = .ok r.1 w ∧ r.2 = w := by
 unfold Ri at h
 unfold results
 have hl : fn.results = fn.results.toList.toArray := by simp
 split at h
 ·rename_i heq
  rw [hl, heq]
  simp only [Option.some.injEq] at h
  subst h
  simp
 ·rename_i x heq
  rw [hl, heq]
  obtain ⟨v, h1, h⟩ := DJ h
  simp only [Option.some.injEq] at h
  subst h
  rcases Hl ha h1 with ⟨t1, rfl, k1⟩ | ⟨b1, t1, y1, rfl, k1, m1⟩ <;> simp [*, asAddr]
 ·rename_i x y heq
  rw [hl, heq]
  obtain ⟨v, h1, h⟩ := DJ h
  obtain ⟨u, h2, h⟩ := DJ h
  simp only [Option.some.injEq] at h
  subst h
  rcases Hl ha h1 with ⟨t1, rfl, k1⟩ | ⟨b1, t1, y1, rfl, k1, m1⟩ <;> rcases Hl ha h2 with ⟨t2, rfl, k2⟩ | ⟨b2, t2, y2, rfl, k2, m2⟩ <;> simp [*, asAddr]
 ·rename_i x y z heq
  rw [hl, heq]
  obtain ⟨v, h1, h⟩ := DJ h
  obtain ⟨u, h2, h⟩ := DJ h
  obtain ⟨t, h3, h⟩ := DJ h
  simp only [Option.some.injEq] at h
  subst h
  rcases Hl ha h1 with ⟨t1, rfl, k1⟩ | ⟨b1, t1, y1, rfl, k1, m1⟩ <;> rcases Hl ha h2 with ⟨t2, rfl, k2⟩ | ⟨b2, t2, y2, rfl, k2, m2⟩ <;>
   rcases Hl ha h3 with ⟨t3, rfl, k3⟩ | ⟨b3, t3, y3, rfl, k3, m3⟩ <;> simp [*, asAddr]
 ·contradiction
end
def QN (P : Program) (f : FuncId) (c : Code) (Q : Exit → Act → World → Prop) (a : Act) (w : World) : Prop :=
 ∀ (b : Frame) (k : List Item) (cs : List Frame), b.fn = f → ∃ e a' w', Q e a' w' ∧ Arrives P (lone (b.at a (.code c :: k)) cs w) b k cs e a' w'
section
variable {P : Program} {f : FuncId} {Q : Exit → Act → World → Prop} {a : Act} {w : World}
theorem JL {c : Code} (h : c.wp P Q a w) : QN P f c Q a w := fun b k cs _ => h b k cs
theorem Lu {c : Code} {Q' : Exit → Act → World → Prop} (h : QN P f c Q a w) (hq : ∀ e a w, Q e a w → Q' e a w) : QN P f c Q' a w :=
 fun b k cs hb => let ⟨e, a', w', q, r⟩ := h b k cs hb; ⟨e, a', w', hq _ _ _ q, r⟩
theorem Tf {x y : Code} (h : QN P f x (Exit.then (QN P f y Q) Q) a w) : QN P f (Code.seq x y) Q a w := by
 intro b k cs hb
 obtain ⟨e, a₁, w₁, hq, harr⟩ := h b (.code y :: k) cs hb
 cases e with
 | normal =>
  obtain ⟨e₂, a₂, w₂, hq₂, harr₂⟩ := hq b k cs hb
  exact ⟨e₂, a₂, w₂, hq₂, .of_steps (.head step_seq harr) harr₂⟩
 | exit id => exact ⟨_, a₁, w₁, hq, .of_steps (.one step_seq) (.pass (x := .code y) rfl (fun _ _ => .inl (by simp)) harr)⟩
 | goto l => exact ⟨_, a₁, w₁, hq, .of_steps (.one step_seq) (.pass (x := .code y) rfl (fun _ _ => .inl (by simp)) harr)⟩
 | ret => exact ⟨_, a₁, w₁, hq, .of_steps (.one step_seq) (.pass (x := .code y) rfl (fun _ _ => .inl (by simp)) harr)⟩
 | panic ch => exact ⟨_, a₁, w₁, hq, .of_steps (.one step_seq) (.pass (x := .code y) rfl (fun _ _ => .inl (by simp)) harr)⟩
 | outgrown => exact ⟨_, a₁, w₁, hq, .of_steps (.one step_seq) (.pass (x := .code y) rfl (fun _ _ => .inl (by simp)) harr)⟩
theorem OX {c : Operand} {x y : Code} {t : Bool} (hc : a.eval c = .bool t) (h : QN P f (if t then x else y) Q a w) : QN P f (Code.cond c x y) Q a w :=
 fun b k cs hb => let ⟨e, a', w', q, r⟩ := h b k cs hb; ⟨e, a', w', q, .of_steps (.one (step_cond hc)) r⟩
theorem QO {id : Nat} {c : Code} (h : QN P f c (Exit.inBlock id Q) a w) : QN P f (Code.block id c) Q a w := by
 intro b k cs hb
 obtain ⟨e, a₁, w₁, hq, harr⟩ := h b (.inBlock id :: k) cs hb
 cases e with
 | normal => exact ⟨.normal, a₁, w₁, hq, .head step_block (Steps.trans harr (.one step_inBlock))⟩
 | exit id' =>
  by_cases hid : id' = id
  ·simp only [Exit.inBlock, hid, if_true] at hq
   exact ⟨.normal, a₁, w₁, hq, .head step_block (harr k (by simp [exitTo, hid]))⟩
  ·simp only [Exit.inBlock, hid, if_false] at hq
   refine ⟨.exit id', a₁, w₁, hq, fun k' hk => .head step_block (harr k' ?_)⟩
   have : (id == id') = false := by simp; exact fun h => hid h.symm
   simp [exitTo, this, hk]
 | goto l => exact ⟨_, a₁, w₁, hq, fun k' hk => .head step_block (harr k' (by simp [gotoIn, hk]))⟩
 | ret => exact ⟨_, a₁, w₁, hq, .of_steps (.one step_block) harr⟩
 | panic ch => exact ⟨_, a₁, w₁, hq, .of_steps (.one step_block) harr⟩
 | outgrown => exact ⟨_, a₁, w₁, hq, .of_steps (b := b) (k := k) (cs := cs) (e := .outgrown) (.one step_block) harr⟩
theorem Oj {fn : Func} {c : Code} {args : Array Value} {R : Ending → World → Prop} (hf : P.funcs[f]? = some fn) (hb : fn.body = some c)
  (h : QN P f c (bodyPost P fn R) { tmps := args ++ Array.replicate (fn.ntmps - args.size) undef, defers := [] } w) : Calls P f args w R := by
 intro cs
 let b : Frame := { (default : Frame) with fn := f, kind := .normal }
 have henter : Frame.enter P f args .normal =
   b.at { tmps := args ++ Array.replicate (fn.ntmps - args.size) undef, defers := [] } [.code c] := by
  simp [Frame.enter, Frame.at, hf, hb, b]
 obtain ⟨e, a', w', hq, harr⟩ := h b [] cs rfl
 rw [← henter] at harr
 cases e with
 | normal =>
  obtain ⟨hd, v, hr, hR⟩ := hq
  exact ⟨.returned v, w', _, hR, Steps.trans harr (.one step_end), rfl, rfl, hd, rfl, fn, hf, hr⟩
 | ret =>
  obtain ⟨hd, v, hr, hR⟩ := hq
  obtain ⟨todo, hs⟩ := harr
  exact ⟨.returned v, w', _, hR, hs, rfl, rfl, hd, rfl, fn, hf, hr⟩
 | panic chain =>
  obtain ⟨hd, hR⟩ := hq
  obtain ⟨todo, hs⟩ := harr
  exact ⟨.panicked chain, w', _, hR, hs, rfl, rfl, hd, fn, hf⟩
 | exit id => exact hq.elim
 | goto l => exact hq.elim
 | outgrown => exact ⟨.outgrown, w', b, hq, harr.resolve_left (by simp [b]), rfl, trivial⟩
end
theorem Ol {ops : Array Oper} : ∀ (L : Nat → Bool) (listed : Array Bool), listed.size = ops.size → (∀ k, k < ops.size → listed.getD k false = L k) → (∀ k, ops.size ≤ k → L k = false) → ∀ i, i ∈ Region.ready .any ops listed ↔ OQ ops.toList L i := by
 have Xc : ∀ ed : Edge, Region.binds .any ed = EJ ed := by
  intro ed
  unfold Region.binds EJ
  cases ed.ground <;> rfl
 intro L listed hsz hL hL2 i
 have hg : ∀ k, listed.getD k false = L k := by
  intro k
  by_cases hk : k < ops.size
  ·exact hL k hk
  ·rw [hL2 k (by omega), Array.getD_eq_getD_getElem?, Array.getElem?_eq_none (by omega)]; rfl
 rw [mem_ready]
 unfold OQ
 simp only [Array.getElem?_toList, Xc]
 constructor
 ·rintro ⟨h0, o, ho, h⟩
  have hi : i < ops.size := (Array.getElem?_eq_some_iff.1 ho).1
  refine ⟨?_, o, ho, fun ed he hb => by rw [← hg]; exact h ed he hb⟩
  rw [← hg]
  have : listed[i]? = some listed[i] := Array.getElem?_eq_getElem (by omega)
  rw [Array.getD_eq_getD_getElem?, this] at h0 ⊢
  exact h0
 ·rintro ⟨h0, o, ho, h⟩
  have hi : i < ops.size := (Array.getElem?_eq_some_iff.1 ho).1
  refine ⟨?_, o, ho, fun ed he hb => by rw [hg]; exact h ed he hb⟩
  rw [← hg] at h0
  have : listed[i]? = some listed[i] := Array.getElem?_eq_getElem (by omega)
  rw [Array.getD_eq_getD_getElem?, this] at h0 ⊢
  exact h0
theorem Lv {ops : List Oper} {L i : Nat} : ∀ (l : List Oper) (k : Nat), (∀ j, l[j]? = ops[k + j]?) → (i ∈ NT L l k ↔ k ≤ i ∧ ∃ o, ops[i]? = some o ∧ D8 L i o = true)
 | [], k, hl => by
  simp only [NT, List.not_mem_nil, false_iff]
  rintro ⟨hk, o, ho, _⟩
  have := hl (i - k)
  rw [show k + (i - k) = i by omega, ho] at this
  simp at this
 | o :: l, k, hl => by
  have ho : ops[k]? = some o := by simpa using (hl 0).symm
  have ih := Lv (ops := ops) (L := L) (i := i) l (k + 1) (fun m => by have := hl (m + 1); simpa [Nat.add_assoc, Nat.add_comm 1 m] using this)
  simp only [NT]
  cases hr : D8 L k o with
  | true =>
   simp only [cond_true, List.mem_cons, ih]
   constructor
   ·rintro (rfl | ⟨h1, h2⟩)
    ·exact ⟨Nat.le_refl _, o, ho, hr⟩
    ·exact ⟨by omega, h2⟩
   ·rintro ⟨h1, h2⟩
    by_cases hik : i = k
    ·exact .inl hik
    ·exact .inr ⟨by omega, h2⟩
  | false =>
   simp only [cond_false, ih]
   constructor
   ·rintro ⟨h1, h2⟩; exact ⟨by omega, h2⟩
   ·rintro ⟨h1, o', ho', h2⟩
    by_cases hik : i = k
    ·subst hik
     rw [ho] at ho'
     cases ho'
     rw [hr] at h2
     cases h2
    ·exact ⟨by omega, o', ho', h2⟩
theorem Nu {F : Nat → Prop} : ∀ {l : List Nat}, Rh F l → ∀ i ∈ l, F i
 | [], h, i, hi => by simp at hi
 | [a], h, i, hi => by simp only [List.mem_singleton] at hi; subst hi; exact h
 | a :: b :: l, h, i, hi => by
  rcases List.mem_cons.1 hi with rfl | hi
  ·exact h.1
  ·exact Nu h.2 i hi
theorem Lw {ops : List Oper} {L : Nat} : ∀ (l : List Oper) (k : Nat), (∀ j, l[j]? = ops[k + j]?) → KP true L l k = none → ∀ j o, k ≤ j → ops[j]? = some o → D8 L j o = true → Cb o.op = false
 | [], k, hl, _, j, o, hj, ho, _ => by
  have := hl (j - k)
  rw [show k + (j - k) = j by omega, ho] at this
  simp at this
 | o :: l, k, hl, h, j, o', hj, ho', hr => by
  have ho : ops[k]? = some o := by simpa using (hl 0).symm
  simp only [KP, Bool.not_true, Bool.false_or] at h
  cases hc : (D8 L k o && Cb o.op) with
  | true => rw [hc] at h; simp at h
  | false =>
   rw [hc] at h
   by_cases hjk : j = k
   ·subst hjk
    rw [ho] at ho'
    cases ho'
    rw [hr] at hc
    simpa using hc
   ·exact Lw l (k + 1) (fun m => by have := hl (m + 1); simpa [Nat.add_assoc, Nat.add_comm 1 m] using this) (by simpa using h) j o' (by omega) ho' hr
theorem RH {P : Program} {call : Cl} {n : Nat} {ops : List Oper} {A : List Nat} (hA : K5 ops A) {K : Env → World → Prop} :
  ∀ (fu L : Nat) (e : Env) (w : World) (pd : NS), MI A L.testBit → TR P call n ops A K fu L e w pd → FL P call n ops A K (H7 pd) fu L.testBit e w := by
 intro fu
 have full : ∀ (L : Nat), L + 1 = 2 ^ ops.length → ∀ i, ¬ OQ ops L.testBit i := by
  intro L hp i hr
  obtain ⟨h0, o, ho, _⟩ := hr
  have hi : i < ops.length := (List.getElem?_eq_some_iff.1 ho).1
  have hL : L = 2 ^ ops.length - 1 := by omega
  rw [hL, Nat.testBit_two_pow_sub_one] at h0
  simp [hi] at h0
 induction fu with
 | zero =>
  intro L e w pd hS h
  unfold TR at h
  cases hf : Nat.beq (L + 1) (2 ^ ops.length) with
  | true =>
   rw [hf] at h
   exact ⟨full L (Nat.eq_of_beq_eq_true hf), h⟩
  | false => rw [hf] at h; exact h.elim
 | succ fu ih =>
  intro L e w pd hS h
  unfold TR at h
  cases hf : Nat.beq (L + 1) (2 ^ ops.length) with
  | true =>
   rw [hf] at h
   exact ⟨fun _ => h, fun i o _ hr => (full L (Nat.eq_of_beq_eq_true hf) i hr).elim⟩
  | false =>
   rw [hf] at h
   simp only [] at h
   cases hp : KP true L ops 0 with
   | some i =>
    rw [hp] at h
    simp only [] at h
    cases ho : ops[i]? with
    | none => rw [ho] at h; exact h.elim
    | some o =>
     rw [ho] at h
     simp only [] at h
     cases hc : (D8 L i o && (Cb o.op && Nk ops A L i o ops 0)) with
     | false => rw [hc] at h; exact h.elim
     | true =>
      rw [hc] at h
      simp only [Bool.and_eq_true] at hc
      obtain ⟨hr, hq, hfr⟩ := hc
      have hr := (CL ho).1 hr
      obtain ⟨r, hg, hw, h⟩ := h
      have hg' : Hx P call ops e o w = some (r.1, w) := by rw [hg]; obtain ⟨a, b⟩ := r; simp only at hw; rw [hw]
      refine FL.first hA ho hq fu L.testBit e w (H7 pd) hS hr (fun j oj hj hji hLj hb => H6 ops 0 (by simp) hfr j oj (Nat.zero_le _) hj hji hLj hb) hg' ?_
      rw [← Bv]
      have hS' : MI A (L ||| 2 ^ i).testBit := by rw [Bv]; exact hS.set hA hr
      cases hpu : HT o.op with
      | true =>
       simp only [hpu] at h
       exact FL.more ho (Lt hpu hg) _ _ _ _ (ih _ _ _ pd hS' h)
      | false =>
       simp only [hpu] at h
       exact ih _ _ _ _ hS' h
   | none =>
    rw [hp] at h
    simp only [] at h
    have hm := Nu h
    have mem : ∀ i, OQ ops L.testBit i → i ∈ NT L ops 0 := by
     intro i hr
     obtain ⟨o, ho⟩ : ∃ o, ops[i]? = some o := ⟨hr.2.choose, hr.2.choose_spec.1⟩
     exact (Lv (ops := ops) ops 0 (by simp)).2 ⟨Nat.zero_le _, o, ho, (CL ho).2 hr⟩
    refine ⟨fun hn => ?_, fun i o ho hr => ?_⟩
    ·cases hl : NT L ops 0 with
     | nil => rw [hl] at h; exact h.elim
     | cons i l =>
      have hi : i ∈ NT L ops 0 := by rw [hl]; exact List.mem_cons_self
      obtain ⟨_, o, ho, hr⟩ := (Lv (ops := ops) ops 0 (by simp)).1 hi
      exact (hn i ((CL ho).1 hr)).elim
    ·have hi := hm i (mem i hr)
     rw [ho] at hi
     obtain ⟨r, hg, hc, h2⟩ := hi
     have hq := Lw ops 0 (by simp) hp i o (Nat.zero_le _) ho ((CL ho).2 hr)
     refine ⟨r, hg, fun hh => (by rw [hq] at hh; cases hh), fun _ => JK hc, ?_⟩
     rw [← Bv]
     exact ih _ _ _ pd (by rw [Bv]; exact hS.set hA hr) h2
theorem QP {P : Program} {call : Cl} {n : Nat} {ops : Array Oper} {A : List Nat} {F : K6} {R : Env → World → Prop} :
  ∀ (f : Nat) (L : Nat → Bool) (listed : Array Bool) (e : Env) (w : World) (t : Nat), listed.size = ops.size → (∀ k, k < ops.size → listed.getD k false = L k) → (∀ k, ops.size ≤ k → L k = false) →
   FL P call n ops.toList A R F f L e w → ∃ r, opsL P call n ops.toList (Region.linearise.go .any ops f t listed []) e w = some r ∧ R r.1 r.2 := by
 intro f
 induction f with
 | zero =>
  intro L listed e w t hsz hL hL2 h
  refine ⟨(e, w), ?_, h.2⟩
  simp [Region.linearise.go, opsL]
 | succ f ih =>
  intro L listed e w t hsz hL hL2 h
  obtain ⟨h0, h1⟩ := h
  simp only [Region.linearise.go]
  change ∃ r, opsL P call n ops.toList (match (Region.ready .any ops listed)[t % (Region.ready .any ops listed).length]? with
   | some i => Region.linearise.go .any ops f (t / (Region.ready .any ops listed).length) (listed.setIfInBounds i true) [i]
   | none => [].reverse) e w = some r ∧ R r.1 r.2
  cases hi : (Region.ready .any ops listed)[t % (Region.ready .any ops listed).length]? with
  | none =>
   have hnil : Region.ready .any ops listed = [] := by
    cases hr : Region.ready .any ops listed with
    | nil => rfl
    | cons x xs =>
     rw [hr] at hi
     have hlt : t % (x :: xs).length < (x :: xs).length := Nat.mod_lt _ (by simp)
     simp at hi
     simp at hlt
     omega
   refine ⟨(e, w), by simp [opsL], h0 fun i hi => ?_⟩
   have := (Ol L listed hsz hL hL2 i).2 hi
   rw [hnil] at this
   cases this
  | some i =>
   simp only []
   rw [linearise_go_acc, List.reverse_singleton, List.singleton_append]
   have hr := (Ol L listed hsz hL hL2 i).1 (List.mem_of_getElem? hi)
   obtain ⟨o, ho⟩ : ∃ o, ops.toList[i]? = some o := ⟨hr.2.choose, hr.2.choose_spec.1⟩
   obtain ⟨r, g1, _, _, g4⟩ := h1 i o ho hr
   have hi' : i < ops.size := by rw [Array.getElem?_toList] at ho; exact (Array.getElem?_eq_some_iff.1 ho).1
   simp only [opsL, ho, g1, Option.bind_some]
   refine ih (FU L i) _ _ _ _ (by simpa using hsz) ?_ ?_ g4
   ·intro k hk
    by_cases hki : k = i
    ·subst hki
     rw [JB, Array.getD_eq_getD_getElem?]
     simp [hsz, hi']
    ·rw [Fl L hki, ← hL k hk]
     exact getD_set_ne false (Ne.symm hki)
   ·intro k hk
    rw [Fl L (by omega)]
    exact hL2 k hk
theorem RI {P : Program} {call : Cl} {n : Nat} {ops : List Oper} {K : Env → World → Prop} {e : Env} {w : World} {t : Nat} (hc : GK (Iy ops []) ops (Iy ops []) = true)
  (h : TR P call n ops (Iy ops []) K ops.length 0 e w []) : ∃ r, opsL P call n ops (Region.schedule true ops.toArray t) e w = some r ∧ K r.1 r.2 := by
 have hA : K5 ops (Iy ops []) := GY _ _ hc
 have h1 := RH hA ops.length 0 e w [] (by intro k i hk; simp at hk) h
 have h2 := QP (ops := ops.toArray) ops.length (Nat.testBit 0) (Array.replicate ops.length false) e w t (by simp) (by
  intro k hk
  have : k < ops.length := by simpa using hk
  simp [Array.getD_eq_getD_getElem?, this]) (by simp) (by simpa using h1)
 have e : Region.schedule true ops.toArray t = Region.linearise.go .any ops.toArray ops.length t (Array.replicate ops.length false) [] := by
  simp [Region.schedule, Region.linearise]
 rw [e]
 exact h2
section
variable {P : Program} (hP : Plain P) {n : Nat}
 include hP
theorem MV {ops : Array Oper} {A : List Nat} {F : K6} {Q : Exit → Act → World → Prop} {R : Env → World → Prop} (hQ : ∀ e a w, R e w → Is n e a → Q .normal a w) :
  ∀ (f : Nat) (L : Nat → Bool) (listed : Array Bool) (e : Env) (a : Act) (w : World), listed.size = ops.size → (∀ k, k < ops.size → listed.getD k false = L k) → (∀ k, ops.size ≤ k → L k = false) → Is n e a →
   FL P (EV P) n ops.toList A R F f L e w → wpAny P .any ops Q f listed a w := by
 have rdy := @Ol ops
 intro f
 induction f with
 | zero =>
  intro L listed e a w hsz hL hL2 ha h
  refine ⟨?_, hQ _ _ _ h.2 ha⟩
  rw [List.eq_nil_iff_forall_not_mem]
  intro i hi
  exact h.1 i ((rdy L listed hsz hL hL2 i).1 hi)
 | succ f ih =>
  intro L listed e a w hsz hL hL2 ha h
  refine ⟨fun h0 => hQ _ _ _ (h.1 fun i hi => ?_) ha, fun i hi => ?_⟩
  ·have := (rdy L listed hsz hL hL2 i).2 hi
   rw [h0] at this
   cases this
  ·have hr := (rdy L listed hsz hL hL2 i).1 hi
   obtain ⟨o, ho⟩ : ∃ o, ops.toList[i]? = some o := ⟨hr.2.choose, hr.2.choose_spec.1⟩
   obtain ⟨r, h1, _, _, h4⟩ := h.2 i o ho hr
   rw [Array.getElem?_toList] at ho
   have hi' : i < ops.size := (Array.getElem?_eq_some_iff.1 ho).1
   refine JA hP ho ha h1 (ih (FU L i) _ _ _ _ (by simpa using hsz) ?_ ?_ (ha.put _ _) h4)
   ·intro k hk
    by_cases hki : k = i
    ·subst hki
     rw [JB, Array.getD_eq_getD_getElem?]
     simp [hsz, hi']
    ·rw [Fl L hki, ← hL k hk]
     exact getD_set_ne false (Ne.symm hki)
   ·intro k hk
    rw [Fl L (by omega)]
    exact hL2 k hk
theorem H8 {ops : Array Oper} {Q : Exit → Act → World → Prop} {e' : Env} {w' : World} (hQ : ∀ a, Is n e' a → Q .normal a w') :
  ∀ (l : List Nat) (e : Env) (a : Act) (w : World), Is n e a → opsL P (EV P) n ops.toList l e w = some (e', w') → wpOps P ops Q l a w
 | [], e, a, w, ha, h => by
  simp only [opsL, Option.some.injEq, Prod.mk.injEq] at h
  obtain ⟨rfl, rfl⟩ := h
  simpa [wpOps] using hQ a ha
 | i :: l, e, a, w, ha, h => by
  simp only [opsL] at h
  cases ho : ops.toList[i]? with
  | none =>
   rw [ho] at h
   rw [Array.getElem?_toList] at ho
   simp only [wpOps, ho]
   exact H8 hQ l e a w ha h
  | some o =>
   rw [ho] at h
   simp only [] at h
   cases hr : Hx P (EV P) ops.toList e o w with
   | none => simp [hr] at h
   | some r =>
    simp only [hr, Option.bind_some] at h
    rw [Array.getElem?_toList] at ho
    rw [wpOps_cons]
    exact JA hP ho ha hr (H8 hQ l _ _ _ (ha.put _ _) h)
theorem QQ (hm : P.follows .mixedOrders = true) {fid : FuncId} {id : Nat} {ops : Array Oper} {Q : Exit → Act → World → Prop} {e e' : Env} {a : Act} {w w' : World} (ha : Is n e a)
  (h : UM P (EV P) fid id n ops.toList e w = some (e', w')) (hQ : ∀ a, Is n e' a → Q .normal a w') : QN P fid (Code.region id ops true) Q a w := by
 unfold UM at h
 cases hb : Qv ops.toList with
 | true =>
  rw [hb] at h
  simp only [] at h
  unfold Qv at hb
  simp only [Bool.and_eq_true] at hb
  have hA : K5 ops.toList (Iy ops.toList []) := GY _ _ hb.1
  have hlen := HL _ _ hb.2 [] List.nodup_nil (by simp) (by simp)
  have := Gs (R := fun x y => x = e' ∧ y = w') hA _ 0 e _ [] e' w' (by intro k i hk; simp at hk) hb.2 h ⟨rfl, rfl⟩
  refine JL (wp_region_any hm ?_)
  simp only [List.length_nil, Nat.zero_add] at hlen
  rw [hlen, Array.length_toList] at this
  refine MV hP (R := fun x y => x = e' ∧ y = w') (fun x b y hxy hb => ?_) ops.size (Nat.testBit 0) _ e a _ (by simp) ?_ (by simp) ha this
  ·obtain ⟨rfl, rfl⟩ := hxy; exact hQ b hb
  ·intro k hk
   simp [Array.getD_eq_getD_getElem?, hk]
 | false =>
  rw [hb] at h
  simp only [] at h
  intro b k cs hbf
  have h1 := H8 hP (Q := Q) hQ _ e a _ ha h
  obtain ⟨x, a1, w1, hq, harr⟩ := wp_ops _ a _ h1 b k cs
  refine ⟨x, a1, w1, hq, .of_steps (.one ?_) harr⟩
  rw [step_region_draw, hm, hbf]
def Ex.to : Ex → Exit
 | .normal => .normal
 | .exit id => .exit id
 | .ret => .ret
theorem QR (hm : P.follows .mixedOrders = true) {fid : FuncId} : ∀ (c : Code) (e : Env) (a : Act) (w : World) (r : St), Is n e a → Gq P (EV P) fid n c e w = some r →
  QN P fid c (fun x a' w' => x = Ex.to r.1 ∧ Is n r.2.1 a' ∧ w' = r.2.2) a w := by
 intro c
 induction c with
 | skip =>
  intro e a w r ha h
  simp only [Gq, Option.some.injEq] at h
  subst h
  exact JL (wp_skip ⟨rfl, ha, rfl⟩)
 | label l =>
  intro e a w r ha h
  simp only [Gq, Option.some.injEq] at h
  subst h
  exact JL (wp_label ⟨rfl, ha, rfl⟩)
 | region id ops draw =>
  intro e a w r ha h
  cases draw with
  | false =>
   simp only [Gq] at h
   cases hr : OE P (EV P) n ops.toList ops.toList e w with
   | none => simp [hr] at h
   | some x =>
    simp only [hr, Option.bind_some, Option.some.injEq] at h
    subst h
    refine JL (wp_region ?_)
    have := K0 hP (ops := ops) (Q := fun y a' w' => y = Ex.to .normal ∧ Is n x.1 a' ∧ w' = x.2) (e' := x.1) (w' := x.2) (fun a' h' => ⟨rfl, h', rfl⟩) ops.toList 0 (by simp) e a w ha hr
    rw [List.range_eq_range']
    simpa using this
  | true =>
   simp only [Gq] at h
   cases hr : UM P (EV P) fid id n ops.toList e w with
   | none => simp [hr] at h
   | some x =>
    simp only [hr, Option.bind_some, Option.some.injEq] at h
    subst h
    exact QQ hP hm ha hr fun a' h' => ⟨rfl, h', rfl⟩
 | seq x y ihx ihy =>
  intro e a w r ha h
  simp only [Gq] at h
  cases hr : Gq P (EV P) fid n x e w with
  | none => simp [hr] at h
  | some q =>
   simp only [hr, Option.bind_some] at h
   obtain ⟨q1, q2, q3⟩ := q
   refine Tf (Lu (ihx e a w _ ha hr) ?_)
   rintro z a' w' ⟨hz, ha', hw'⟩
   subst hz
   simp only at hw' ha'
   subst hw'
   cases q1 <;> simp only [] at h
   ·exact ihy _ _ _ _ ha' h
   ·simp only [Option.some.injEq] at h; subst h; exact ⟨rfl, ha', rfl⟩
   ·simp only [Option.some.injEq] at h; subst h; exact ⟨rfl, ha', rfl⟩
 | cond c x y ihx ihy =>
  intro e a w r ha h
  simp only [Gq] at h
  split at h
  ·rename_i hc
   exact OX (t := true) (by rw [ha.eval]; exact hc) (ihx _ _ _ _ ha h)
  ·rename_i hc
   exact OX (t := false) (by rw [ha.eval]; exact hc) (ihy _ _ _ _ ha h)
  ·contradiction
 | block id c ih =>
  intro e a w r ha h
  simp only [Gq] at h
  cases hr : Gq P (EV P) fid n c e w with
  | none => simp [hr] at h
  | some q =>
   simp only [hr, Option.bind_some] at h
   obtain ⟨q1, q2, q3⟩ := q
   refine QO (Lu (ih e a w _ ha hr) ?_)
   rintro z a' w' ⟨hz, ha', hw'⟩
   subst hz
   simp only at hw' ha'
   subst hw'
   cases q1 <;> simp only [Option.some.injEq] at h
   ·subst h; exact ⟨rfl, ha', rfl⟩
   ·rename_i i
    subst h
    show if _ then _ else _
    by_cases hi : i = id
    ·subst hi
     rw [if_pos rfl, Nat.beq_refl]
     exact ⟨rfl, ha', rfl⟩
    ·rw [if_neg hi, show Nat.beq i id = false from Bool.eq_false_iff.2 fun hh => hi (Nat.eq_of_beq_eq_true hh)]
     exact ⟨rfl, ha', rfl⟩
   ·subst h; exact ⟨rfl, ha', rfl⟩
 | loop c ih =>
  intro e a w r ha h
  simp only [Gq, OH] at h
  obtain ⟨m, h⟩ := Py h
  have key : ∀ m e a w, Is n e a → Fi (Gq P (EV P) fid n c) m e w = some r → ∀ (b : Frame) k cs, b.fn = fid → ∃ x a' w', (x = Ex.to r.1 ∧ Is n r.2.1 a' ∧ w' = r.2.2) ∧
    Arrives P (lone (b.at a (.code c :: .inLoop c :: k)) cs w) b k cs x a' w' := by
   intro m
   induction m with
   | zero => intro e a w ha h; simp [Fi] at h
   | succ m ihm =>
    intro e a w ha h b k cs hb
    rw [Fi] at h
    cases hr : Gq P (EV P) fid n c e w with
    | none => simp [hr] at h
    | some q =>
     simp only [hr, Option.bind_some] at h
     obtain ⟨q1, q2, q3⟩ := q
     obtain ⟨x, a1, w1, ⟨hx, ha1, hw1⟩, harr⟩ := ih e a w _ ha hr b (.inLoop c :: k) cs hb
     subst hx
     simp only at hw1 ha1
     subst hw1
     cases q1 <;> simp only [] at h
     ·obtain ⟨x, a2, w2, hq, h2⟩ := ihm _ a1 w1 ha1 h b k cs hb
      exact ⟨x, a2, w2, hq, .of_steps (Steps.trans harr (.one step_inLoop)) h2⟩
     ·simp only [Option.some.injEq] at h
      subst h
      exact ⟨_, a1, w1, ⟨rfl, ha1, rfl⟩, .pass (x := .inLoop c) rfl (fun _ _ => .inl (by simp [Ex.to])) harr⟩
     ·simp only [Option.some.injEq] at h
      subst h
      exact ⟨_, a1, w1, ⟨rfl, ha1, rfl⟩, .pass (x := .inLoop c) rfl (fun _ _ => .inl (by simp [Ex.to])) harr⟩
  intro b k cs hb
  obtain ⟨x, a', w', hq, harr⟩ := key m e a w ha h b k cs hb
  exact ⟨x, a', w', hq, .of_steps (.one step_loop) harr⟩
 | exit id =>
  intro e a w r ha h
  simp only [Gq, Option.some.injEq] at h
  subst h
  exact JL (wp_exit ⟨rfl, ha, rfl⟩)
 | ret =>
  intro e a w r ha h
  simp only [Gq, Option.some.injEq] at h
  subst h
  exact JL (wp_ret ⟨rfl, ha, rfl⟩)
 | rangeFunc => intro e a w r ha h; simp [Gq] at h
 | scope => intro e a w r ha h; simp [Gq] at h
 | goto => intro e a w r ha h; simp [Gq] at h
 | refuse => intro e a w r ha h; simp [Gq] at h
theorem QS (hm : P.follows .mixedOrders = true) {f : FuncId} {args : Array Value} {w : World} {r : Value × World}
  (hsz : ∀ fn, P.funcs[f]? = some fn → args.size ≤ fn.ntmps) (h : U6 P (EV P) f args w = some r) : CE P f args w r := by
 unfold U6 at h
 rw [Array.getElem?_toList] at h
 cases hf : P.funcs[f]? with
 | none => simp [hf] at h
 | some fn =>
  simp only [hf] at h
  cases hb : fn.body with
  | none => simp [hb] at h
  | some c =>
   simp only [hb] at h
   have hsz := hsz fn hf
   cases hr : Gq P (EV P) f fn.ntmps c (AN args) w with
   | none => simp [hr] at h
   | some q =>
    simp only [hr, Option.bind_some] at h
    have ha : Is fn.ntmps (AN args) { tmps := args ++ Array.replicate (fn.ntmps - args.size) undef, defers := [] } := by
     refine ⟨by simp; omega, fun t => ?_, rfl⟩
     simp only [AN, Array.getD_eq_getD_getElem?, Array.getElem?_append, Array.getElem?_toList]
     split
     ·rfl
     ·rw [Array.getElem?_eq_none (xs := args) (by omega), Array.getElem?_replicate]
      split <;> rfl
    refine Oj hf hb (Lu (QR hP hm c _ _ w q ha hr) ?_)
    rintro x a' w' ⟨hx, ha', hw'⟩
    subst hx
    subst hw'
    obtain ⟨q1, q2, q3⟩ := q
    cases q1 <;> simp only [] at h
    ·obtain ⟨h1, h2⟩ := Qi ha' h
     exact ⟨ha'.no, _, h1, rfl, h2.symm⟩
    ·contradiction
    ·obtain ⟨h1, h2⟩ := Qi ha' h
     exact ⟨ha'.no, _, h1, rfl, h2.symm⟩
theorem U7 (hm : P.follows .mixedOrders = true) {f : FuncId} {args : Array Value} {w : World} {r : Value × World}
  (hi : P.inits.idxOf? f = none) (hsz : ∀ fn, P.funcs[f]? = some fn → args.size ≤ fn.ntmps) (h : U6 P (EV P) f args w = some r) : EV P f args w = some r :=
 Ro hi (QS hP hm hsz h)
end
end Go.Ev
