/- A part of the proof, without conditions. -/
import Derived.SizedLaws
import Derived.Laws.Cover1
import Derived.WideShapes
import Derived.ChangeArms
import Derived.WalkKit
import Derived.ProofKit
import Derived.OpenShut
import Derived.ShutString
import Derived.ChangeOld
import Derived.Below
import Derived.Test.YtkhbpmhagpljiaaGreatDoorEvI
import Derived.Test.YtkhbpmhagpljiaaGreatDoorEvJ
set_option linter.unusedVariables false
set_option linter.unusedSimpArgs false
set_option linter.deprecated false
namespace Go.Ev
open Go Go.RowKit Go.ChangeShapes Go.WideShapes Go.ChangeAt
def Rd (P : Program) (t : TypeId) {α : Type} (R : World → List Value → α → Prop) : Prop :=
 ∀ (H : Type) (enc : TypeId × Value → H) (W : World) (fuel : Nat) (cs : List Value) (x : DataW H) (ps : List MemPlace),
  DataW.trod enc P W 0 (fun _ => true) true fuel t cs = some (x, ps) → (∀ n ∈ x.weights P t, n ≤ 140737488351232) → ∃ a : α, R W cs a
theorem Qz {α β : Type} (f : α → Option β) : ∀ (l : List α) (ys : List β), l.mapM f = some ys → ys.length = l.length ∧ ∀ (j : Nat) (x : α), l[j]? = some x → ∃ y, f x = some y ∧ ys[j]? = some y
 | [], ys, h => by
  simp at h
  subst h
  exact ⟨rfl, fun j x hx => by simp at hx⟩
 | a :: l, ys, h => by
  rw [List.mapM_cons] at h
  obtain ⟨y, hy, h⟩ := Option.bind_eq_some_iff.mp h
  obtain ⟨zs, hz, h⟩ := Option.bind_eq_some_iff.mp h
  obtain rfl := Option.some.inj h
  obtain ⟨hl, hg⟩ := Qz f l zs hz
  refine ⟨by simp [hl], fun j x hx => ?_⟩
  cases j with
  | zero => simp at hx; subst hx; exact ⟨y, hy, rfl⟩
  | succ j => simp at hx; obtain ⟨z, h1, h2⟩ := hg j x hx; exact ⟨z, h1, by simpa using h2⟩
theorem Lj {H : Type} {P : Program} {e : TypeId} : ∀ {l : List (DataW H)} {x : DataW H}, x ∈ l → ∀ n ∈ x.weights P e, n ∈ DataW.weightsAll P e l
 | y :: l, x, hx, n, hn => by
  simp only [DataW.weightsAll, List.mem_append]
  rcases List.mem_cons.1 hx with rfl | hx
  ·exact Or.inl hn
  ·exact Or.inr (Lj hx n hn)
theorem K4 {w : World} {a : Addr} {n : Nat} {cs : List Value} (h : w.cells? 0 a n = some cs) : cs.length = n ∧ ∀ (i : Nat) (u : Value), cs[i]? = some u → w.cell? (a.add i) = some u := by
 unfold World.cells? at h
 rw [if_pos (Nat.zero_le _)] at h
 obtain ⟨hl, hg⟩ := Qz _ _ _ h
 rw [List.length_range] at hl
 refine ⟨hl, fun i u hu => ?_⟩
 have hi : i < n := by rw [← hl]; exact (List.getElem?_eq_some_iff.1 hu).1
 obtain ⟨y, hy, hy2⟩ := hg i i (by simp [hi])
 rw [hy2] at hu
 obtain rfl := Option.some.inj hu
 exact hy
theorem RR {α : Type} (Q : Nat → α → Prop) : ∀ n : Nat, (∀ j, j < n → ∃ a, Q j a) → ∃ l : List α, l.length = n ∧ ∀ (j : Nat) (a : α), l[j]? = some a → Q j a
 | 0, _ => ⟨[], rfl, fun j a h => by simp at h⟩
 | n + 1, h => by
  obtain ⟨l, hl, hq⟩ := RR Q n (fun j hj => h j Ad)
  obtain ⟨a, ha⟩ := h n Ad
  refine ⟨l ++ [a], by simp [hl], fun j b hb => ?_⟩
  rcases Nat.lt_or_ge j l.length with hj | hj
  ·rw [List.getElem?_append_left hj] at hb; exact hq j b hb
  ·have hj2 : j < (l ++ [a]).length := (List.getElem?_eq_some_iff.1 hb).1
   have : j = n := by simp at hj2; omega
   subst this
   rw [List.getElem?_append_right Ad] at hb
   simp [hl] at hb
   subst hb
   exact ha
theorem RS {W : World} {b sz : Nat} : ∀ (css : List (List Value)) (o : Nat), (∀ c ∈ css, c.length = sz) → (∀ (i : Nat) (c : List Value), css[i]? = some c → ∀ (j : Nat) (v : Value), c[j]? = some v → AR (hp W b) (o + i * sz + j) = some v) → At W b o css.flatten
 | [], o, _, _ => fun j v hv => by simp at hv
 | c :: css, o, hl, h => by
  intro j v hv
  have hc := hl c List.mem_cons_self
  rw [List.flatten_cons] at hv
  rcases Nat.lt_or_ge j c.length with hj | hj
  ·rw [List.getElem?_append_left hj] at hv
   have := h 0 c rfl j v hv
   simpa using this
  ·rw [List.getElem?_append_right hj] at hv
   have ih := RS css (o + sz) (fun c h => hl c (List.mem_cons_of_mem _ h)) (fun i c hi j v hv => by
    have := h (i + 1) c (by simpa using hi) j v hv
    rw [Nat.succ_mul] at this
    rw [show o + sz + i * sz + j = o + (i * sz + sz) + j by omega]
    exact this) (j - c.length) v hv
   rwa [hc, show o + sz + (j - sz) = o + j by omega] at ih
theorem RT {α β : Type} {R : α → β → Prop} : ∀ (l : List (α × β)), (∀ p ∈ l, R p.1 p.2) → DG R (l.map (·.1)) (l.map (·.2))
 | [], _ => trivial
 | p :: l, h => ⟨h p List.mem_cons_self, RT l fun q hq => h q (List.mem_cons_of_mem _ hq)⟩
section
variable {P : Program} {t e : TypeId}
theorem WC {k : IntKind} (hu : P.underlying t = some (.int k)) : Rd P t (fun _ cs n => cs = [.int k n] ∧ (Lit.int k n).wf = true) := by
 intro H enc W fuel cs x ps h _
 obtain ⟨n, rfl, _, hw⟩ := DataW.trod_int hu h
 exact ⟨n, rfl, hw⟩
theorem Uf {α : Type} {R : World → List Value → α → Prop} {bytes sz : Nat} (hu : P.underlying t = some (.slice e)) (hs : P.cellsOf e = sz) (h0 : 0 < sz) (hb : P.bytesOf e = bytes) (he : Rd P e R) :
  Rd P t (fun W cs (l : List α) => ∃ s css, cs = [s] ∧ Sl W s l.length css.flatten ∧ DG (R W) css l ∧ (∀ c ∈ css, c.length = sz) ∧ l.length * bytes ≤ 140737488351232) := by
 intro H enc W fuel cs x ps h hw
 rcases DataW.trod_slice hu h with ⟨rfl, _⟩ | ⟨a, len, cap, elems, rest, n, rfl, rfl, hx, _, hlc, hcm, hlen, hel, _, _⟩
 ·exact ⟨[], _, [], rfl, ⟨none, 0, rfl, by simp, .inl rfl⟩, trivial, by simp, by simp⟩
 ·obtain ⟨rfl, _⟩ := Prod.mk.inj hx
  have hsz := hw ((elems.length + rest.length) * bytes) (by simp [DataW.weights, hu, hb])
  have hB0 : len * bytes ≤ 140737488351232 := Nat.le_trans (Nat.mul_le_mul_right _ Ad) hsz
  obtain ⟨l, hll, hlq⟩ := RR (fun j (p : List Value × α) => W.cells? 0 (a.add (j * P.cellsOf e)) (P.cellsOf e) = some p.1 ∧ R W p.1 p.2) len (fun j hj => by
   have hj' := hel j hj
   rw [List.getElem?_eq_getElem (by omega : j < elems.length)] at hj'
   obtain ⟨c, hc, hy⟩ := Option.bind_eq_some_iff.mp hj'
   obtain ⟨b, hK⟩ := he H enc W n c elems[j].1 elems[j].2 hy (fun n hn => hw n (by
    simp only [DataW.weights, hu, List.mem_cons, List.mem_append]
    exact Or.inr (Or.inl (Lj (List.mem_map.2 ⟨elems[j], List.getElem_mem _, rfl⟩) n hn))))
   exact ⟨(c, b), hc, hK⟩)
  have hmem : ∀ p ∈ l, p.1.length = sz ∧ R W p.1 p.2 := fun p hp => by
   obtain ⟨j, hj⟩ := List.getElem?_of_mem hp
   have := hlq j p hj
   exact ⟨by rw [(K4 this.1).1, hs], this.2⟩
  have hmax : cap ≤ 9223372036854775807 := Nat.le_trans hcm AD
  refine ⟨l.map (·.2), _, l.map (·.1), rfl, ⟨some a, cap, by simp [hll], by simp; omega, ?_⟩, RT l fun p hp => (hmem p hp).2, fun c hc => ?_, by simpa [hll] using hB0⟩
  ·cases l with
   | nil => exact .inl rfl
   | cons p l =>
    right
    have hp0 := hlq 0 p rfl
    have hl0 := (hmem p List.mem_cons_self).1
    have hg0 := (K4 hp0.1).2 0 (p.1[0]'Ad) (List.getElem?_eq_getElem Ad)
    obtain ⟨ab, ao, asp⟩ := a
    have hsp : asp = none := by
     simp only [Nat.zero_mul, Addr.add, if_true, World.cell?] at hg0
     split at hg0
     ·split at hg0
      ·contradiction
      ·rename_i h; simpa using h
     ·contradiction
    subst hsp
    refine ⟨ab, ao, rfl, RS (sz := sz) _ ao (fun c hc => ?_) fun i c hi j v hv => ?_⟩
    ·obtain ⟨q, hq, rfl⟩ := List.mem_map.1 hc
     exact (hmem q hq).1
    ·rw [List.getElem?_map] at hi
     obtain ⟨q, hq, rfl⟩ := Option.map_eq_some_iff.1 hi
     have := (K4 (hlq i q hq).1).2 j v hv
     rwa [add_lit, add_lit, cell?_eq, hs] at this
  ·obtain ⟨q, hq, rfl⟩ := List.mem_map.1 hc
   exact (hmem q hq).1
theorem WD {α β : Type} {R : World → List Value → α → Prop} {R' : World → List Value → β → Prop} (h : Rd P t R) (f : ∀ W cs a, R W cs a → ∃ b, R' W cs b) : Rd P t R' := by
 intro H enc W fuel cs x ps hx hw
 obtain ⟨a, ha⟩ := h H enc W fuel cs x ps hx hw
 exact f W cs a ha
end
theorem Rm {H : Type} {P : Program} {ts : List TypeId} {ds : List (DataW H)} (h : (DataW.weightsEach P ts ds).all (· ≤ reachBytes) = true) {j : Nat} {t : TypeId} {d : DataW H} (ht : ts[j]? = some t) (hd : ds[j]? = some d) : ∀ n ∈ d.weights P t, n ≤ 140737488351232 :=
 fun n hn => of_decide_eq_true (by have := List.all_eq_true.1 h n (DataW.weights_mem_each ht hd n hn); exact this)
theorem Ug {P : Program} {f : FuncId} {args : Array Value} {w : World} {Q : Value × World → Prop} (h : Af (EV P f args w) Q) : Calls P f args w fun e w' => ∃ v, e = .returned v ∧ Q (v, w') := by
 obtain ⟨r, hr, hq⟩ := h
 refine Calls.mono (Vv hr) ?_
 rintro e w' ⟨rfl, rfl⟩
 exact ⟨r.1, rfl, hq⟩
end Go.Ev
namespace Go.Ev
open Go Go.RowKit Go.ChangeShapes Go.WideShapes Go.ChangeAt
section
variable {P : Program} {t e E : TypeId} {α β : Type} {L : Lay α} {M : Lay β} {mx bytes : Nat}
theorem Vg {R : World → List Value → α → Prop} {R' : World → List Value → β → Prop} (h : Rd P t R) (h' : Rd P t R') : Rd P t (fun W cs (p : α × β) => R W cs p.1 ∧ R' W cs p.2) := by
 intro H enc W fuel cs x ps hx hw
 obtain ⟨a, ha⟩ := h H enc W fuel cs x ps hx hw
 obtain ⟨b, hb⟩ := h' H enc W fuel cs x ps hx hw
 exact ⟨(a, b), ha, hb⟩
theorem WE (hu : P.underlying t = some (.slice e)) : Rd P t (fun W cs (_ : Unit) => ∃ a n c, cs = [.slice a n c] ∧ n ≤ c ∧ c ≤ 9223372036854775807) := by
 intro H enc W fuel cs x ps h hw
 rcases DataW.trod_slice hu h with ⟨rfl, _⟩ | ⟨a, len, cap, elems, rest, n, rfl, rfl, hx, _, hlc, hcm, hlen, hel, _, _⟩
 ·exact ⟨(), none, 0, 0, rfl, Nat.le_refl _, by decide⟩
 ·exact ⟨(), some a, len, cap, rfl, hlc, Nat.le_trans hcm AD⟩
theorem Uh (hu : P.underlying t = some (.slice e)) (hs : P.cellsOf e = 1) (hb : P.bytesOf e = 1) (he : P.underlying e = some (.int .u8)) : Rd P t fun W cs ns => ∃ s, cs = [s] ∧ EI W s ns :=
 WD (Vg (Uf hu hs Ad hb (WC he)) (WE hu)) fun W cs ⟨ns, _⟩ ⟨⟨s, css, h1, ⟨a, c, h2, h3, h4⟩, h5, h6, h7⟩, a', n', c', h8, h9, h10⟩ => ⟨ns, s, h1, by
  subst h2
  rw [h1] at h8
  simp only [List.cons.injEq, Value.slice.injEq, and_true] at h8
  obtain ⟨rfl, rfl, rfl⟩ := h8
  have key : ∀ (css : List (List Value)) (ns : List Int), DG (fun cs n => cs = [.int .u8 n] ∧ (Lit.int .u8 n).wf = true) css ns → css.flatten = ns.map (Value.int .u8) ∧ ∀ n ∈ ns, 0 ≤ n ∧ n ≤ 255 := by
   intro css
   induction css with
   | nil => intro ns h; cases ns with
    | nil => exact ⟨rfl, fun n hn => by simp at hn⟩
    | cons _ _ => exact h.elim
   | cons c css ih => intro ns h; cases ns with
    | nil => exact h.elim
    | cons n ns =>
     obtain ⟨h1, h2⟩ := ih ns h.2
     obtain ⟨h3, h4⟩ := h.1
     refine ⟨by rw [List.flatten_cons, h3, h1]; rfl, fun m hm => ?_⟩
     rcases List.mem_cons.1 hm with rfl | hm
     ·simp only [Lit.wf, Bool.and_eq_true, decide_eq_true_eq, show IntKind.u8.min = 0 from by decide, show IntKind.u8.max = 255 from by decide] at h4
      exact h4
     ·exact h2 m hm
  obtain ⟨k1, k2⟩ := key css ns h5
  rw [k1] at h4
  refine ⟨a, c, rfl, h9, h10, k2, ?_⟩
  rcases h4 with h4 | h4
  ·exact .inl (by simpa using h4)
  ·exact .inr h4⟩
end
end Go.Ev
