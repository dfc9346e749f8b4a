-- Words of the kit's print, turned by mkwords.py (in wip/), remarks taken out; checked by Lean alone.
import Derived.Test.YtjpacbedcocohaaVWords
import Derived.Test.YtjpacbedcocohaaVLast
import Derived.Test.YtjpacbedcocohaaVMore
import Derived.SizedLaws
import Derived.Laws.Cover1
import Derived.WideShapes
import Derived.ChangeArms
namespace Go.Proofs.Ytjpacbedcocohaa.Rd
open Go.RowKit Go.Proofs.YtjpacbedcocohaaV.PrintWords Go.Proofs.YtjpacbedcocohaaV.PrintLast
theorem mapM_get {α β : Type} (f : α → Option β) : ∀ (l : List α) (ys : List β), l.mapM f = some ys → ys.length = l.length ∧ ∀ (j : Nat) (x : α), l[j]? = some x → ∃ y, f x = some y ∧ ys[j]? = some y
  | [], ys, h => by
    simp at h
    subst h
    exact ⟨rfl, fun j x hx => by simp at hx⟩
  | a :: l, ys, h => by
    rw [List.mapM_cons] at h
    obtain ⟨y, hy, h⟩ := Option.bind_eq_some_iff.mp h
    obtain ⟨zs, hz, h⟩ := Option.bind_eq_some_iff.mp h
    obtain rfl := Option.some.inj h
    obtain ⟨hl, hg⟩ := mapM_get f l zs hz
    refine ⟨by simp [hl], fun j x hx => ?_⟩
    cases j with
    | zero => simp at hx; subst hx; exact ⟨y, hy, rfl⟩
    | succ j => simp at hx; obtain ⟨z, h1, h2⟩ := hg j x hx; exact ⟨z, h1, by simpa using h2⟩
theorem weights_all {H : Type} {P : Program} {e : TypeId} : ∀ {l : List (DataW H)} {x : DataW H}, x ∈ l → ∀ n ∈ x.weights P e, n ∈ DataW.weightsAll P e l
  | y :: l, x, hx, n, hn => by
    simp only [DataW.weightsAll, List.mem_append]
    rcases List.mem_cons.1 hx with rfl | hx
    · exact Or.inl hn
    · exact Or.inr (weights_all hx n hn)
def Rd (P : Program) (t : TypeId) {α : Type} (d : Kd α) (B : α → Prop) : Prop :=
  ∀ (H : Type) (enc : TypeId × Value → H) (W : World) (fuel : Nat) (cs : List Value) (x : DataW H) (ps : List MemPlace),
    DataW.trod enc P W 0 (fun _ => true) true fuel t cs = some (x, ps) → (∀ n ∈ x.weights P t, n ≤ 140737488351232) → ∃ a : α, d.K W a cs ∧ B a
def RdFs (P : Program) (fs : List Field) (off : Nat) {α : Type} (d : Kd α) (B : α → Prop) : Prop :=
  ∀ (H : Type) (enc : TypeId × Value → H) (W : World) (fuel : Nat) (cs : List Value) (xs : List (DataW H × List MemPlace)),
    fs.mapM (fun f => DataW.trod enc P W 0 (fun _ => true) true fuel f.type ((cs.drop f.offset).take (P.cellsOf f.type))) = some xs →
    (∀ n ∈ DataW.weightsEach P (fs.map (·.type)) (xs.map (·.1)), n ≤ 140737488351232) → ∃ a : α, d.K W a ((cs.drop off).take d.sz) ∧ B a
section
variable {P : Program} {t e : TypeId}
theorem rd_int {k : IntKind} (hu : P.underlying t = some (.int k)) : Rd P t (Kd.int k) (fun n => (Lit.int k n).wf = true) := by
  intro H enc W fuel cs x ps h _
  obtain ⟨n, rfl, _, hw⟩ := DataW.trod_int hu h
  exact ⟨n, rfl, hw⟩
theorem rd_bool (hu : P.underlying t = some .bool) : Rd P t Kd.bool (fun _ => True) := by
  intro H enc W fuel cs x ps h _
  obtain ⟨b, rfl, _⟩ := DataW.trod_bool hu h
  exact ⟨b, rfl, trivial⟩
theorem rd_string (hu : P.underlying t = some .string) : Rd P t Kd.string (fun s => s.size ≤ 140737488351232) := by
  intro H enc W fuel cs x ps h hw
  obtain ⟨s, rfl, hx, _⟩ := DataW.trod_string hu h
  obtain ⟨rfl, _⟩ := Prod.mk.inj hx
  exact ⟨s, rfl, by simpa using hw _ (List.mem_singleton.2 rfl)⟩
theorem cells_get {w : World} {a : Addr} {n : Nat} {cs : List Value} (h : w.cells? 0 a n = some cs) : cs.length = n ∧ ∀ (i : Nat) (u : Value), cs[i]? = some u → w.cell? (a.add i) = some u := by
  unfold World.cells? at h
  rw [if_pos (Nat.zero_le _)] at h
  obtain ⟨hl, hg⟩ := mapM_get _ _ _ h
  rw [List.length_range] at hl
  refine ⟨hl, fun i u hu => ?_⟩
  have hi : i < n := by rw [← hl]; exact (List.getElem?_eq_some_iff.1 hu).1
  obtain ⟨y, hy, hy2⟩ := hg i i (by simp [hi])
  rw [hy2] at hu
  obtain rfl := Option.some.inj hu
  exact hy
theorem rows_of {α : Type} (Q : Nat → α → Prop) : ∀ n : Nat, (∀ j, j < n → ∃ a, Q j a) → ∃ l : List α, l.length = n ∧ ∀ (j : Nat) (a : α), l[j]? = some a → Q j a
  | 0, _ => ⟨[], rfl, fun j a h => by simp at h⟩
  | n + 1, h => by
    obtain ⟨l, hl, hq⟩ := rows_of Q n (fun j hj => h j (by omega))
    obtain ⟨a, ha⟩ := h n (by omega)
    refine ⟨l ++ [a], by simp [hl], fun j b hb => ?_⟩
    rcases Nat.lt_or_ge j l.length with hj | hj
    · rw [List.getElem?_append_left hj] at hb; exact hq j b hb
    · have hj2 : j < (l ++ [a]).length := (List.getElem?_eq_some_iff.1 hb).1
      have : j = n := by simp at hj2; omega
      subst this
      rw [List.getElem?_append_right (by omega)] at hb
      simp [hl] at hb
      subst hb
      exact ha
theorem addr_add_add (a : Addr) (x y : Nat) : (a.add x).add y = a.add (x + y) := by
  by_cases hx : x = 0
  · subst hx; simp [Addr.add]
  · by_cases hy : y = 0
    · subst hy; simp [Addr.add]
    · simp [Addr.add, hx, hy, Nat.add_assoc]
theorem rd_slice {α : Type} {d : Kd α} {B : α → Prop} {bytes : Nat} (hu : P.underlying t = some (.slice e)) (hs : P.cellsOf e = d.sz) (hb : P.bytesOf e = bytes) (he : Rd P e d B) :
    Rd P t (Kd.slice e d) (fun l => l.length * bytes ≤ 140737488351232 ∧ ∀ x ∈ l, B x) := by
  intro H enc W fuel cs x ps h hw
  rcases DataW.trod_slice hu h with ⟨rfl, _⟩ | ⟨a, len, cap, elems, rest, n, rfl, rfl, hx, _, hlc, hcm, hlen, hel, _, _⟩
  · exact ⟨[], ⟨none, 0, rfl, Nat.le_refl _, rfl, by simp, fun h0 => absurd h0 (by simp)⟩, by simp, by simp⟩
  · obtain ⟨rfl, _⟩ := Prod.mk.inj hx
    have hsz := hw ((elems.length + rest.length) * bytes) (by simp [DataW.weights, hu, hb])
    have hB0 : len * bytes ≤ 140737488351232 := Nat.le_trans (Nat.mul_le_mul_right _ (by omega)) hsz
    obtain ⟨l, hll, hlq⟩ := rows_of (fun j b => ∃ c, W.cells? 0 (a.add (j * P.cellsOf e)) (P.cellsOf e) = some c ∧ d.K W b c ∧ B b) len (fun j hj => by
      have hj' := hel j hj
      rw [List.getElem?_eq_getElem (by omega : j < elems.length)] at hj'
      obtain ⟨c, hc, hy⟩ := Option.bind_eq_some_iff.mp hj'
      obtain ⟨b, hK, hBb⟩ := he H enc W n c elems[j].1 elems[j].2 hy (fun n hn => hw n (by
        simp only [DataW.weights, hu, List.mem_cons, List.mem_append]
        exact Or.inr (Or.inl (weights_all (List.mem_map.2 ⟨elems[j], List.getElem_mem _, rfl⟩) n hn))))
      exact ⟨b, c, hc, hK, hBb⟩)
    subst hll
    have hmax : cap ≤ 9223372036854775807 := Nat.le_trans hcm (by decide)
    refine ⟨l, ⟨some a, cap, rfl, hlc, rfl, by omega, fun _ => ⟨a, rfl, fun j b hj => ?_⟩⟩, hB0, fun b hb' => ?_⟩
    · obtain ⟨c, hc, hK, _⟩ := hlq j b hj
      refine ⟨c, d.K_len hK, hK, fun i u hi => ?_⟩
      have := (cells_get hc).2 i u hi
      rwa [addr_add_add, hs] at this
    · obtain ⟨j, hj⟩ := List.getElem?_of_mem hb'
      exact (hlq j b hj).choose_spec.2.2
theorem rd_one {f : Field} {off : Nat} {α : Type} {d : Kd α} {B : α → Prop} (hf : f.offset = off) (hs : P.cellsOf f.type = d.sz) (h : Rd P f.type d B) : RdFs P [f] off d B := by
  intro H enc W fuel cs xs hx hw
  rw [List.mapM_cons] at hx
  obtain ⟨y, hy, hx⟩ := Option.bind_eq_some_iff.mp hx
  simp at hx
  subst hx
  rw [hf, hs] at hy
  exact h H enc W fuel _ y.1 y.2 hy (fun n hn => hw n (by simpa [DataW.weightsEach] using hn))
theorem rd_cons {f : Field} {fs : List Field} {off : Nat} {α β : Type} {d : Kd α} {d' : Kd β} {B : α → Prop} {B' : β → Prop} (hf : f.offset = off) (hs : P.cellsOf f.type = d.sz) (h : Rd P f.type d B) (hr : RdFs P fs (off + d.sz) d' B') :
    RdFs P (f :: fs) off (Kd.pair d d') (fun p => B p.1 ∧ B' p.2) := by
  intro H enc W fuel cs xs hx hw
  rw [List.mapM_cons] at hx
  obtain ⟨y, hy, hx⟩ := Option.bind_eq_some_iff.mp hx
  obtain ⟨ys, hys, hx⟩ := Option.bind_eq_some_iff.mp hx
  obtain rfl := Option.some.inj hx
  rw [hf, hs] at hy
  obtain ⟨a, hK, hB⟩ := h H enc W fuel _ y.1 y.2 hy (fun n hn => hw n (by simp [DataW.weightsEach]; exact Or.inl hn))
  obtain ⟨b, hK', hB'⟩ := hr H enc W fuel cs ys hys (fun n hn => hw n (by simp [DataW.weightsEach]; exact Or.inr hn))
  refine ⟨(a, b), ⟨_, _, ?_, hK, hK'⟩, hB, hB'⟩
  show (cs.drop off).take (d.sz + d'.sz) = _
  rw [List.take_add, List.drop_drop]
theorem rd_struct {fs : Array Field} {l : List Field} {α : Type} {d : Kd α} {B : α → Prop} (hu : P.underlying t = some (.struct fs)) (hc : P.cellsOf t = d.sz) (hl : fs.toList = l) (h : RdFs P l 0 d B) : Rd P t d B := by
  intro H enc W fuel cs x ps hx hw
  cases fuel with
  | zero => simp [DataW.trod] at hx
  | succ fuel =>
    simp only [DataW.trod, hu] at hx
    split at hx
    case isFalse => simp at hx
    rename_i hlen
    obtain ⟨xs, hxs, hx⟩ := Option.map_eq_some_iff.mp hx
    obtain ⟨rfl, rfl⟩ := Prod.mk.inj hx
    rw [hl] at hxs
    obtain ⟨a, hK, hB⟩ := h H enc W fuel cs xs hxs (fun n hn => hw n (by simp only [DataW.weights, hu, hl]; exact hn))
    refine ⟨a, ?_, hB⟩
    rwa [List.drop_zero, List.take_of_length_le (by omega)] at hK
theorem rd_iso {α β : Type} {d : Kd α} {B : α → Prop} {f : β → α} (g : α → β) (hfg : ∀ x, f (g x) = x) (h : Rd P t d B) : Rd P t (Kd.iso d f) (fun y => B (f y)) := by
  intro H enc W fuel cs x ps hx hw
  obtain ⟨a, hK, hB⟩ := h H enc W fuel cs x ps hx hw
  exact ⟨g a, by show d.K W (f (g a)) cs; rw [hfg]; exact hK, by show B (f (g a)); rw [hfg]; exact hB⟩
end
theorem weights_at {H : Type} {P : Program} {ts : List TypeId} {ds : List (DataW H)} (h : (DataW.weightsEach P ts ds).all (· ≤ reachBytes) = true) {j : Nat} {t : TypeId} {d : DataW H} (ht : ts[j]? = some t) (hd : ds[j]? = some d) : ∀ n ∈ d.weights P t, n ≤ 140737488351232 :=
  fun n hn => of_decide_eq_true (by have := List.all_eq_true.1 h n (DataW.weights_mem_each ht hd n hn); exact this)
theorem array_of {cs : Array Value} {l : List Value} (h : cs.toList = l) : cs = l.toArray := by cases cs; simpa using h
theorem less_or_eq : ∀ (a b : List UInt8), (Op.bytesLess a b || a == b) = !Op.bytesLess b a
  | [], [] => by simp [Op.bytesLess]
  | [], _ :: _ => by simp [Op.bytesLess]
  | _ :: _, [] => by simp [Op.bytesLess]
  | a :: x, b :: y => by
    have ih := less_or_eq x y
    by_cases h1 : a < b
    · have h2 : ¬ b < a := by
        rw [UInt8.lt_iff_toNat_lt] at *
        omega
      have h3 : ¬ b = a := by
        intro e
        rw [e, UInt8.lt_iff_toNat_lt] at h1
        omega
      simp [Op.bytesLess, h1, h2, h3]
    · by_cases h2 : b < a
      · have h3 : ¬ a = b := by
          intro e
          rw [e, UInt8.lt_iff_toNat_lt] at h2
          omega
        simp [Op.bytesLess, h1, h2, h3]
      · have h3 : a = b := by
          rw [UInt8.lt_iff_toNat_lt] at h1 h2
          exact UInt8.toNat_inj.mp (by omega)
        subst h3
        rw [Op.bytesLess, Op.bytesLess]
        simp only [h1, decide_false, beq_self_eq_true, Bool.true_and, Bool.false_or]
        rw [← ih]
        congr 1
        exact Bool.eq_iff_iff.mpr (by simp)
theorem eql_nil {P : Program} {t e : TypeId} (hu : P.underlying t = some (.slice e)) (A : Option Addr) (n c : Nat) (w : World) : (binOp .eql t (.slice A n c) (.slice none 0 0)).run P w = .ok (.bool A.isNone) w := by
  have h : (Op.equal t (.slice A n c) (.slice none 0 0)).run P w = .ok A.isNone w := by
    unfold Op.equal
    rw [show Op.maxDepth = 9999 + 1 from rfl, Op.equalIn]
    cases A <;> simp [run_underlying hu]
  cases A <;> simp [binOp, go_sem, h]
theorem C_none {α : Type} {d : Kd α} (z : α) {w : World} {n : Nat} {xs : List α} (h : d.C w none n xs) : n = 0 := by
  rcases Nat.eq_zero_or_pos n with h0 | h0
  · exact h0
  · obtain ⟨ad, _, e, _⟩ := Kd.C_get h z 0 (by omega) (by omega)
    cases e
end Go.Proofs.Ytjpacbedcocohaa.Rd
