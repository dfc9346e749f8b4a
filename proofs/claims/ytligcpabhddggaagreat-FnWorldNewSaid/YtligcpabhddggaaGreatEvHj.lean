/- A part of the proof, without conditions. -/
import Derived.Lib.AppendZeros
import Derived.Test.YtligcpabhddggaaGreatEvX
import Derived.Test.YtligcpabhddggaaGreatEvN
set_option linter.unusedVariables false
set_option linter.unusedSimpArgs false
namespace Go.Ev
open Go Go.RowKit
/-! ### A row made by growing; rows of one's own whose elements are only read -/
theorem appZ {P : Program} {t tn ty e s y : Nat} {kn : IntKind} (h : elB P t = some (e, s, y)) (htn : P.underlying tn = some (.int kn)) {z : List Value} (hz : zeroB P e = some z) (hzs : z.length = s) (hs : 0 < s) {n : Nat} (h0 : 0 < n) (hb : n * y ≤ 140737488355328) (hb2 : n ≤ 140737488355328) (w : World) :
    Ret (b_append P #[t, tn] ty #[.slice none 0 0, i64 n] w) fun r => ∃ cap, r.1 = .slice (some ⟨w.heap.size, 0, none⟩) n cap ∧ n ≤ cap ∧ cap ≤ 9223372036854775807 ∧ Own r.2 w.heap.size e s (.slice (some ⟨w.heap.size, 0, none⟩) 0 cap) 0 [] ∧ w.heap.size < r.2.heap.size ∧ Ext w r.2 := by
  obtain ⟨hu, i, hi, h4, h5⟩ := elB_spec h
  obtain ⟨i', zv, hi', hv, h6⟩ := zeroB_spec hz
  rw [hi] at hi'
  cases hi'
  have hsz : zv.cells.size = s := by rw [← hzs, ← h6]; simp
  have hr := Lib.run_append_nil_zeros (P := P) w t tn ty e i zv .i64 kn hu htn hi hv n h0 (by omega) (by omega) (by rw [h5]; omega)
  have hge := grownCap_ge w n 0 e
  have hle := grownCap_le_maxLen w n 0 e (by simp only [maxLen]; omega)
  simp only [maxLen] at hle
  have hx := congrArg ro hr
  refine ⟨_, hx, grownCap w n 0 e, rfl, hge, by omega, ⟨by simp, by omega, .inr ⟨w.heap.size, _, _, rfl, Nat.le_refl _, hp_alloc_eq (w := w.drew) (by rfl), Nat.zero_le _, by omega, ?_, by simp⟩⟩, by simp, ⟨by rfl, by rfl, by rfl, by simp, fun k hk => hp_alloc_lt (w := w.drew) hk⟩⟩
  simp only [Array.size_append, size_zeroCells, hsz, ← Nat.add_mul]
  exact Nat.mul_le_mul_right _ (by omega)
section
variable {P : Program} {α : Type} {L : Lay α} {S S1 : Nat → Prop} {w w' : World} {E mx B : Nat}
def OwnD (L : Lay α) (E : TypeId) (S : Nat → Prop) (B : Nat) (w : World) (s : Value) (xs : List α) : Prop :=
  ∃ css, Own w B E L.n s xs.length css.flatten ∧ All2 (D L S w) css xs ∧ ∀ b ∈ (blkOf s).toList, ¬ S b ∧ b < w.heap.size
theorem D.opened {a : Option Addr} {n c : Nat} {xs : List α} (h : D (LList E mx L) S w [.slice a n c] xs) : ∃ css, All2 (D L S w) css xs ∧ (xs = [] ∨ css.flatten = [] ∨ ∃ b o, a = some ⟨b, o, none⟩ ∧ At w b o css.flatten) := by
  obtain ⟨bs, ⟨s', css, bss, he, h3, hm, ⟨⟨a', c', e1, hn, h1⟩, hlt, rfl⟩⟩, hS⟩ := h
  obtain rfl : .slice a n c = s' := by simpa using he
  simp only [Value.slice.injEq] at e1
  obtain ⟨rfl, rfl, rfl⟩ := e1
  refine ⟨css, All2.of3 h3 fun x y z hz h => ⟨z, h, fun b hb => hS b (List.mem_append_right _ (List.mem_flatten.2 ⟨z, hz, hb⟩))⟩, .inr h1⟩
theorem All2.app2 {β γ : Type} {R : β → γ → Prop} : ∀ {l : List β} {m : List γ} {l' : List β} {m' : List γ}, All2 R l m → All2 R l' m' → All2 R (l ++ l') (m ++ m')
  | [], [], _, _, _, h => h
  | a :: l, b :: m, _, _, h, h' => ⟨h.1, All2.app2 h.2 h'⟩
  | [], _ :: _, _, _, h, _ => h.elim
  | _ :: _, [], _, _, h, _ => h.elim
theorem OwnD.keep {s : Value} {xs : List α} (h : OwnD L E S B w s xs) (k : ∀ b, S b ∨ b ∈ (blkOf s).toList → b < w.heap.size → hp w' b = hp w b) (hw : w.heap.size ≤ w'.heap.size) : OwnD L E S B w' s xs := by
  obtain ⟨css, h1, h2, h3⟩ := h
  exact ⟨css, h1.keep fun g hg => k g (.inr (by simp [hg])) (h3 g (by simp [hg])).2, h2.imp fun _ _ h => h.keep fun b hb hs => k b (.inl hb) hs, fun b hb => ⟨(h3 b hb).1, Nat.lt_of_lt_of_le (h3 b hb).2 hw⟩⟩
/-- A row that is read, behind one's own. -/
theorem OwnD.app {t ty y : Nat} (hE : elB P t = some (E, L.n, y)) {z : List Value} (hz : zeroB P E = some z) (hzs : z.length = L.n) (h0 : 0 < L.n) {a0 : Option Addr} {n0 c0 : Nat} {xs ys : List α} {a : Option Addr} {n c : Nat}
    (ho : OwnD L E S B w (.slice a0 n0 c0) xs) (hx : D (LList E mx L) S w [.slice a n c] ys) (hS : ∀ b, S b → b < w.heap.size) (hB : B ≤ w.heap.size) (hl : xs.length + ys.length ≤ mx) (hy : mx * y ≤ 140737488355328) (hm2 : mx ≤ 140737488355328) :
    Ret (b_append P #[t, t] ty #[.slice a0 n0 c0, .slice a n c] w) fun r => ∃ a' c', r.1 = .slice a' (xs.length + ys.length) c' ∧ OwnD L E S B r.2 (.slice a' (xs.length + ys.length) c') (xs ++ ys) ∧ But w r.2 (blkOf (.slice a0 n0 c0)) := by
  have hn := hx.n.1
  obtain ⟨css, k1, k2⟩ := hx.opened
  obtain ⟨c1, h1, h2, h3⟩ := ho
  have hcl : ∀ c ∈ css, c.length = L.n := fun c hc => by obtain ⟨x, _, h⟩ := k1.mem hc; exact h.len
  have hfl := sum_flat hcl
  have hln := k1.length
  have hb1 : (xs.length + ys.length) * y ≤ mx * y := Nat.mul_le_mul_right _ hl
  have hn0 : n0 = xs.length := by
    obtain ⟨_, _, h⟩ := h1
    rcases h with ⟨h, hh⟩ | ⟨_, _, _, h, _⟩
    · simp only [Value.slice.injEq] at h; omega
    · simp only [Value.slice.injEq] at h; omega
  have hn0c : n0 ≤ c0 := by
    obtain ⟨_, _, h⟩ := h1
    rcases h with ⟨h, hh⟩ | ⟨_, _, _, h, _, _, hc, _⟩
    · simp only [Value.slice.injEq] at h; omega
    · simp only [Value.slice.injEq] at h; omega
  by_cases hz0 : ys.length = 0
  · have hnil : ys = [] := List.eq_nil_of_length_eq_zero hz0
    subst hnil
    subst hn
    simp only [List.length_nil, Nat.add_zero, List.append_nil]
    rw [app_none (P := P) (ty := ty) hE a0 a n0 c0 c hn0c w]
    refine ⟨_, rfl, a0, c0, by simp only; rw [hn0], ?_, But.of Ext.rfl _⟩
    rw [← hn0]
    exact ⟨c1, h1, h2, h3⟩
  · obtain ⟨b, o, rfl, hA⟩ : ∃ b o, a = some ⟨b, o, none⟩ ∧ At w b o css.flatten := by
      rcases k2 with h | h | h
      · rw [h] at hz0; exact absurd rfl hz0
      · rw [h] at hfl
        simp only [List.length_nil] at hfl
        have := Nat.mul_pos (show 0 < css.length by omega) h0
        omega
      · exact h
    have hones : css.flatten.all Value.oneCell' = true := by
      rw [List.all_eq_true]
      intro v hv
      obtain ⟨c, hc, hv⟩ := List.mem_flatten.1 hv
      obtain ⟨x, _, h⟩ := k1.mem hc
      exact List.all_eq_true.1 h.one v hv
    subst hn
    refine Ret.mono (app_own hE hz hzs h0 h1 hB hA (by rw [hfl, hln]) hones (by omega) (by omega) (by omega)) ?_
    rintro ⟨s1, w1⟩ ⟨h4, h5, h6⟩
    dsimp only at *
    obtain ⟨a', c', e1, _⟩ := h4.at
    have hg : ∀ b, S b → b < w.heap.size → hp w1 b = hp w b := fun b hb hs => h5.blk b hs fun e => (h3 b (by simp [e])).1 hb
    subst e1
    refine ⟨a', c', rfl, ⟨c1 ++ css, ?_, All2.app2 (h2.imp fun _ _ h => h.keep hg) (k1.imp fun _ _ h => h.keep hg), fun b hb => ?_⟩, h5⟩
    · rw [List.length_append, List.flatten_append]
      exact h4
    · rcases h6 with h6 | ⟨g, h6, h7, h8⟩
      · rw [h6] at hb
        exact ⟨(h3 b hb).1, Nat.lt_of_lt_of_le (h3 b hb).2 h5.size⟩
      · rw [h6] at hb
        simp only [Option.toList_some, List.mem_singleton] at hb
        subst hb
        exact ⟨fun h => absurd (hS b h) (by omega), h8⟩
theorem OwnD.blk {s : Value} {xs : List α} (h : OwnD L E S B w s xs) : ∀ b ∈ (blkOf s).toList, B ≤ b := by
  obtain ⟨css, h1, _⟩ := h
  exact fun b hb => (h1.lt (g := b) (by simpa using hb)).1
theorem OwnD.d {s : Value} {xs : List α} (h : OwnD L E S B w s xs) (hm : xs.length ≤ mx) : D (LList E mx L) (fun b => S b ∨ b ∈ (blkOf s).toList) w [s] xs := by
  obtain ⟨css, h1, h2, h3⟩ := h
  exact D.ofSl h1.sl (h2.imp fun _ _ h => h.wide fun b h _ => .inl h) (fun b hb => ⟨.inr hb, (h3 b hb).2⟩) hm
end
/-! ### Histories -/
structure Done where
  sess : Int
  kind : Int
  key : Int
  tag : Tag
def LDone : Lay Done := LMap (LPair LInt (LPair LInt (LPair LInt LTag))) fun d => (d.sess, d.kind, d.key, d.tag)
abbrev LDones (E : TypeId) : Lay (List Done) := LList E 3518437208883 LDone
abbrev doneC (d : Done) : List Value := [i64 d.sess, i64 d.kind, i64 d.key, i64 d.tag.t, i64 d.tag.p]
theorem LDone_n : LDone.n = 5 := rfl
section
variable {S : Nat → Prop} {w : World} {cs : List Value} {d : Done}
theorem D.done : D LDone S w cs d ↔ cs = doneC d := by
  unfold LDone
  rw [D.map]
  simp only [D.pair, D.int, D.tag]
  constructor
  · rintro ⟨c1, d1, rfl, rfl, c2, d2, rfl, rfl, c3, d3, rfl, rfl, rfl⟩
    rfl
  · rintro rfl
    exact ⟨[_], _, rfl, rfl, [_], _, rfl, rfl, [_], _, rfl, rfl, rfl⟩
theorem O.done : O LDone S w cs d ↔ cs = doneC d := by
  constructor
  · rintro ⟨bs, h, _⟩
    have : D LDone (fun _ => True) w cs d := by
      obtain ⟨bs', h', _⟩ := LDone.read h
      exact ⟨bs', h', fun _ _ => trivial⟩
    exact D.done.1 this
  · rintro rfl
    exact ⟨[], ⟨[_], _, [], [], rfl, ⟨rfl, rfl⟩, ⟨[_], _, [], [], rfl, ⟨rfl, rfl⟩, ⟨[_], _, [], [], rfl, ⟨rfl, rfl⟩, ⟨rfl, rfl⟩, rfl⟩, rfl⟩, rfl⟩, by simp, by simp⟩
end
/-- May it have been done? -/
def opOk (d : Done) : Bool := (decide (0 ≤ d.sess) && decide (d.sess ≤ 3)) && (decide (1 ≤ d.kind) && decide (d.kind ≤ 3)) && (decide (0 ≤ d.key) && decide (d.key ≤ 3)) && tagOk d.tag && ((d.kind == 2) || decide (0 < d.tag.t))
def formP (l : List Done) : Bool := l.all opOk && decide (l.length ≤ 80)
theorem opOk_iff {d : Done} : opOk d = true ↔ (0 ≤ d.sess ∧ d.sess ≤ 3) ∧ (1 ≤ d.kind ∧ d.kind ≤ 3) ∧ (0 ≤ d.key ∧ d.key ≤ 3) ∧ tagOk d.tag = true ∧ (d.kind = 2 ∨ 0 < d.tag.t) := by
  simp only [opOk, Bool.and_eq_true, Bool.or_eq_true, decide_eq_true_eq, beq_iff_eq]
  constructor
  · rintro ⟨⟨⟨⟨a, b⟩, c⟩, d⟩, e⟩
    exact ⟨a, b, c, d, e⟩
  · rintro ⟨a, b, c, d, e⟩
    exact ⟨⟨⟨⟨a, b⟩, c⟩, d⟩, e⟩
/-- What was written: its tag, by whom, of which key, and what was seen then. -/
abbrev Wr := List (Tag × Int × Int × List Tag)
def wfind (wr : Wr) (t : Tag) : Option (Int × Int × List Tag) := (wr.find? fun p => p.1 == t).map (·.2)
structure Book where
  vs : List (List Tag)
  wr : Wr
def book0 : Book := ⟨List.replicate 4 (List.replicate 4 ⟨0, 0⟩), []⟩
def view (b : Book) (d : Done) : List Tag := b.vs.getD d.sess.toNat []
def withT (p : List Tag) (k : Nat) (t : Tag) : List Tag := p.set k (tagMax (p.getD k ⟨0, 0⟩) t)
def hstep (b : Book) (d : Done) : Option Book :=
  if d.kind == 1 then (if (wfind b.wr d.tag).isSome || decide (d.tag.t ≤ latest 0 (view b d)) then none else some ⟨b.vs, b.wr ++ [(d.tag, d.sess, d.key, view b d)]⟩)
  else if tagLess d.tag ((view b d).getD d.key.toNat ⟨0, 0⟩) then none
  else if decide (0 < d.tag.t) then (match wfind b.wr d.tag with
    | none => none
    | some (s, k, past) => if k != d.key || ((d.kind == 3) && (s != d.sess)) then none else some ⟨b.vs.set d.sess.toNat (withT (joinT (view b d) past) d.key.toNat d.tag), b.wr⟩)
  else some b
def hgo : Book → List Done → Book × Nat
  | b, [] => (b, 0)
  | b, d :: l => match hstep b d with
    | none => (b, 0)
    | some b' => ((hgo b' l).1, (hgo b' l).2 + 1)
theorem hgo_none {b : Book} {d : Done} {l : List Done} (h : hstep b d = none) : hgo b (d :: l) = (b, 0) := by rw [hgo, h]
theorem hgo_some {b b' : Book} {d : Done} {l : List Done} (h : hstep b d = some b') : hgo b (d :: l) = ((hgo b' l).1, (hgo b' l).2 + 1) := by rw [hgo, h]
/-- A book whose views are of four tags each. -/
def Book.Ok (b : Book) : Prop := b.vs.length = 4 ∧ (∀ v ∈ b.vs, v.length = 4) ∧ ∀ p ∈ b.wr, p.2.2.2.length = 4
theorem joinT_len : ∀ xs ys : List Tag, xs.length = ys.length → (joinT xs ys).length = xs.length
  | [], [], _ => rfl
  | x :: xs, y :: ys, h => by
    simp only [List.length_cons, Nat.add_right_cancel_iff] at h
    rw [joinT, List.length_cons, List.length_cons, joinT_len xs ys h]
  | [], _ :: _, h => by simp at h
  | _ :: _, [], h => by simp at h
theorem withT_len (p : List Tag) (k : Nat) (t : Tag) : (withT p k t).length = p.length := by simp [withT]
theorem wfind_mem {wr : Wr} {t : Tag} {x : Int × Int × List Tag} (h : wfind wr t = some x) : (t, x) ∈ wr := by
  unfold wfind at h
  simp only [Option.map_eq_some_iff] at h
  obtain ⟨p, h1, rfl⟩ := h
  have h2 := List.find?_some h1
  simp only [beq_iff_eq] at h2
  subst h2
  exact List.mem_of_find?_eq_some h1
theorem view_len {b : Book} (h : b.Ok) {d : Done} (hd : opOk d = true) : (view b d).length = 4 := by
  have hs := (opOk_iff.1 hd).1
  obtain ⟨h1, h2, _⟩ := h
  have : d.sess.toNat < b.vs.length := by omega
  unfold view
  rw [List.getD_eq_getElem?_getD, List.getElem?_eq_getElem this, Option.getD_some]
  exact h2 _ (List.getElem_mem _)
theorem view_get {b : Book} (h : b.Ok) {d : Done} (hd : opOk d = true) : b.vs[d.sess.toNat]? = some (view b d) := by
  have hs := (opOk_iff.1 hd).1
  obtain ⟨h1, h2, _⟩ := h
  have : d.sess.toNat < b.vs.length := by omega
  unfold view
  rw [List.getD_eq_getElem?_getD, List.getElem?_eq_getElem this, Option.getD_some]
theorem hstep_ok {b b' : Book} (h : b.Ok) {d : Done} (hd : opOk d = true) (hs : hstep b d = some b') : b'.Ok := by
  have hv := view_len h hd
  obtain ⟨h1, h2, h3⟩ := h
  unfold hstep at hs
  split at hs
  · split at hs
    · cases hs
    · cases hs
      refine ⟨h1, h2, fun p hp => ?_⟩
      rcases List.mem_append.1 hp with hp | hp
      · exact h3 p hp
      · simp only [List.mem_singleton] at hp
        subst hp
        exact hv
  · split at hs
    · cases hs
    · split at hs
      · split at hs
        · cases hs
        · rename_i s k past hf
          split at hs
          · cases hs
          · cases hs
            refine ⟨by simp [h1], fun v hvm => ?_, h3⟩
            have hp : past.length = 4 := h3 _ (wfind_mem hf)
            rcases List.mem_or_eq_of_mem_set hvm with hvm | rfl
            · exact h2 v hvm
            · rw [withT_len, joinT_len _ _ (by omega), hv]
      · cases hs
        exact ⟨h1, h2, h3⟩
theorem wfind_cons (p : Tag × Int × Int × List Tag) (wr : Wr) (t : Tag) : wfind (p :: wr) t = if p.1 == t then some p.2 else wfind wr t := by
  unfold wfind
  rw [List.find?_cons]
  cases p.1 == t <;> rfl
/-- Views that stand in a block's first cells. -/
def Vw (L : Lay (List Tag)) (w : World) (S : Nat → Prop) (E : TypeId) (g : Nat) (cur : List Value) (vs : List (List Tag)) : Prop :=
  hp w g = some (.cells cur.toArray E (0, 0)) ∧ vs.length ≤ cur.length ∧ ∀ (i : Nat) v, vs[i]? = some v → ∃ a c, cur[i]? = some (.slice a v.length c) ∧ D L S w [.slice a v.length c] v
section
variable {L : Lay (List Tag)} {w w' : World} {S S' : Nat → Prop} {E : TypeId} {g : Nat} {cur : List Value} {vs : List (List Tag)}
theorem Vw.keep (h : Vw L w S E g cur vs) (hg : hp w' g = hp w g) (k : ∀ b, S b → b < w.heap.size → hp w' b = hp w b) (k' : ∀ b, S b → b < w'.heap.size → S' b) : Vw L w' S' E g cur vs := by
  obtain ⟨h1, h2, h3⟩ := h
  refine ⟨hg.trans h1, h2, fun i v hv => ?_⟩
  obtain ⟨a, c, h4, h5⟩ := h3 i v hv
  exact ⟨a, c, h4, (h5.keep k).wide k'⟩
theorem Vw.put (h : Vw L w S E g cur vs) (hS : ¬ S g) {i : Nat} (hi : i < vs.length) {a : Option Addr} {c : Nat} {x : List Tag} (hx : D L S w [.slice a x.length c] x) {cur' : List Value}
    (hc : cur' = splice cur i [.slice a x.length c]) : Vw L (w.setRow g cur'.toArray) S E g cur' (vs.set i x) := by
  obtain ⟨h1, h2, h3⟩ := h
  have hl : cur' = cur.set i (.slice a x.length c) := by
    rw [hc]
    unfold splice
    rw [List.set_eq_take_append_cons_drop, if_pos (by omega)]
    rfl
  have kk : ∀ b, S b → b < w.heap.size → hp (w.setRow g cur'.toArray) b = hp w b := fun b hb _ => hp_set_ne (fun e => hS (e ▸ hb))
  refine ⟨by rw [hp_set_eq, h1]; rfl, by rw [hl]; simpa using h2, fun j v hv => ?_⟩
  by_cases hj : j = i
  · subst hj
    rw [List.getElem?_set_self hi] at hv
    obtain rfl := Option.some.inj hv
    refine ⟨a, c, by rw [hl, List.getElem?_set_self (by omega)], hx.keep kk⟩
  · rw [List.getElem?_set_ne (Ne.symm hj)] at hv
    obtain ⟨a', c', h4, h5⟩ := h3 j v hv
    exact ⟨a', c', by rw [hl, List.getElem?_set_ne (Ne.symm hj)]; exact h4, h5.keep kk⟩
/-- The map of what was written. -/
def Mp (L : Lay (List Tag)) (w : World) (S : Nat → Prop) (m : Nat) (wr : Wr) : Prop :=
  ∃ l : List (Tag × Value), hp w m = some (mapO l) ∧ All2 (fun p q => p.1 = q.1 ∧ ∃ a c, p.2 = .agg #[i64 q.2.1, i64 q.2.2.1, .slice a q.2.2.2.length c] ∧ D L S w [.slice a q.2.2.2.length c] q.2.2.2) l wr
theorem Mp.keep {m : Nat} {wr : Wr} (h : Mp L w S m wr) (hg : hp w' m = hp w m) (k : ∀ b, S b → b < w.heap.size → hp w' b = hp w b) (k' : ∀ b, S b → b < w'.heap.size → S' b) : Mp L w' S' m wr := by
  obtain ⟨l, h1, h2⟩ := h
  refine ⟨l, hg.trans h1, h2.imp fun p q h => ?_⟩
  obtain ⟨h3, a, c, h4, h5⟩ := h
  exact ⟨h3, a, c, h4, (h5.keep k).wide k'⟩
theorem mfind_rel : ∀ {l : List (Tag × Value)} {wr : Wr}, All2 (fun p q => p.1 = q.1 ∧ ∃ a c, p.2 = .agg #[i64 q.2.1, i64 q.2.2.1, .slice a q.2.2.2.length c] ∧ D L S w [.slice a q.2.2.2.length c] q.2.2.2) l wr →
    ∀ t, (mfind l t = none ∧ wfind wr t = none) ∨ ∃ s k p a c, mfind l t = some (.agg #[i64 s, i64 k, .slice a p.length c]) ∧ wfind wr t = some (s, k, p) ∧ D L S w [.slice a p.length c] p
  | [], [], _, t => .inl ⟨rfl, rfl⟩
  | p :: l, q :: wr, h, t => by
    obtain ⟨⟨h1, a, c, h2, h3⟩, h4⟩ := h
    rw [mfind_cons, wfind_cons, h1]
    cases q.1 == t
    · simpa using mfind_rel h4 t
    · right
      exact ⟨q.2.1, q.2.2.1, q.2.2.2, a, c, by simp [h2], by simp, h3⟩
  | [], _ :: _, h, _ => h.elim
  | _ :: _, [], h, _ => h.elim
end
theorem book0_ok : book0.Ok := ⟨by simp [book0], by simp [book0], by simp [book0]⟩
/-! ### Worlds -/
structure SessD where
  place : Int
  past : List Tag
  wait : Tag
  key : Int
structure FrameD where
  src : Int
  dst : Int
  idx : Int
  ver : Ver
structure WorldD where
  places : List PlaceD
  sess : List SessD
  net : List FrameD
  hist : List Done
def LSess (E : TypeId) : Lay SessD := LMap (LPair LInt (LPair (LTags E) (LPair LTag LInt))) fun s => (s.place, s.past, s.wait, s.key)
def LFrame (E : TypeId) : Lay FrameD := LMap (LPair LInt (LPair LInt (LPair LInt (LVer E)))) fun f => (f.src, f.dst, f.idx, f.ver)
abbrev LPlaces (E F N G A : TypeId) : Lay (List PlaceD) := LList A 1466015503701 (LPlace E F N G)
abbrev LSesss (E B : TypeId) : Lay (List SessD) := LList B 2513169434916 (LSess E)
abbrev LFrames (E C : TypeId) : Lay (List FrameD) := LList C 1466015503701 (LFrame E)
def LWorld (E F N G A B C H : TypeId) : Lay WorldD := LMap (LPair (LPlaces E F N G A) (LPair (LSesss E B) (LPair (LFrames E C) (LDones H)))) fun w => (w.places, w.sess, w.net, w.hist)
section
variable {E F N G A B C H : TypeId} {S : Nat → Prop} {w : World} {cs : List Value}
theorem LSess_n : (LSess E).n = 5 := rfl
theorem D.sess {s : SessD} : D (LSess E) S w cs s ↔ ∃ a c, cs = [i64 s.place, .slice a s.past.length c, i64 s.wait.t, i64 s.wait.p, i64 s.key] ∧ D (LTags E) S w [.slice a s.past.length c] s.past := by
  unfold LSess
  rw [D.map]
  simp only [D.pair, D.int, D.tag]
  constructor
  · rintro ⟨c1, d1, rfl, rfl, c2, d2, rfl, h2, c3, d3, rfl, rfl, rfl⟩
    obtain ⟨a, c, rfl, h⟩ := h2.sl'
    exact ⟨a, c, rfl, h⟩
  · rintro ⟨a, c, rfl, h⟩
    exact ⟨[_], _, rfl, rfl, [_], _, rfl, h, [_, _], _, rfl, rfl, rfl⟩
theorem O.sess {s : SessD} : O (LSess E) S w cs s ↔ ∃ a c, cs = [i64 s.place, .slice a s.past.length c, i64 s.wait.t, i64 s.wait.p, i64 s.key] ∧ O (LTags E) S w [.slice a s.past.length c] s.past := by
  unfold LSess
  rw [O.map]
  constructor
  · intro h
    obtain ⟨e1, f1, A1, B1, rfl, h1, k1, x1, y1⟩ := h.unpair
    obtain ⟨e2, f2, A2, B2, rfl, h2, k2, x2, y2⟩ := k1.unpair
    obtain ⟨e3, f3, A3, B3, rfl, h3, k3, x3, y3⟩ := k2.unpair
    obtain rfl := O.int.1 h1
    obtain rfl := O.tag.1 h3
    obtain rfl := O.int.1 k3
    obtain ⟨a, c, rfl, h9⟩ := h2.sl'
    exact ⟨a, c, rfl, h9.wide fun b hb _ => (y1 b (x2 b hb).1).1⟩
  · rintro ⟨a, c, rfl, h⟩
    have k2 := O.pair (p := (s.wait, s.key)) (S1 := fun _ => False) (S2 := fun _ => False) (w := w) (O.tag.2 rfl) (O.int.2 rfl) (fun _ _ h => h.elim)
    have k1 := O.pair (p := (s.past, s.wait, s.key)) h k2 (fun _ _ _ h => h.elim id id)
    have k0 := O.pair (p := (s.place, s.past, s.wait, s.key)) (S1 := fun _ => False) (O.int.2 rfl) k1 (fun _ _ h => h.elim)
    exact k0.wide fun b h _ => by
      rcases h with h | h | h | h
      · exact h.elim
      · exact h
      · exact h.elim
      · exact h.elim
theorem D.frame {f : FrameD} : D (LFrame E) S w cs f ↔ ∃ ds, cs = i64 f.src :: i64 f.dst :: i64 f.idx :: ds ∧ D (LVer E) S w ds f.ver := by
  unfold LFrame
  rw [D.map]
  simp only [D.pair, D.int]
  constructor
  · rintro ⟨c1, d1, rfl, rfl, c2, d2, rfl, rfl, c3, d3, rfl, rfl, h⟩
    exact ⟨d3, rfl, h⟩
  · rintro ⟨ds, rfl, h⟩
    exact ⟨[_], _, rfl, rfl, [_], _, rfl, rfl, [_], _, rfl, rfl, h⟩
theorem O.frame {f : FrameD} : O (LFrame E) S w cs f ↔ ∃ ds, cs = i64 f.src :: i64 f.dst :: i64 f.idx :: ds ∧ O (LVer E) S w ds f.ver := by
  unfold LFrame
  rw [O.map]
  constructor
  · intro h
    obtain ⟨e1, f1, A1, B1, rfl, h1, k1, x1, y1⟩ := h.unpair
    obtain ⟨e2, f2, A2, B2, rfl, h2, k2, x2, y2⟩ := k1.unpair
    obtain ⟨e3, f3, A3, B3, rfl, h3, k3, x3, y3⟩ := k2.unpair
    obtain rfl := O.int.1 h1
    obtain rfl := O.int.1 h2
    obtain rfl := O.int.1 h3
    exact ⟨f3, rfl, k3.wide fun b hb _ => (y1 b (y2 b (y3 b hb).1).1).1⟩
  · rintro ⟨ds, rfl, h⟩
    have k2 := O.pair (p := (f.idx, f.ver)) (S1 := fun _ => False) (O.int.2 rfl) h (fun _ _ h => h.elim)
    have k1 := O.pair (p := (f.dst, f.idx, f.ver)) (S1 := fun _ => False) (O.int.2 rfl) k2 (fun _ _ h => h.elim)
    have k0 := O.pair (p := (f.src, f.dst, f.idx, f.ver)) (S1 := fun _ => False) (O.int.2 rfl) k1 (fun _ _ h => h.elim)
    exact k0.wide fun b h _ => by
      rcases h with h | h | h | h
      · exact h.elim
      · exact h.elim
      · exact h.elim
      · exact h
theorem D.world {x : WorldD} : D (LWorld E F N G A B C H) S w cs x ↔ ∃ a c a1 c1 a2 c2 a3 c3, cs = [.slice a x.places.length c, .slice a1 x.sess.length c1, .slice a2 x.net.length c2, .slice a3 x.hist.length c3] ∧
    D (LPlaces E F N G A) S w [.slice a x.places.length c] x.places ∧ D (LSesss E B) S w [.slice a1 x.sess.length c1] x.sess ∧ D (LFrames E C) S w [.slice a2 x.net.length c2] x.net ∧ D (LDones H) S w [.slice a3 x.hist.length c3] x.hist := by
  unfold LWorld
  rw [D.map]
  simp only [D.pair]
  constructor
  · rintro ⟨c1, d1, rfl, h1, c2, d2, rfl, h2, c3, d3, rfl, h3, h4⟩
    obtain ⟨a, c, rfl, h1⟩ := h1.sl'
    obtain ⟨a1, c1, rfl, h2⟩ := h2.sl'
    obtain ⟨a2, c2, rfl, h3⟩ := h3.sl'
    obtain ⟨a3, c3, rfl, h4⟩ := h4.sl'
    exact ⟨a, c, a1, c1, a2, c2, a3, c3, rfl, h1, h2, h3, h4⟩
  · rintro ⟨a, c, a1, c1, a2, c2, a3, c3, rfl, h1, h2, h3, h4⟩
    exact ⟨[_], _, rfl, h1, [_], _, rfl, h2, [_], _, rfl, h3, h4⟩
/-- A world of one's own, in parts. -/
structure Parts (E F N G A B C H : TypeId) (w : World) (x : WorldD) (s t u v : Value) (S1 S2 S3 S4 : Nat → Prop) : Prop where
  o1 : O (LPlaces E F N G A) S1 w [s] x.places
  o2 : O (LSesss E B) S2 w [t] x.sess
  o3 : O (LFrames E C) S3 w [u] x.net
  o4 : O (LDones H) S4 w [v] x.hist
  d12 : ∀ b, b < w.heap.size → S1 b → ¬ S2 b
  d13 : ∀ b, b < w.heap.size → S1 b → ¬ S3 b
  d14 : ∀ b, b < w.heap.size → S1 b → ¬ S4 b
  d23 : ∀ b, b < w.heap.size → S2 b → ¬ S3 b
  d24 : ∀ b, b < w.heap.size → S2 b → ¬ S4 b
  d34 : ∀ b, b < w.heap.size → S3 b → ¬ S4 b
theorem Parts.mk' {x : WorldD} {s t u v : Value} {S1 S2 S3 S4 : Nat → Prop} (p : Parts E F N G A B C H w x s t u v S1 S2 S3 S4) :
    O (LWorld E F N G A B C H) (fun b => S1 b ∨ S2 b ∨ S3 b ∨ S4 b) w [s, t, u, v] x := by
  unfold LWorld
  rw [O.map]
  have k3 := O.pair (p := (x.net, x.hist)) p.o3 p.o4 p.d34
  have k2 := O.pair (p := (x.sess, x.net, x.hist)) p.o2 k3 (fun b hb h h' => h'.elim (p.d23 b hb h) (p.d24 b hb h))
  have k1 := O.pair (p := (x.places, x.sess, x.net, x.hist)) p.o1 k2 (fun b hb h h' => h'.elim (p.d12 b hb h) fun h' => h'.elim (p.d13 b hb h) (p.d14 b hb h))
  exact k1
theorem O.world_un {x : WorldD} (h : O (LWorld E F N G A B C H) S w cs x) : ∃ a c a1 c1 a2 c2 a3 c3 S1 S2 S3 S4, cs = [.slice a x.places.length c, .slice a1 x.sess.length c1, .slice a2 x.net.length c2, .slice a3 x.hist.length c3] ∧
    Parts E F N G A B C H w x (.slice a x.places.length c) (.slice a1 x.sess.length c1) (.slice a2 x.net.length c2) (.slice a3 x.hist.length c3) S1 S2 S3 S4 ∧ (∀ b, S1 b ∨ S2 b ∨ S3 b ∨ S4 b → S b ∧ b < w.heap.size) := by
  unfold LWorld at h
  rw [O.map] at h
  obtain ⟨e1, f1, A1, B1, rfl, h1, k1, x1, y1⟩ := h.unpair
  obtain ⟨e2, f2, A2, B2, rfl, h2, k2, x2, y2⟩ := k1.unpair
  obtain ⟨e3, f3, A3, B3, rfl, h3, k3, x3, y3⟩ := k2.unpair
  obtain ⟨a, c, rfl, h1⟩ := h1.sl'
  obtain ⟨a1, c1, rfl, h2⟩ := h2.sl'
  obtain ⟨a2, c2, rfl, h3⟩ := h3.sl'
  obtain ⟨a3, c3, rfl, k3⟩ := k3.sl'
  refine ⟨a, c, a1, c1, a2, c2, a3, c3, A1, A2, A3, B3, rfl, ⟨h1, h2, h3, k3, fun b _ q q' => (x1 b q).2.1 (x2 b q').1, fun b _ q q' => (x1 b q).2.1 (y2 b (x3 b q').1).1, fun b _ q q' => (x1 b q).2.1 (y2 b (y3 b q').1).1, fun b _ q q' => (x2 b q).2.1 (x3 b q').1, fun b _ q q' => (x2 b q).2.1 (y3 b q').1, fun b _ q q' => (x3 b q).2.1 q'⟩, fun b hb => ?_⟩
  rcases hb with h | h | h | h
  · exact ⟨(x1 b h).1, (x1 b h).2.2⟩
  · exact ⟨(y1 b (x2 b h).1).1, (x2 b h).2.2⟩
  · exact ⟨(y1 b (y2 b (x3 b h).1).1).1, (x3 b h).2.2⟩
  · exact ⟨(y1 b (y2 b (y3 b h).1).1).1, (y3 b h).2.2⟩
end
/-! ### What was seen behind each step -/
section
variable {P : Program} {α : Type} {L : Lay α} {S S1 S' : Nat → Prop} {w w' : World} {E mx B : Nat}
theorem OwnD.wide {s : Value} {xs : List α} (h : OwnD L E S B w s xs) (k : ∀ b, S b → S' b) (k' : ∀ b ∈ (blkOf s).toList, ¬ S' b) : OwnD L E S' B w s xs := by
  obtain ⟨css, h1, h2, h3⟩ := h
  exact ⟨css, h1, h2.imp fun _ _ h => h.wide fun b h _ => k b h, fun b hb => ⟨k' b hb, (h3 b hb).2⟩⟩
theorem OwnD.sl {s : Value} {xs : List α} (h : OwnD L E S B w s xs) : ∃ a c, s = .slice a xs.length c := by
  obtain ⟨css, h1, _⟩ := h
  obtain ⟨a, c, h, _⟩ := h1.at
  exact ⟨a, c, h⟩
/-- One more, that stands in a block. -/
theorem OwnD.app1 {t ty y : Nat} (hE : elB P t = some (E, L.n, y)) {z : List Value} (hz : zeroB P E = some z) (hzs : z.length = L.n) (h0 : 0 < L.n) {a0 : Option Addr} {n0 c0 g c E' : Nat} {xs : List α} {x : α} {cs : List Value}
    (ho : OwnD L E S B w (.slice a0 n0 c0) xs) (hx : D L S w cs x) (hg : hp w g = some (.cells cs.toArray E' (0, 0))) (hS : ∀ b, S b → b < w.heap.size) (hB : B ≤ w.heap.size) (hl : xs.length + 1 ≤ mx) (hy : mx * y ≤ 140737488355328) (hm2 : mx ≤ 140737488355328) :
    Ret (b_append P #[t, t] ty #[.slice a0 n0 c0, .slice (some ⟨g, 0, none⟩) 1 c] w) fun r => ∃ a' c', r.1 = .slice a' (xs.length + 1) c' ∧ OwnD L E S B r.2 (.slice a' (xs.length + 1) c') (xs ++ [x]) ∧ But w r.2 (blkOf (.slice a0 n0 c0)) ∧ (blkOf (.slice a' (xs.length + 1) c') = blkOf (.slice a0 n0 c0) ∨ ∃ g, blkOf (.slice a' (xs.length + 1) c') = some g ∧ w.heap.size ≤ g) := by
  obtain ⟨c1, h1, h2, h3⟩ := ho
  have hb1 : (xs.length + 1) * y ≤ mx * y := Nat.mul_le_mul_right _ hl
  have hn0 : n0 = xs.length := by
    obtain ⟨_, _, h⟩ := h1
    rcases h with ⟨h, hh⟩ | ⟨_, _, _, h, _⟩
    · simp only [Value.slice.injEq] at h; omega
    · simp only [Value.slice.injEq] at h; omega
  have hA : At w g 0 cs := fun j v hj => by rw [hg]; simpa [cellO] using hj
  subst hn0
  refine Ret.mono (app_own hE hz hzs h0 h1 hB hA (m := 1) (by rw [hx.len, Nat.one_mul]) hx.one (by omega) (by omega) (by omega)) ?_
  rintro ⟨s1, w1⟩ ⟨h4, h5, h6⟩
  dsimp only at *
  obtain ⟨a', c', e1, _⟩ := h4.at
  have hg : ∀ b, S b → b < w.heap.size → hp w1 b = hp w b := fun b hb hs => h5.blk b hs fun e => (h3 b (by simp [e])).1 hb
  subst e1
  refine ⟨a', c', rfl, ⟨c1 ++ [cs], ?_, All2.app2 (h2.imp fun _ _ h => h.keep hg) ⟨hx.keep hg, trivial⟩, fun b hb => ?_⟩, h5, ?_⟩
  · rw [List.length_append, List.flatten_append]
    simpa using h4
  · rcases h6 with h6 | ⟨g, h6, h7, h8⟩
    · rw [h6] at hb
      exact ⟨(h3 b hb).1, Nat.lt_of_lt_of_le (h3 b hb).2 h5.size⟩
    · rw [h6] at hb
      simp only [Option.toList_some, List.mem_singleton] at hb
      subst hb
      exact ⟨fun h => absurd (hS b h) (by omega), h8⟩
  · rcases h6 with h6 | ⟨g, h6, h7, h8⟩
    · exact .inl h6
    · exact .inr ⟨g, h6, h7⟩
end
section
variable {L : Lay (List Tag)} {S S' : Nat → Prop} {w0 w w' : World} {E B : Nat}
/-- The walk's heap: the views' block, the row of what was seen. -/
def Wk (L : Lay (List Tag)) (E : TypeId) (w0 w : World) (S : Nat → Prop) (g : Nat) (cur : List Value) (b : Book) (s : Value) (sn : List (List Tag)) : Prop :=
  Vw L w S E g cur b.vs ∧ OwnD L E S w0.heap.size w s sn ∧ ¬ S g ∧ (∀ x ∈ (blkOf s).toList, x ≠ g) ∧ w0.heap.size ≤ g ∧ g < w.heap.size ∧ (∀ x, S x → w0.heap.size ≤ x ∧ x < w.heap.size) ∧ Ext w0 w
theorem Wk.ext {g : Nat} {cur : List Value} {b : Book} {s : Value} {sn : List (List Tag)} (h : Wk L E w0 w S g cur b s sn) (k : Ext w w') : Wk L E w0 w' S g cur b s sn := by
  obtain ⟨h1, h2, h3, h4, h5, h6, h7, h8⟩ := h
  have hs := k.size
  exact ⟨h1.keep (k.blk h6) (fun b _ hb => k.blk hb) (fun b hb _ => hb), h2.keep (fun b _ hb => k.blk hb) hs, h3, h4, h5, by omega, fun x hx => by have := h7 x hx; omega, h8.tr k⟩
theorem Wk.wide {g : Nat} {cur : List Value} {b : Book} {s : Value} {sn : List (List Tag)} (h : Wk L E w0 w S g cur b s sn) (k : ∀ x, S x → S' x) (k' : ∀ x, S' x → w0.heap.size ≤ x ∧ x < w.heap.size) (kg : ¬ S' g) (ks : ∀ x ∈ (blkOf s).toList, ¬ S' x) : Wk L E w0 w S' g cur b s sn := by
  obtain ⟨h1, h2, h3, h4, h5, h6, h7, h8⟩ := h
  exact ⟨h1.keep rfl (fun b _ hb => rfl) (fun b hb _ => k b hb), h2.wide k ks, kg, h4, h5, h6, k', h8⟩
/-- A view changes. -/
theorem Wk.set {g : Nat} {cur : List Value} {b : Book} {s : Value} {sn : List (List Tag)} (h : Wk L E w0 w S g cur b s sn) {i : Nat} (hi : i < b.vs.length) {a : Option Addr} {c : Nat} {x : List Tag} (hx : D L S w [.slice a x.length c] x) :
    Wk L E w0 (w.setRow g (splice cur i [.slice a x.length c]).toArray) S g (splice cur i [.slice a x.length c]) ⟨b.vs.set i x, b.wr⟩ s sn := by
  obtain ⟨h1, h2, h3, h4, h5, h6, h7, h8⟩ := h
  refine ⟨h1.put h3 hi hx rfl, h2.keep (fun b hb hl => hp_set_ne fun e => ?_) (by simp), h3, h4, h5, by simpa using h6, fun x hx => by simpa using h7 x hx, h8.set h5 _⟩
  subst e
  rcases hb with hb | hb
  · exact h3 hb
  · exact h4 _ hb rfl
/-- One more seen. -/
theorem Wk.push {P : Program} {t ty y : Nat} (hL : L.n = 1) (hE : elB P t = some (E, L.n, y)) {z : List Value} (hz : zeroB P E = some z) (hzs : z.length = L.n) {g g1 c E' n : Nat} {cur : List Value} {b : Book} {a0 : Option Addr} {c0 mx : Nat} {sn : List (List Tag)}
    (h : Wk L E w0 w S g cur b (.slice a0 n c0) sn) {x : List Tag} {v : Value} (hx : D L S w [v] x) (hg : hp w g1 = some (.cells #[v] E' (0, 0))) (hl : sn.length + 1 ≤ mx) (hy : mx * y ≤ 140737488355328) (hm2 : mx ≤ 140737488355328) :
    Ret (b_append P #[t, t] ty #[.slice a0 n c0, .slice (some ⟨g1, 0, none⟩) 1 c] w) fun r => ∃ a' c', r.1 = .slice a' (sn ++ [x]).length c' ∧ Wk L E w0 r.2 S g cur b (.slice a' (sn ++ [x]).length c') (sn ++ [x]) := by
  obtain ⟨h1, h2, h3, h4, h5, h6, h7, h8⟩ := h
  refine Ret.mono (OwnD.app1 (mx := mx) hE hz hzs (by omega) h2 hx (by simpa using hg) (fun b hb => (h7 b hb).2) h8.size hl hy hm2) ?_
  rintro r ⟨a', c', e, h9, h10, h11⟩
  rw [List.length_append, List.length_singleton]
  have hs := h10.size
  have kk : ∀ b, S b → b < w.heap.size → hp r.2 b = hp w b := fun b hb hl => h10.blk b hl fun e => by
    obtain ⟨css, _, _, hh⟩ := h2
    exact (hh b (by simp [e])).1 hb
  refine ⟨a', c', e, h1.keep (h10.blk g h6 fun e => h4 g (by simp [e]) rfl) kk (fun b hb _ => hb), h9, h3, fun y hy => ?_, h5, by omega, fun y hy => by have := h7 y hy; omega, ?_⟩
  · rcases h11 with e | ⟨g2, e, hg2⟩
    · rw [e] at hy
      exact h4 y hy
    · rw [e] at hy
      simp only [Option.toList_some, List.mem_singleton] at hy
      omega
  · exact ⟨h10.os.trans h8.os, h10.tape.trans h8.tape, h10.output.trans h8.output, Nat.le_trans h8.size hs, fun b hb => (h10.blk b (Nat.lt_of_lt_of_le hb h8.size) fun e => by
      have := h2.blk b (by simp [e])
      omega).trans (h8.blk hb)⟩
end
end Go.Ev
namespace Go.Ev
open Go Go.RowKit
end Go.Ev
