/- A part of the proof: an evaluator of the model, its laws, and contracts of functions; no condition. -/
import Derived.Test.YtkhbpmhagpljiaaDoorEvLz
import Derived.Test.YtkhbpmhagpljiaaDoorEvHi
set_option linter.unusedVariables false
set_option linter.unusedSimpArgs false
namespace Go.Ev
open Go Go.RowKit
/-! ### What was done, as text -/
def wWrite : List UInt8 := [119, 114, 105, 116, 101]
def wRead : List UInt8 := [114, 101, 97, 100]
def wSure : List UInt8 := [115, 117, 114, 101]
def kindWs : List (List UInt8) := [[], wWrite, wRead, wSure]
def kindL (k : Int) : List UInt8 := if k = 1 then wWrite else if k = 2 then wRead else wSure
def lineL (d : Done) : List UInt8 := decL d.sess.toNat ++ 32 :: (kindL d.kind ++ 32 :: (decL d.key.toNat ++ 32 :: tagL d.tag))
def histL : List Done → List UInt8
  | [] => []
  | d :: l => lineL d ++ 10 :: histL l
theorem histL_app : ∀ (a b : List Done), histL (a ++ b) = histL a ++ histL b
  | [], b => rfl
  | d :: a, b => by simp only [List.cons_append, histL, histL_app a b, List.append_assoc]
theorem kindL_at {k : Int} (h1 : 1 ≤ k) (h2 : k ≤ 3) : kindWs[k.toNat]? = some (kindL k) := by
  have : k = 1 ∨ k = 2 ∨ k = 3 := by omega
  rcases this with rfl | rfl | rfl <;> rfl
theorem kindL_mem (k : Int) : ∀ c ∈ kindL k, 97 ≤ c.toNat ∧ c.toNat ≤ 122 := by
  unfold kindL
  split
  · decide
  · split <;> decide
theorem kindL_no {k : Int} {c : UInt8} (h : c.toNat < 97) : c ∉ kindL k := fun hm => by have := kindL_mem k c hm; omega
theorem kindL_inj {a b : Int} (ha1 : 1 ≤ a) (ha2 : a ≤ 3) (hb1 : 1 ≤ b) (hb2 : b ≤ 3) (h : kindL a = kindL b) : a = b := by
  have h1 : a = 1 ∨ a = 2 ∨ a = 3 := by omega
  have h2 : b = 1 ∨ b = 2 ∨ b = 3 := by omega
  rcases h1 with rfl | rfl | rfl <;> rcases h2 with rfl | rfl | rfl <;> first | rfl | (exact absurd h (by decide))
theorem tag_no10 {t : Tag} : (10 : UInt8) ∉ tagL t := by
  intro h
  rcases List.mem_append.1 h with h | h
  · exact dec_no (by decide) h
  · rcases List.mem_cons.1 h with h | h
    · exact absurd h (by decide)
    · exact dec_no (by decide) h
theorem line_no {d : Done} : (10 : UInt8) ∉ lineL d := by
  intro h
  rcases List.mem_append.1 h with h | h
  · exact dec_no (by decide) h
  · rcases List.mem_cons.1 h with h | h
    · exact absurd h (by decide)
    · rcases List.mem_append.1 h with h | h
      · exact kindL_no (by decide) h
      · rcases List.mem_cons.1 h with h | h
        · exact absurd h (by decide)
        · rcases List.mem_append.1 h with h | h
          · exact dec_no (by decide) h
          · rcases List.mem_cons.1 h with h | h
            · exact absurd h (by decide)
            · exact tag_no10 h
def lineWs (d : Done) : List (List UInt8) := [decL d.sess.toNat, kindL d.kind, decL d.key.toNat, tagL d.tag]
theorem line_cutN (d : Done) (n : Nat) : cutN 32 (n + 3) (lineL d) = lineWs d := by
  unfold lineL
  rw [cutN_app (dec_no (by decide)), cutN_app (kindL_no (by decide)), cutN_app (dec_no (by decide)), cutN_not tag_no]
  rfl
theorem line_split (d : Done) : splitL 32 (lineL d) = lineWs d := by
  have h1 := line_cutN d 1
  rw [← splitL_cut 32 (n := 4), h1]
  show (cutN 32 (1 + 3) (lineL d)).length ≤ 4
  rw [h1]
  simp [lineWs]
theorem done_ext {a b : Done} (h1 : a.sess = b.sess) (h2 : a.kind = b.kind) (h3 : a.key = b.key) (h4 : a.tag = b.tag) : a = b := by cases a; cases b; simp_all
theorem line_inj {a b : Done} (ha : opOk a = true) (hb : opOk b = true) (h : lineL a = lineL b) : a = b := by
  obtain ⟨a1, a2, a3, a4, _⟩ := opOk_iff.1 ha
  obtain ⟨b1, b2, b3, b4, _⟩ := opOk_iff.1 hb
  have h1 := line_split a
  rw [h, line_split b] at h1
  simp only [lineWs, List.cons.injEq, and_true] at h1
  obtain ⟨e1, e2, e3, e4⟩ := h1
  have e1 := decL_inj e1
  have e3 := decL_inj e3
  exact done_ext (by omega) (kindL_inj a2.1 a2.2 b2.1 b2.2 e2.symm) (by omega) (tagL_inj a4 b4 e4.symm)
theorem hist_cut (d : Done) (l : List Done) : cutL 10 (histL (d :: l)) = some (lineL d, histL l) := cutL_app line_no
theorem hist_inj : ∀ {a b : List Done}, (∀ d ∈ a, opOk d = true) → (∀ d ∈ b, opOk d = true) → histL a = histL b → a = b
  | [], [], _, _, _ => rfl
  | [], d :: l, _, _, h => by have := congrArg List.length h; simp [histL] at this
  | d :: l, [], _, _, h => by have := congrArg List.length h; simp [histL] at this
  | d :: l, e :: m, ha, hb, h => by
    have h1 := hist_cut d l
    rw [h, hist_cut e m] at h1
    simp only [Option.some.injEq, Prod.mk.injEq] at h1
    rw [line_inj (ha d List.mem_cons_self) (hb e List.mem_cons_self) h1.1.symm, hist_inj (fun x hx => ha x (List.mem_cons_of_mem _ hx)) (fun x hx => hb x (List.mem_cons_of_mem _ hx)) h1.2.symm]
/-- What is read as a history. -/
def HistGot (l : List UInt8) (xs : List Done) (ok : Bool) : Prop := (ok = true → formP xs = true ∧ histL xs = l) ∧ (ok = false → xs = [] ∧ ∀ ys, formP ys = true → histL ys ≠ l)
theorem formP_ops {l : List Done} (h : formP l = true) : ∀ d ∈ l, opOk d = true := by
  simp only [formP, Bool.and_eq_true, List.all_eq_true] at h
  exact h.1
theorem formP_len {l : List Done} (h : formP l = true) : l.length ≤ 80 := by
  simp only [formP, Bool.and_eq_true, decide_eq_true_eq] at h
  exact h.2
theorem HistGot.eq {l : List UInt8} {t t' : List Done} {ok ok' : Bool} (h : HistGot l t ok) (h' : HistGot l t' ok') : t = t' ∧ ok = ok' := by
  cases ok <;> cases ok'
  · exact ⟨(h.2 rfl).1.trans (h'.2 rfl).1.symm, rfl⟩
  · exact absurd (h'.1 rfl).2 ((h.2 rfl).2 _ (h'.1 rfl).1)
  · exact absurd (h.1 rfl).2 ((h'.2 rfl).2 _ (h.1 rfl).1)
  · exact ⟨hist_inj (formP_ops (h.1 rfl).1) (formP_ops (h'.1 rfl).1) ((h.1 rfl).2.trans (h'.1 rfl).2.symm), rfl⟩
theorem HistGot.len {l : List UInt8} {t : List Done} {ok : Bool} (h : HistGot l t ok) : t.length ≤ 80 := by
  cases ok
  · rw [(h.2 rfl).1]; simp
  · exact formP_len (h.1 rfl).1
def histPutL (l : List Done) : List UInt8 := if formP l then histL l else []
/-- All lines of a history. -/
theorem hist_split : ∀ (l : List Done), l ≠ [] → ∃ s, histL l = s ++ [10] ∧ splitL 10 s = l.map lineL
  | [], h => absurd rfl h
  | [d], _ => ⟨lineL d, rfl, by rw [splitL_not line_no]; rfl⟩
  | d :: e :: l, _ => by
    obtain ⟨s, h1, h2⟩ := hist_split (e :: l) (by simp)
    refine ⟨lineL d ++ 10 :: s, by rw [histL, h1]; simp, ?_⟩
    rw [splitL_cons (cutL_app line_no), h2]
    rfl
theorem joinlines : ∀ (l : List UInt8) (n : Nat), l.length ≤ n → ((splitL 10 l).map fun x => x ++ [10]).flatten = l ++ [10] := by
  intro l n
  induction n generalizing l with
  | zero => intro h; have : l = [] := List.length_eq_zero_iff.1 (by omega); subst this; rfl
  | succ n ih =>
    intro h
    cases hc : cutL 10 l with
    | none => rw [splitL_not (cutL_none hc)]; simp
    | some p =>
      obtain ⟨h1, h2⟩ := cutL_eq hc
      have hl : l.length = p.1.length + (p.2.length + 1) := by conv => lhs; rw [h1]; simp
      rw [splitL_cons hc, List.map_cons, List.flatten_cons, ih p.2 (by omega)]
      conv => rhs; rw [h1]
      simp
theorem flat_done : LDone.Flat := flat_map (flat_pair flat_int (flat_pair flat_int (flat_pair flat_int flat_tag)))
def isNilV : Value → Bool
  | .nilIface => true
  | _ => false
theorem bo_eql_nili {P : Program} (t : TypeId) (ms) (h : P.underlying t = some (.interface ms)) (n : Nat) (a : Value) (ha : a = .nilIface ∨ ∃ u v, a = .iface u v) (w : World) :
    bo P .eql t (.tmp n) (.const .nilIface) a .nilIface w = some (.bool (isNilV a), w) := by
  rcases ha with rfl | ⟨u, v, rfl⟩
  · have : (Op.equal t .nilIface .nilIface).run P w = .ok true w := by
      unfold Op.equal
      rw [show Op.maxDepth = 9999 + 1 from rfl, Op.equalIn]
      simp [run_underlying h]
    simp [bo, eqGuard, binOp, this, ro, isNilV]
  · have : (Op.equal t (.iface u v) .nilIface).run P w = .ok false w := by
      unfold Op.equal
      rw [show Op.maxDepth = 9999 + 1 from rfl, Op.equalIn]
      simp [run_underlying h]
    simp [bo, eqGuard, binOp, this, ro, isNilV]
theorem lit_done {E : TypeId} {d : Done} {g : Nat} {w : World} (h : hp w g = some (.cells #[i64 d.sess, i64 d.kind, i64 d.key, i64 d.tag.t, i64 d.tag.p] E (0, 0))) : D (LDones E) (fun b => b = g) w [.slice (some ⟨g, 0, none⟩) 1 1] [d] := by
  refine D.ofSl (css := [doneC d]) ⟨_, _, rfl, by simp, .inr ⟨g, 0, rfl, fun j v hj => ?_⟩⟩ ⟨D.done.2 rfl, trivial⟩ (fun b hb => ?_) (by simp)
  · rw [h]
    simpa [cellO] using hj
  · simp only [blkOf, Option.toList_some, List.mem_singleton] at hb
    subst hb
    exact ⟨rfl, hp_lt h⟩
end Go.Ev
