/- A part of the proof, without conditions. -/
import Derived.Lib.Builder
import Derived.Lib.AppendStr
import Derived.Lib.MakeNoZero
import Derived.Test.YtkhbpmhagpljiaaGreatDoorEvLv
import Derived.Test.YtkhbpmhagpljiaaGreatDoorEvHj
set_option linter.unusedVariables false
set_option linter.unusedSimpArgs false
set_option linter.deprecated false
namespace Go.Ev
open Go Go.RowKit
section
variable {P : Program}
theorem VK {src dst t e : TypeId} {n : Nat} (hs : P.underlying src = some (.pointer t)) (hd : P.underlying dst = some .unsafePointer) (ht : (P.info? t).map (·.size) = some n) (hn : n ≠ 0) {w : World} {b o : Nat} {cs : Array Value} (hg : hp w b = some (.cells cs e (0, 0))) (ho : o < cs.size) :
  cv P src dst (pt b o) w = some (pt b o, w) := by
 obtain ⟨j, hj, hj2⟩ := Option.map_eq_some_iff.1 ht
 have hg' : w.heap[b]? = some (.cells cs e (0, 0)) := hg
 rw [cv, Lib.run_to_unsafe (P := P) w ⟨b, o, none⟩ hs hd hj (by omega) (by unfold World.shape?; rw [hg']) ho]
 rfl
theorem Tk {src dst u e : TypeId} {n m : Nat} (hs : P.underlying src = some .unsafePointer) (hd : P.underlying dst = some (.pointer u)) (hu : (P.info? u).map (·.size) = some n) {w : World} {b o : Nat} {cs : Array Value} (hg : hp w b = some (.cells cs e (0, 0))) (hm : cs.size = m) (hlies : liesAt P P.depth e (m / P.cellsOf e) o u 1 = true) :
  cv P src dst (pt b o) w = some (pt b o, w) := by
 obtain ⟨j, hj, hj2⟩ := Option.map_eq_some_iff.1 hu
 have hg' : w.heap[b]? = some (.cells cs e (0, 0)) := hg
 rw [cv, Lib.run_from_unsafe (P := P) w ⟨b, o, none⟩ hs hd hj (by unfold World.shape?; rw [hg']) (by rw [hm]; exact hlies)]
 rfl
theorem Ql {t te : TypeId} {n : Nat} (h : P.underlying t = some (.pointer te)) (ht : (P.info? te).map (·.size) = some n) (x y : Operand) (b o : Nat) (w : World) : bo P .neq t x y (pt b o) (pt b o) w = some (.bool false, w) := by
 obtain ⟨j, hj, hj2⟩ := Option.map_eq_some_iff.1 ht
 have := Lib.run_neq_ptr_same (P := P) w ⟨b, o, none⟩ h hj
 simp [bo, eqGuard, this, ro]
theorem Qm {t te : TypeId} (h : P.underlying t = some (.pointer te)) (x y : Operand) (a : Option Addr) (w : World) : bo P .eql t x y (.pointer a) (.pointer none) w = some (.bool a.isNone, w) := by
 have : (Op.equal t (.pointer a) (.pointer none)).run P w = .ok a.isNone w := by
  unfold Op.equal
  rw [show Op.maxDepth = 9999 + 1 from rfl, Op.equalIn]
  cases a <;> simp [run_underlying h]
 simp [bo, eqGuard, binOp, this, ro]
theorem Tl (dst : Option Tmp) (a : Nat) (ats : Array TypeId) (ty : TypeId) (pos : String) (after : Array Edge) (e : Env) (w : World) :
  gn P { dst := dst, op := .call { callee := .builtin .unsafeSliceData, args := #[.tmp a], argTypes := ats }, type := ty, pos := pos, after := after, guard := none } e w = ro ((Builtin.unsafeSliceData_ ats ty #[e a]).run P w) := by
 unfold gn
 rw [BigFrame.execOp_builtin, BigFrame.builtin_unsafeSliceData]
 have h : (#[Operand.tmp a].map (val e)) = #[e a] := by simp [val]
 rw [h, Sem.run_bind]
 cases (Builtin.unsafeSliceData_ ats ty #[e a]).run P w <;> rfl
theorem Um (ts : Array TypeId) (ty : TypeId) (g n : Nat) {c : Nat} (hc : 0 < c) (w : World) : ro ((Builtin.unsafeSliceData_ ts ty #[.slice (some ⟨g, 0, none⟩) n c]).run P w) = some (pt g 0, w) := by
 rw [Lib.run_unsafeSliceData_row (P := P) w ts ty ⟨g, 0, none⟩ n c (by omega)]
 rfl
theorem Un {pt' it ty e : TypeId} (hp' : P.underlying pt' = some (.pointer e)) (hc : P.cellsOf e = 1) {w : World} {g : Nat} {l : List UInt8} {cur : List Value} (h0 : 0 < l.length) (h1 : l.length ≤ 9223372036854775807) (hg : hp w g = some (.cells cur.toArray e (0, 0))) (ht : cur.take l.length = Lib.byteCells l) :
  ro ((Builtin.unsafeString_ #[pt', it] ty #[pt g 0, i64 l.length]).run P w) = some (.string (A8 l), w.freeze ⟨g, 0, none⟩ l.length) := by
 have hg' : w.heap[g]? = some (.cells cur.toArray e (0, 0)) := hg
 have hbl : (Lib.byteCells l).length = l.length := Lib.byteCells_length l
 have hcl : l.length ≤ cur.length := by rw [← ht, List.length_take] at hbl; omega
 have := Lib.run_unsafeString_row (P := P) (w := w) pt' it ty e hp' hc g cur.length (by unfold World.shape?; rw [hg']; simp) l (by intro h; rw [h] at h0; simp at h0) hcl h1
  (fun j x hx => Lib.cells_of_row hg' l.length j _ (by rw [List.toList_toArray, ht]; simp [Lib.byteCells, hx]))
 rw [this]
 rfl
end
theorem Kd {c : UInt8} {l : List UInt8} {p} (h : Dw c l = some p) : l.count c = p.2.count c + 1 := by
 obtain ⟨h1, h2⟩ := Ha h
 conv => lhs; rw [h1]
 rw [List.count_append, List.count_eq_zero_of_not_mem h2, List.count_cons_self]
 omega
theorem HO (c : UInt8) : ∀ (n : Nat) (l : List UInt8), (Gs c n l).length = min n (l.count c) + 1
 | 0, l => by simp [Gs]
 | n + 1, l => by
  unfold Gs
  cases h : Dw c l with
  | none => rw [List.count_eq_zero_of_not_mem (Ki h)]; simp
  | some p =>
   have := HO c n p.2
   have := Kd h
   simp only [List.length_cons]
   omega
theorem Px (c : UInt8) : ∀ (n m : Nat) (l : List UInt8), l.count c ≤ n → l.count c ≤ m → Gs c n l = Gs c m l
 | 0, 0, l, _, _ => rfl
 | 0, m + 1, l, h, _ => by rw [Gt (List.count_eq_zero.1 (by omega)), Gt (List.count_eq_zero.1 (by omega))]
 | n + 1, 0, l, _, h => by rw [Gt (List.count_eq_zero.1 (by omega)), Gt (List.count_eq_zero.1 (by omega))]
 | n + 1, m + 1, l, h, k => by
  cases hc : Dw c l with
  | none => simp only [Gs, hc]
  | some p =>
   have := Kd hc
   simp only [Gs, hc]
   rw [Px c n m p.2 (by omega) (by omega)]
def A0 (c : UInt8) (l : List UInt8) : List (List UInt8) := Gs c (l.count c) l
theorem Ey (c : UInt8) (l : List UInt8) : (A0 c l).length = l.count c + 1 := by rw [A0, HO]; omega
theorem Py {c : UInt8} {l : List UInt8} {p} (h : Dw c l = some p) : A0 c l = p.1 :: A0 c p.2 := by
 unfold A0
 rw [Kd h]
 show (match Dw c l with | none => _ | some p => _) = _
 rw [h]
theorem Qn {c : UInt8} {l : List UInt8} (h : c ∉ l) : A0 c l = [l] := Gt h _
theorem Qo (c : UInt8) {n : Nat} {l : List UInt8} (h : (Gs c n l).length ≤ n) : Gs c n l = A0 c l := by
 rw [HO] at h
 exact Px c _ _ _ (by omega) (Nat.le_refl _)
theorem RE (c : UInt8) (l : List UInt8) : ∀ x ∈ A0 c l, x.length ≤ l.length := Qt c _ l
section
variable {P : Program}
theorem VL (l : List UInt8) : Lib.strCells (A8 l) = Lib.byteCells l := by rw [Lib.strCells_eq]; rfl
def XM (T E B : Nat) (w : World) (b : Nat) (l : List UInt8) : Prop :=
 ∃ p s, hp w b = some (.cells #[p, s] T (0, 0)) ∧ (p = .pointer none ∨ p = pt b 0) ∧ w.ownsRow B E 1 s l.length (Lib.byteCells l) ∧ s.ownBlock ≠ some b
theorem Ke {w w' : World} {B e n size : Nat} {v : Value} {xs : List Value} (h : w.ownsRow B e size v n xs) (k : ∀ g, v.ownBlock = some g → hp w' g = hp w g) : w'.ownsRow B e size v n xs := by
 obtain ⟨h1, h⟩ := h
 refine ⟨h1, h.imp id ?_⟩
 rintro ⟨g, cap, cur, rfl, h2, h3, rest⟩
 exact ⟨g, cap, cur, rfl, h2, (k g rfl).trans h3, rest⟩
theorem XM.nil {T E B b : Nat} {w : World} (h : hp w b = some (.cells #[.pointer none, .slice none 0 0] T (0, 0))) : XM T E B w b [] :=
 ⟨_, _, h, .inl rfl, ⟨rfl, .inl ⟨rfl, rfl⟩⟩, by simp [Value.ownBlock]⟩
theorem Uo {t u ty e : TypeId} (ht : P.underlying t = some (.slice e)) (hu : P.underlying u = some .string) (hj : (P.info? e).map (fun j => (j.zero, j.size, j.bytes)) = some (some (.int .u8 0), 1, 1))
  {w : World} {B : Nat} {v : Value} {l m : List UInt8} (ho : w.ownsRow B e 1 v l.length (Lib.byteCells l)) (hl : l.length + m.length ≤ 140737488355328) (hB : B ≤ w.heap.size) :
  ∃ v' w', Aq P #[t, u] ty #[v, .string (A8 m)] w = some (v', w') ∧ w'.ownsRow B e 1 v' (l ++ m).length (Lib.byteCells (l ++ m)) ∧ Mod (fun x => v.ownBlock = some x) w w' ∧ ∃ a n c, v' = .slice a n c := by
 obtain ⟨j, hi, hj⟩ := Option.map_eq_some_iff.1 hj
 simp only [Prod.mk.injEq] at hj
 obtain ⟨hz, hs, hby⟩ := hj
 obtain ⟨v', w', h1, h2, h3, _⟩ := Lib.run_append_own_string (P := P) w B t u ty e j ht hu hi hz hs hby v l.length (Lib.byteCells l) ho (A8 m) (by rw [AJ]; simp only [maxLen]; omega) (by rw [AJ]; omega) hB
 rw [AJ, VL, ← Lib.byteCells_append] at h2
 refine ⟨v', w', by simp only [Aq, h1, ro], by rw [List.length_append]; exact h2, ⟨h3.os, h3.tape, h3.output, h3.size, fun b hb hn => h3.block b hb fun h => hn h.symm⟩, ?_⟩
 obtain ⟨_, h2⟩ := h2
 rcases h2 with ⟨rfl, _⟩ | ⟨g', cap, cur, rfl, _⟩
 ·exact ⟨_, _, _, rfl⟩
 ·exact ⟨_, _, _, rfl⟩
theorem Up (p it ty : TypeId) (a : Option Addr) (w : World) : ro ((Builtin.unsafeString_ #[p, it] ty #[.pointer a, i64 0]).run P w) = some (.string (A8 []), w) := by
 rw [Lib.run_unsafeString_none (P := P) w p it ty a]
 rfl
theorem Uq (ts : Array TypeId) (ty : TypeId) (n c : Nat) (w : World) : ro ((Builtin.unsafeSliceData_ ts ty #[.slice none n c]).run P w) = some (.pointer none, w) := by
 rw [Lib.run_unsafeSliceData_nil (P := P) w ts ty n c]
 rfl
end
theorem Tm {w : World} {b i : Nat} {v : Value} (h : AP (hp w b) i = some v) : b < w.heap.size := by
 cases hh : hp w b with
 | none => rw [hh] at h; cases h
 | some o => exact Ao hh
def Ju (w : World) (g o : Nat) (xs : List (List UInt8)) : Prop := ∀ (i : Nat) x, xs[i]? = some x → AP (hp w g) (o + i) = some (.string (A8 x))
def Tn : List UInt8 := [119, 114, 105, 116, 101]
def UO : List UInt8 := [114, 101, 97, 100]
def UP : List UInt8 := [115, 117, 114, 101]
def IM : List (List UInt8) := [[], Tn, UO, UP]
def C7 (k : Int) : List UInt8 := if k = 1 then Tn else if k = 2 then UO else UP
def Da (d : Done) : List UInt8 := Bx d.Av.toNat ++ 32 :: (C7 d.kind ++ 32 :: (Bx d.key.toNat ++ 32 :: Eo d.tag))
def AV : List Done → List UInt8
 | [] => []
 | d :: l => Da d ++ 10 :: AV l
theorem Kf : ∀ (a b : List Done), AV (a ++ b) = AV a ++ AV b
 | [], b => rfl
 | d :: a, b => by simp only [List.cons_append, AV, Kf a b, List.append_assoc]
theorem Mp {k : Int} (h1 : 1 ≤ k) (h2 : k ≤ 3) : IM[k.toNat]? = some (C7 k) := by
 have : k = 1 ∨ k = 2 ∨ k = 3 := by omega
 rcases this with rfl | rfl | rfl <;> rfl
theorem RF (k : Int) : ∀ c ∈ C7 k, 97 ≤ c.toNat ∧ c.toNat ≤ 122 := by
 unfold C7
 split
 ·decide
 ·split <;> decide
theorem Pz {k : Int} {c : UInt8} (h : c.toNat < 97) : c ∉ C7 k := fun hm => by have := RF k c hm; omega
theorem RG {a b : Int} (ha1 : 1 ≤ a) (ha2 : a ≤ 3) (hb1 : 1 ≤ b) (hb2 : b ≤ 3) (h : C7 a = C7 b) : a = b := by
 have h1 : a = 1 ∨ a = 2 ∨ a = 3 := by omega
 have h2 : b = 1 ∨ b = 2 ∨ b = 3 := by omega
 rcases h1 with rfl | rfl | rfl <;> rcases h2 with rfl | rfl | rfl <;> first | rfl | (exact absurd h (by decide))
theorem To {t : Tag} : (10 : UInt8) ∉ Eo t := by
 intro h
 rcases List.mem_append.1 h with h | h
 ·exact Gq (by decide) h
 ·rcases List.mem_cons.1 h with h | h
  ·exact absurd h (by decide)
  ·exact Gq (by decide) h
theorem Ur {d : Done} : (10 : UInt8) ∉ Da d := by
 intro h
 rcases List.mem_append.1 h with h | h
 ·exact Gq (by decide) h
 ·rcases List.mem_cons.1 h with h | h
  ·exact absurd h (by decide)
  ·rcases List.mem_append.1 h with h | h
   ·exact Pz (by decide) h
   ·rcases List.mem_cons.1 h with h | h
    ·exact absurd h (by decide)
    ·rcases List.mem_append.1 h with h | h
     ·exact Gq (by decide) h
     ·rcases List.mem_cons.1 h with h | h
      ·exact absurd h (by decide)
      ·exact To h
def Mq (d : Done) : List (List UInt8) := [Bx d.Av.toNat, C7 d.kind, Bx d.key.toNat, Eo d.tag]
theorem RH (d : Done) (n : Nat) : Gs 32 (n + 3) (Da d) = Mq d := by
 unfold Da
 rw [KU (Gq (by decide)), KU (Pz (by decide)), KU (Gq (by decide)), Gt VN]
 rfl
theorem G9 (d : Done) : A0 32 (Da d) = Mq d := by
 have h1 := RH d 1
 rw [← Qo 32 (n := 4), h1]
 show (Gs 32 (1 + 3) (Da d)).length ≤ 4
 rw [h1]
 simp [Mq]
theorem PA {a b : Done} (h1 : a.Av = b.Av) (h2 : a.kind = b.kind) (h3 : a.key = b.key) (h4 : a.tag = b.tag) : a = b := by cases a; cases b; simp_all
theorem Tp {a b : Done} (ha : FA a = true) (hb : FA b = true) (h : Da a = Da b) : a = b := by
 obtain ⟨a1, a2, a3, a4, _⟩ := GO.1 ha
 obtain ⟨b1, b2, b3, b4, _⟩ := GO.1 hb
 have h1 := G9 a
 rw [h, G9 b] at h1
 simp only [Mq, List.cons.injEq, and_true] at h1
 obtain ⟨e1, e2, e3, e4⟩ := h1
 have e1 := Jw e1
 have e3 := Jw e3
 exact PA (by omega) (RG a2.1 a2.2 b2.1 b2.2 e2.symm) (by omega) (PE a4 b4 e4.symm)
theorem Jv (d : Done) (l : List Done) : Dw 10 (AV (d :: l)) = some (Da d, AV l) := Jx Ur
theorem PB : ∀ {a b : List Done}, (∀ d ∈ a, FA d = true) → (∀ d ∈ b, FA d = true) → AV a = AV b → a = b
 | [], [], _, _, _ => rfl
 | [], d :: l, _, _, h => by have := congrArg List.length h; simp [AV] at this
 | d :: l, [], _, _, h => by have := congrArg List.length h; simp [AV] at this
 | d :: l, e :: m, ha, hb, h => by
  have h1 := Jv d l
  rw [h, Jv e m] at h1
  simp only [Option.some.injEq, Prod.mk.injEq] at h1
  rw [Tp (ha d List.mem_cons_self) (hb e List.mem_cons_self) h1.1.symm, PB (fun x hx => ha x (List.mem_cons_of_mem _ hx)) (fun x hx => hb x (List.mem_cons_of_mem _ hx)) h1.2.symm]
def OJ (l : List UInt8) (xs : List Done) (ok : Bool) : Prop := (ok = true → CC xs = true ∧ AV xs = l) ∧ (ok = false → xs = [] ∧ ∀ ys, CC ys = true → AV ys ≠ l)
theorem Ff {l : List Done} (h : CC l = true) : ∀ d ∈ l, FA d = true := by
 simp only [CC, Bool.and_eq_true, List.all_eq_true] at h
 exact h.1
theorem GL {l : List Done} (h : CC l = true) : l.length ≤ 80 := by
 simp only [CC, Bool.and_eq_true, decide_eq_true_eq] at h
 exact h.2
def Bw (l : List Done) : List UInt8 := if CC l then AV l else []
theorem RI : GN.Flat := Jr (BI Cg (BI Cg (BI Cg BV)))
def Kg : Value → Bool
 | .nilIface => true
 | _ => false
theorem PC {P : Program} (t : TypeId) (ms) (h : P.underlying t = some (.interface ms)) (n : Nat) (a : Value) (ha : a = .nilIface ∨ ∃ u v, a = .iface u v) (w : World) :
  bo P .eql t (.tmp n) (.const .nilIface) a .nilIface w = some (.bool (Kg a), w) := by
 rcases ha with rfl | ⟨u, v, rfl⟩
 ·have : (Op.equal t .nilIface .nilIface).run P w = .ok true w := by
   unfold Op.equal
   rw [show Op.maxDepth = 9999 + 1 from rfl, Op.equalIn]
   simp [run_underlying h]
  simp [bo, eqGuard, binOp, this, ro, Kg]
 ·have : (Op.equal t (.iface u v) .nilIface).run P w = .ok false w := by
   unfold Op.equal
   rw [show Op.maxDepth = 9999 + 1 from rfl, Op.equalIn]
   simp [run_underlying h]
  simp [bo, eqGuard, binOp, this, ro, Kg]
theorem Tq {E : TypeId} {d : Done} {g : Nat} {w : World} (h : hp w g = some (.cells #[i64 d.Av, i64 d.kind, i64 d.key, i64 d.tag.t, i64 d.tag.p] E (0, 0))) : D (Hb E) (fun b => b = g) w [.slice (some ⟨g, 0, none⟩) 1 1] [d] := by
 refine D.VQ (css := [B6 d]) ⟨_, _, rfl, by simp, .inr ⟨g, 0, rfl, fun j v hj => ?_⟩⟩ ⟨D.done.2 rfl, trivial⟩ (fun b hb => ?_) (by simp)
 ·rw [h]
  simpa [AP] using hj
 ·simp only [Az, Option.toList_some, List.mem_singleton] at hb
  subst hb
  exact ⟨rfl, Ao h⟩
end Go.Ev
