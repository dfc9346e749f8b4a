/- A part of the proof, without conditions. -/
import Derived.Lib.Builder
import Derived.Lib.AppendStr
import Derived.Lib.MakeNoZero
import Derived.Test.YtkhbpmhagpljiaaGreatDoorEvLv
import Derived.Test.YtkhbpmhagpljiaaGreatDoorEvHj
set_option linter.unusedVariables false
set_option linter.unusedSimpArgs false
set_option linter.deprecated false
namespace Go.Ev
open Go Go.RowKit
section
variable {P : Program}
theorem WI {src dst t e : TypeId} {n : Nat} (hs : P.underlying src = some (.pointer t)) (hd : P.underlying dst = some .unsafePointer) (ht : (P.info? t).map (·.size) = some n) (hn : n ≠ 0) {w : World} {b o : Nat} {cs : Array Value} (hg : hp w b = some (.cells cs e (0, 0))) (ho : o < cs.size) :
  cv P src dst (pt b o) w = some (pt b o, w) := by
 obtain ⟨j, hj, hj2⟩ := Option.map_eq_some_iff.1 ht
 have hg' : w.heap[b]? = some (.cells cs e (0, 0)) := hg
 rw [cv, Lib.run_to_unsafe (P := P) w ⟨b, o, none⟩ hs hd hj Ad (by unfold World.shape?; rw [hg']) ho]
 rfl
theorem Uj {src dst u e : TypeId} {n m : Nat} (hs : P.underlying src = some .unsafePointer) (hd : P.underlying dst = some (.pointer u)) (hu : (P.info? u).map (·.size) = some n) {w : World} {b o : Nat} {cs : Array Value} (hg : hp w b = some (.cells cs e (0, 0))) (hm : cs.size = m) (hlies : liesAt P P.depth e (m / P.cellsOf e) o u 1 = true) :
  cv P src dst (pt b o) w = some (pt b o, w) := by
 obtain ⟨j, hj, hj2⟩ := Option.map_eq_some_iff.1 hu
 have hg' : w.heap[b]? = some (.cells cs e (0, 0)) := hg
 rw [cv, Lib.run_from_unsafe (P := P) w ⟨b, o, none⟩ hs hd hj (by unfold World.shape?; rw [hg']) (by rw [hm]; exact hlies)]
 rfl
theorem Ro {t te : TypeId} {n : Nat} (h : P.underlying t = some (.pointer te)) (ht : (P.info? te).map (·.size) = some n) (x y : Operand) (b o : Nat) (w : World) : bo P .neq t x y (pt b o) (pt b o) w = some (.bool false, w) := by
 obtain ⟨j, hj, hj2⟩ := Option.map_eq_some_iff.1 ht
 have := Lib.run_neq_ptr_same (P := P) w ⟨b, o, none⟩ h hj
 simp [bo, eqGuard, this, ro]
theorem Rp {t te : TypeId} (h : P.underlying t = some (.pointer te)) (x y : Operand) (a : Option Addr) (w : World) : bo P .eql t x y (.pointer a) (.pointer none) w = some (.bool a.isNone, w) := by
 have : (Op.equal t (.pointer a) (.pointer none)).run P w = .ok a.isNone w := by
  unfold Op.equal
  rw [show Op.maxDepth = 9999 + 1 from rfl, Op.equalIn]
  cases a <;> simp [run_underlying h]
 simp [bo, eqGuard, binOp, this, ro]
theorem Uk (dst : Option Tmp) (a : Nat) (ats : Array TypeId) (ty : TypeId) (pos : String) (after : Array Edge) (e : Env) (w : World) :
  gn P { dst := dst, op := .call { callee := .builtin .unsafeSliceData, args := #[.tmp a], argTypes := ats }, type := ty, pos := pos, after := after, guard := none } e w = ro ((Builtin.unsafeSliceData_ ats ty #[e a]).run P w) := by
 unfold gn
 rw [BigFrame.execOp_builtin, BigFrame.builtin_unsafeSliceData]
 have h : (#[Operand.tmp a].map (val e)) = #[e a] := by simp [val]
 rw [h, Sem.run_bind]
 cases (Builtin.unsafeSliceData_ ats ty #[e a]).run P w <;> rfl
theorem Vj (ts : Array TypeId) (ty : TypeId) (g n : Nat) {c : Nat} (hc : 0 < c) (w : World) : ro ((Builtin.unsafeSliceData_ ts ty #[.slice (some ⟨g, 0, none⟩) n c]).run P w) = some (pt g 0, w) := by
 rw [Lib.run_unsafeSliceData_row (P := P) w ts ty ⟨g, 0, none⟩ n c Ad]
 rfl
theorem Vk {pt' it ty e : TypeId} (hp' : P.underlying pt' = some (.pointer e)) (hc : P.cellsOf e = 1) {w : World} {g : Nat} {l : List UInt8} {cur : List Value} (h0 : 0 < l.length) (h1 : l.length ≤ 9223372036854775807) (hg : hp w g = some (.cells cur.toArray e (0, 0))) (ht : cur.take l.length = Lib.byteCells l) :
  ro ((Builtin.unsafeString_ #[pt', it] ty #[pt g 0, i64 l.length]).run P w) = some (.string (AZ l), w.freeze ⟨g, 0, none⟩ l.length) := by
 have hg' : w.heap[g]? = some (.cells cur.toArray e (0, 0)) := hg
 have hbl : (Lib.byteCells l).length = l.length := Lib.byteCells_length l
 have hcl : l.length ≤ cur.length := by rw [← ht, List.length_take] at hbl; omega
 have := Lib.run_unsafeString_row (P := P) (w := w) pt' it ty e hp' hc g cur.length (by unfold World.shape?; rw [hg']; simp) l (by intro h; rw [h] at h0; simp at h0) hcl h1
  (fun j x hx => Lib.cells_of_row hg' l.length j _ (by rw [List.toList_toArray, ht]; simp [Lib.byteCells, hx]))
 rw [this]
 rfl
end
theorem K5 {c : UInt8} {l : List UInt8} {p} (h : DI c l = some p) : l.count c = p.2.count c + 1 := by
 obtain ⟨h1, h2⟩ := GF h
 conv => lhs; rw [h1]
 rw [List.count_append, List.count_eq_zero_of_not_mem h2, List.count_cons_self]
 omega
theorem Ix (c : UInt8) : ∀ (n : Nat) (l : List UInt8), (Cx c n l).length = min n (l.count c) + 1
 | 0, l => by simp [Cx]
 | n + 1, l => by
  unfold Cx
  cases h : DI c l with
  | none => rw [List.count_eq_zero_of_not_mem (IH h)]; simp
  | some p =>
   have := Ix c n p.2
   have := K5 h
   simp only [List.length_cons]
   omega
theorem NF (c : UInt8) : ∀ (n m : Nat) (l : List UInt8), l.count c ≤ n → l.count c ≤ m → Cx c n l = Cx c m l
 | 0, 0, l, _, _ => rfl
 | 0, m + 1, l, h, _ => by rw [EY (List.count_eq_zero.1 Ad), EY (List.count_eq_zero.1 Ad)]
 | n + 1, 0, l, _, h => by rw [EY (List.count_eq_zero.1 Ad), EY (List.count_eq_zero.1 Ad)]
 | n + 1, m + 1, l, h, k => by
  cases hc : DI c l with
  | none => simp only [Cx, hc]
  | some p =>
   have := K5 hc
   simp only [Cx, hc]
   rw [NF c n m p.2 Ad Ad]
def AV (c : UInt8) (l : List UInt8) : List (List UInt8) := Cx c (l.count c) l
theorem Dn (c : UInt8) (l : List UInt8) : (AV c l).length = l.count c + 1 := by rw [AV, Ix]; omega
theorem Iy {c : UInt8} {l : List UInt8} {p} (h : DI c l = some p) : AV c l = p.1 :: AV c p.2 := by
 unfold AV
 rw [K5 h]
 show (match DI c l with | none => _ | some p => _) = _
 rw [h]
theorem JB {c : UInt8} {l : List UInt8} (h : c ∉ l) : AV c l = [l] := EY h _
theorem Rq (c : UInt8) {n : Nat} {l : List UInt8} (h : (Cx c n l).length ≤ n) : Cx c n l = AV c l := by
 rw [Ix] at h
 exact NF c _ _ _ Ad (Nat.le_refl _)
theorem O5 (c : UInt8) (l : List UInt8) : ∀ x ∈ AV c l, x.length ≤ l.length := LJ c _ l
section
variable {P : Program}
theorem WJ (l : List UInt8) : Lib.strCells (AZ l) = Lib.byteCells l := by rw [Lib.strCells_eq]; rfl
def Zg (T E B : Nat) (w : World) (b : Nat) (l : List UInt8) : Prop :=
 ∃ p s, hp w b = some (.cells #[p, s] T (0, 0)) ∧ (p = .pointer none ∨ p = pt b 0) ∧ w.ownsRow B E 1 s l.length (Lib.byteCells l) ∧ s.ownBlock ≠ some b
theorem K6 {w w' : World} {B e n size : Nat} {v : Value} {xs : List Value} (h : w.ownsRow B e size v n xs) (k : ∀ g, v.ownBlock = some g → hp w' g = hp w g) : w'.ownsRow B e size v n xs := by
 obtain ⟨h1, h⟩ := h
 refine ⟨h1, h.imp id ?_⟩
 rintro ⟨g, cap, cur, rfl, h2, h3, rest⟩
 exact ⟨g, cap, cur, rfl, h2, (k g rfl).trans h3, rest⟩
theorem Zg.nil {T E B b : Nat} {w : World} (h : hp w b = some (.cells #[.pointer none, .slice none 0 0] T (0, 0))) : Zg T E B w b [] :=
 ⟨_, _, h, .inl rfl, ⟨rfl, .inl ⟨rfl, rfl⟩⟩, by simp [Value.ownBlock]⟩
theorem Vl {t u ty e : TypeId} (ht : P.underlying t = some (.slice e)) (hu : P.underlying u = some .string) (hj : (P.info? e).map (fun j => (j.zero, j.size, j.bytes)) = some (some (.int .u8 0), 1, 1))
  {w : World} {B : Nat} {v : Value} {l m : List UInt8} (ho : w.ownsRow B e 1 v l.length (Lib.byteCells l)) (hl : l.length + m.length ≤ 140737488355328) (hB : B ≤ w.heap.size) :
  ∃ v' w', Ar P #[t, u] ty #[v, .string (AZ m)] w = some (v', w') ∧ w'.ownsRow B e 1 v' (l ++ m).length (Lib.byteCells (l ++ m)) ∧ Mod (fun x => v.ownBlock = some x) w w' ∧ ∃ a n c, v' = .slice a n c := by
 obtain ⟨j, hi, hj⟩ := Option.map_eq_some_iff.1 hj
 simp only [Prod.mk.injEq] at hj
 obtain ⟨hz, hs, hby⟩ := hj
 obtain ⟨v', w', h1, h2, h3, _⟩ := Lib.run_append_own_string (P := P) w B t u ty e j ht hu hi hz hs hby v l.length (Lib.byteCells l) ho (AZ m) (by rw [AA]; simp only [maxLen]; omega) (by rw [AA]; omega) hB
 rw [AA, WJ, ← Lib.byteCells_append] at h2
 refine ⟨v', w', by simp only [Ar, h1, ro], by rw [List.length_append]; exact h2, ⟨h3.os, h3.tape, h3.output, h3.size, fun b hb hn => h3.block b hb fun h => hn h.symm⟩, ?_⟩
 obtain ⟨_, h2⟩ := h2
 rcases h2 with ⟨rfl, _⟩ | ⟨g', cap, cur, rfl, _⟩
 ·exact ⟨_, _, _, rfl⟩
 ·exact ⟨_, _, _, rfl⟩
theorem Vm (p it ty : TypeId) (a : Option Addr) (w : World) : ro ((Builtin.unsafeString_ #[p, it] ty #[.pointer a, i64 0]).run P w) = some (.string (AZ []), w) := by
 rw [Lib.run_unsafeString_none (P := P) w p it ty a]
 rfl
theorem Vn (ts : Array TypeId) (ty : TypeId) (n c : Nat) (w : World) : ro ((Builtin.unsafeSliceData_ ts ty #[.slice none n c]).run P w) = some (.pointer none, w) := by
 rw [Lib.run_unsafeSliceData_nil (P := P) w ts ty n c]
 rfl
end
theorem Hr {w : World} {b i : Nat} {v : Value} (h : AR (hp w b) i = some v) : b < w.heap.size := by
 cases hh : hp w b with
 | none => rw [hh] at h; cases h
 | some o => exact Aq hh
def CT (w : World) (g o : Nat) (xs : List (List UInt8)) : Prop := ∀ (i : Nat) x, xs[i]? = some x → AR (hp w g) (o + i) = some (.string (AZ x))
theorem CT.Aj {w w' : World} {g o : Nat} {xs : List (List UInt8)} (h : CT w g o xs) (k : hp w' g = hp w g) : CT w' g o xs := fun i x hx => by rw [k]; exact h i x hx
theorem CT.ext {w w' : World} {g o : Nat} {xs : List (List UInt8)} (h : CT w g o xs) (k : Ext w w') : CT w' g o xs := fun i x hx => by
 have := h i x hx
 rw [k.Ai (Hr this)]
 exact this
theorem CT.mod {S : Nat → Prop} {w w' : World} {g o : Nat} {xs : List (List UInt8)} (h : CT w g o xs) (k : Mod S w w') (hg : ¬ S g) : CT w' g o xs := fun i x hx => by
 have := h i x hx
 rw [k.Ai g (Hr this) hg]
 exact this
def Ul : List UInt8 := [119, 114, 105, 116, 101]
def VL : List UInt8 := [114, 101, 97, 100]
def VM : List UInt8 := [115, 117, 114, 101]
def JC : List (List UInt8) := [[], Ul, VL, VM]
def Ct (k : Int) : List UInt8 := if k = 1 then Ul else if k = 2 then VL else VM
def Bz (d : Done) : List UInt8 := Bn d.Ay.toNat ++ 32 :: (Ct d.kind ++ 32 :: (Bn d.key.toNat ++ 32 :: C6 d.tag))
def AP : List Done → List UInt8
 | [] => []
 | d :: l => Bz d ++ 10 :: AP l
theorem K7 : ∀ (a b : List Done), AP (a ++ b) = AP a ++ AP b
 | [], b => rfl
 | d :: a, b => by simp only [List.cons_append, AP, K7 a b, List.append_assoc]
theorem Kj {k : Int} (h1 : 1 ≤ k) (h2 : k ≤ 3) : JC[k.toNat]? = some (Ct k) := by
 have : k = 1 ∨ k = 2 ∨ k = 3 := by omega
 rcases this with rfl | rfl | rfl <;> rfl
theorem SX (k : Int) : ∀ c ∈ Ct k, 97 ≤ c.toNat ∧ c.toNat ≤ 122 := by
 unfold Ct
 split
 ·decide
 ·split <;> decide
theorem QC {k : Int} {c : UInt8} (h : c.toNat < 97) : c ∉ Ct k := fun hm => by have := SX k c hm; omega
theorem O6 {a b : Int} (ha1 : 1 ≤ a) (ha2 : a ≤ 3) (hb1 : 1 ≤ b) (hb2 : b ≤ 3) (h : Ct a = Ct b) : a = b := by
 have h1 : a = 1 ∨ a = 2 ∨ a = 3 := by omega
 have h2 : b = 1 ∨ b = 2 ∨ b = 3 := by omega
 rcases h1 with rfl | rfl | rfl <;> rcases h2 with rfl | rfl | rfl <;> first | rfl | (exact absurd h AD)
theorem Um {t : Tag} : (10 : UInt8) ∉ C6 t := by
 intro h
 rcases List.mem_append.1 h with h | h
 ·exact G7 AD h
 ·rcases List.mem_cons.1 h with h | h
  ·exact absurd h AD
  ·exact G7 AD h
theorem PL {d : Done} : (10 : UInt8) ∉ Bz d := by
 intro h
 rcases List.mem_append.1 h with h | h
 ·exact G7 AD h
 ·rcases List.mem_cons.1 h with h | h
  ·exact absurd h AD
  ·rcases List.mem_append.1 h with h | h
   ·exact QC AD h
   ·rcases List.mem_cons.1 h with h | h
    ·exact absurd h AD
    ·rcases List.mem_append.1 h with h | h
     ·exact G7 AD h
     ·rcases List.mem_cons.1 h with h | h
      ·exact absurd h AD
      ·exact Um h
def K8 (d : Done) : List (List UInt8) := [Bn d.Ay.toNat, Ct d.kind, Bn d.key.toNat, C6 d.tag]
theorem K9 (d : Done) (n : Nat) : Cx 32 (n + 3) (Bz d) = K8 d := by
 unfold Bz
 rw [H0 (G7 AD), H0 (QC AD), H0 (G7 AD), EY WL]
 rfl
theorem HH (d : Done) : AV 32 (Bz d) = K8 d := by
 have h1 := K9 d 1
 rw [← Rq 32 (n := 4), h1]
 show (Cx 32 (1 + 3) (Bz d)).length ≤ 4
 rw [h1]
 simp [K8]
theorem NG {a b : Done} (h1 : a.Ay = b.Ay) (h2 : a.kind = b.kind) (h3 : a.key = b.key) (h4 : a.tag = b.tag) : a = b := by cases a; cases b; simp_all
theorem QD {a b : Done} (ha : Dq a = true) (hb : Dq b = true) (h : Bz a = Bz b) : a = b := by
 obtain ⟨a1, a2, a3, a4, _⟩ := Fh.1 ha
 obtain ⟨b1, b2, b3, b4, _⟩ := Fh.1 hb
 have h1 := HH a
 rw [h, HH b] at h1
 simp only [K8, List.cons.injEq, and_true] at h1
 obtain ⟨e1, e2, e3, e4⟩ := h1
 have e1 := Km e1
 have e3 := Km e3
 exact NG Ad (O6 a2.1 a2.2 b2.1 b2.2 e2.symm) Ad (NJ a4 b4 e4.symm)
theorem Kk (d : Done) (l : List Done) : DI 10 (AP (d :: l)) = some (Bz d, AP l) := IA PL
theorem QE : ∀ {a b : List Done}, (∀ d ∈ a, Dq d = true) → (∀ d ∈ b, Dq d = true) → AP a = AP b → a = b
 | [], [], _, _, _ => rfl
 | [], d :: l, _, _, h => by have := congrArg List.length h; simp [AP] at this
 | d :: l, [], _, _, h => by have := congrArg List.length h; simp [AP] at this
 | d :: l, e :: m, ha, hb, h => by
  have h1 := Kk d l
  rw [h, Kk e m] at h1
  simp only [Option.some.injEq, Prod.mk.injEq] at h1
  rw [QD (ha d List.mem_cons_self) (hb e List.mem_cons_self) h1.1.symm, QE (fun x hx => ha x (List.mem_cons_of_mem _ hx)) (fun x hx => hb x (List.mem_cons_of_mem _ hx)) h1.2.symm]
def GD (l : List UInt8) (xs : List Done) (ok : Bool) : Prop := (ok = true → BM xs = true ∧ AP xs = l) ∧ (ok = false → xs = [] ∧ ∀ ys, BM ys = true → AP ys ≠ l)
theorem C5 {l : List Done} (h : BM l = true) : ∀ d ∈ l, Dq d = true := by
 simp only [BM, Bool.and_eq_true, List.all_eq_true] at h
 exact h.1
theorem DN {l : List Done} (h : BM l = true) : l.length ≤ 80 := by
 simp only [BM, Bool.and_eq_true, decide_eq_true_eq] at h
 exact h.2
theorem GD.eq {l : List UInt8} {t t' : List Done} {ok ok' : Bool} (h : GD l t ok) (h' : GD l t' ok') : t = t' ∧ ok = ok' := by
 cases ok <;> cases ok'
 ·exact ⟨(h.2 rfl).1.trans (h'.2 rfl).1.symm, rfl⟩
 ·exact absurd (h'.1 rfl).2 ((h.2 rfl).2 _ (h'.1 rfl).1)
 ·exact absurd (h.1 rfl).2 ((h'.2 rfl).2 _ (h.1 rfl).1)
 ·exact ⟨QE (C5 (h.1 rfl).1) (C5 (h'.1 rfl).1) ((h.1 rfl).2.trans (h'.1 rfl).2.symm), rfl⟩
def BZ (l : List Done) : List UInt8 := if BM l then AP l else []
theorem NH : ∀ (l : List Done), l ≠ [] → ∃ s, AP l = s ++ [10] ∧ AV 10 s = l.map Bz
 | [], h => absurd rfl h
 | [d], _ => ⟨Bz d, rfl, by rw [JB PL]; rfl⟩
 | d :: e :: l, _ => by
  obtain ⟨s, h1, h2⟩ := NH (e :: l) (by simp)
  refine ⟨Bz d ++ 10 :: s, by rw [AP, h1]; simp, ?_⟩
  rw [Iy (IA PL), h2]
  rfl
theorem SY : ∀ (l : List UInt8) (n : Nat), l.length ≤ n → ((AV 10 l).map fun x => x ++ [10]).flatten = l ++ [10] := by
 intro l n
 induction n generalizing l with
 | zero => intro h; have : l = [] := List.length_eq_zero_iff.1 Ad; subst this; rfl
 | succ n ih =>
  intro h
  cases hc : DI 10 l with
  | none => rw [JB (IH hc)]; simp
  | some p =>
   obtain ⟨h1, h2⟩ := GF hc
   have hl : l.length = p.1.length + (p.2.length + 1) := by conv => lhs; rw [h1]; simp
   rw [Iy hc, List.map_cons, List.flatten_cons, ih p.2 Ad]
   conv => rhs; rw [h1]
   simp
theorem O7 : GK.Flat := Kh (BO Cp (BO Cp (BO Cp B8)))
def La : Value → Bool
 | .nilIface => true
 | _ => false
theorem QF {P : Program} (t : TypeId) (ms) (h : P.underlying t = some (.interface ms)) (n : Nat) (a : Value) (ha : a = .nilIface ∨ ∃ u v, a = .iface u v) (w : World) :
  bo P .eql t (.tmp n) (.const .nilIface) a .nilIface w = some (.bool (La a), w) := by
 rcases ha with rfl | ⟨u, v, rfl⟩
 ·have : (Op.equal t .nilIface .nilIface).run P w = .ok true w := by
   unfold Op.equal
   rw [show Op.maxDepth = 9999 + 1 from rfl, Op.equalIn]
   simp [run_underlying h]
  simp [bo, eqGuard, binOp, this, ro, La]
 ·have : (Op.equal t (.iface u v) .nilIface).run P w = .ok false w := by
   unfold Op.equal
   rw [show Op.maxDepth = 9999 + 1 from rfl, Op.equalIn]
   simp [run_underlying h]
  simp [bo, eqGuard, binOp, this, ro, La]
theorem QG {E : TypeId} {d : Done} {g : Nat} {w : World} (h : hp w g = some (.cells #[i64 d.Ay, i64 d.kind, i64 d.key, i64 d.tag.t, i64 d.tag.p] E (0, 0))) : D (HJ E) (fun b => b = g) w [.slice (some ⟨g, 0, none⟩) 1 1] [d] := by
 refine D.WO (css := [Cd d]) ⟨_, _, rfl, by simp, .inr ⟨g, 0, rfl, fun j v hj => ?_⟩⟩ ⟨D.done.2 rfl, trivial⟩ (fun b hb => ?_) (by simp)
 ·rw [h]
  simpa [AR] using hj
 ·simp only [AF, Option.toList_some, List.mem_singleton] at hb
  subst hb
  exact ⟨rfl, Aq h⟩
end Go.Ev
