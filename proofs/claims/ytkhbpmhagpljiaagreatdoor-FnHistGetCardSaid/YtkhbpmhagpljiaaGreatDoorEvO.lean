/- A part of the proof, without conditions. -/
import Derived.Lib.BufferWrite
import Derived.Lib.UnsafeStr
import Derived.Lib.ConvBytes
import Derived.Lib.Bytealg
import Derived.Laws.Externs
import Derived.BigFrame
import Derived.Laws.Strings3
import Derived.Laws.Build
import Derived.Test.YtkhbpmhagpljiaaGreatDoorEvLt
import Derived.Test.YtkhbpmhagpljiaaGreatDoorEvI
import Derived.Test.YtkhbpmhagpljiaaGreatDoorEvJ
set_option linter.unusedVariables false
set_option linter.unusedSimpArgs false
set_option linter.deprecated false
namespace Go.Ev
open Go Go.RowKit
section
variable {P : Program}
theorem PM (dst : Option Tmp) (a b : Nat) (ats : Array TypeId) (ty : TypeId) (pos : String) (after : Array Edge) (e : Env) (w : World) :
  gn P { dst := dst, op := .call { callee := .builtin .unsafeString, args := #[.tmp a, .tmp b], argTypes := ats }, type := ty, pos := pos, after := after, guard := none } e w = ro ((Builtin.unsafeString_ ats ty #[e a, e b]).run P w) := by
 unfold gn
 rw [BigFrame.execOp_builtin, BigFrame.builtin_unsafeString]
 have h : (#[Operand.tmp a, Operand.tmp b].map (val e)) = #[e a, e b] := by simp [val]
 rw [h, Sem.run_bind]
 cases (Builtin.unsafeString_ ats ty #[e a, e b]).run P w <;> rfl
theorem WM {dT sT ty e : TypeId} (hu : P.underlying dT = some (.slice e)) (hs : (P.info? e).map (·.size) = some 1) {w : World} {g : Nat} {cur : List Value} {s : ByteArray} {n c : Nat} (hg : hp w g = some (.cells cur.toArray e (0, 0))) (hn : s.size = n) (hc : cur.length = n) :
  Q6 P #[dT, sT] ty #[.slice (some ⟨g, 0, none⟩) n c, .string s] w = some (i64 n, w.setRow g (Lib.byteCells s.data.toList).toArray) := by
 have := Lib.run_copy_row_string (P := P) w dT sT ty e g 0 n c s cur.toArray e hu hs hg Ad (by simp; omega)
 rw [List.take_zero, List.nil_append, List.drop_of_length_le (by simp; omega), List.append_nil] at this
 simp only [Q6, this, ro, hn, goInt]
theorem WN {pt' it ty e : TypeId} (hp' : P.underlying pt' = some (.pointer e)) (hc : P.cellsOf e = 1) {w : World} {g : Nat} {s : ByteArray} (h0 : 0 < s.size) (h1 : s.size ≤ 9223372036854775807) (hg : hp w g = some (.cells (Lib.byteCells s.data.toList).toArray e (0, 0))) :
  ro ((Builtin.unsafeString_ #[pt', it] ty #[pt g 0, i64 s.size]).run P w) = some (.string s, w.freeze ⟨g, 0, none⟩ s.size) := by
 have hl := Lib.size_eq s
 have hne : s.data.toList ≠ [] := fun e => by rw [hl, e] at h0; simp at h0
 have hg' : w.heap[g]? = some (.cells (Lib.byteCells s.data.toList).toArray e (0, 0)) := hg
 have hbl : (Lib.byteCells s.data.toList).length = s.size := by rw [Lib.byteCells_length, ← hl]
 have := Lib.run_unsafeString_row (P := P) (w := w) pt' it ty e hp' hc g s.size (by unfold World.shape?; rw [hg']; simp [hbl]) s.data.toList hne Ad Ad
  (fun j x hx => Lib.cells_of_row hg' s.size j _ (by rw [List.take_of_length_le (by simp [hbl])]; simp [Lib.byteCells, hx]))
 rw [← hl] at this
 rw [this]
 rfl
theorem Ext.bN {a b : World} (h : Ext a b) {g : Nat} (hk : a.heap.size ≤ g) (n : Nat) : Ext a (b.freeze ⟨g, 0, none⟩ n) := Lib.below_freeze h (p := ⟨g, 0, none⟩) hk n
theorem RX {src dst e : TypeId} {u : TypeDesc} (hs : P.underlying src = some u) (hd : P.underlying dst = some (.slice e)) (he : P.underlying e = some (.int .u8)) (s : ByteArray) (w : World) :
  ∃ c w', cv P src dst (.string s) w = some (.slice (some ⟨w.heap.size, 0, none⟩) s.size c, w') ∧ Ext w w' ∧ (∀ (j : Nat) b, s.toList[j]? = some b → AR (hp w' w.heap.size) j = some (.int .u8 b.toNat)) ∧ w'.heap.size = w.heap.size + 1 := by
 refine ⟨_, _, by rw [cv, Lib.run_convert_string_bytes (P := P) w src dst e s hs hd he]; rfl, ?_, ?_, Lib.bytesWorld_size w e s⟩
 ·exact ⟨rfl, rfl, rfl, by rw [Lib.bytesWorld_size]; omega, fun k hk => Lib.bytesWorld_at_old w e s k hk⟩
 ·intro j b hb
  have hl : j < s.toList.length := (List.getElem?_eq_some_iff.1 hb).1
  have hl' : j < s.size := by rw [ByteArray.toList_eq] at hl; simpa using hl
  have := Lib.bytesWorld_cell w e s j hl'
  rw [cell?_eq] at this
  rw [this]
  rw [ByteArray.toList_eq] at hb
  simp [List.getD, hb]
theorem VN {t : TypeId} (h : P.concrete t = true) (x : Value) (w : World) : mi P t x w = some (.iface t x, w) := by rw [mi, run_makeInterface w t x h]; rfl
theorem NK (t : TypeId) (ms) (h : P.underlying t = some (.interface ms)) (n : Nat) (a : Value) (ha : a = .nilIface ∨ ∃ u v, a = .iface u v) (w : World) :
  bo P .neq t (.tmp n) (.const .nilIface) a .nilIface w = some (.bool (match a with | .nilIface => false | _ => true), w) := by
 rcases ha with rfl | ⟨u, v, rfl⟩
 ·have : (Op.equal t .nilIface .nilIface).run P w = .ok true w := by
   unfold Op.equal
   rw [show Op.maxDepth = 9999 + 1 from rfl, Op.equalIn]
   simp [run_underlying h]
  simp [bo, eqGuard, binOp, this, ro]
 ·have : (Op.equal t (.iface u v) .nilIface).run P w = .ok false w := by
   unfold Op.equal
   rw [show Op.maxDepth = 9999 + 1 from rfl, Op.equalIn]
   simp [run_underlying h]
  simp [bo, eqGuard, binOp, this, ro]
theorem QL {t u : TypeId} {ms} {k : IntKind} (h : P.underlying t = some (.interface ms)) (hu : P.underlying u = some (.int k)) (hc : (P.info? u).map (·.comparable) = some true) (a b : Int) (w : World) :
  (Op.equal t (.iface u (.int k a)) (.iface u (.int k b))).run P w = .ok (a == b) w := by
 unfold Op.equal
 obtain ⟨i, hi, hic⟩ := Option.map_eq_some_iff.1 hc
 rw [show Op.maxDepth = 9998 + 1 + 1 from rfl, Op.equalIn]
 simp only [Sem.run_bind, run_underlying h, Result.andThen_ok]
 simp [typeInfo, hi, hic]
 rw [Op.equalIn]
 simp only [Sem.run_bind, run_underlying hu, Result.andThen_ok]
 rfl
theorem SZ {t u : TypeId} {ms} {k : IntKind} (h : P.underlying t = some (.interface ms)) (hu : P.underlying u = some (.int k)) (hc : (P.info? u).map (·.comparable) = some true) (x y : Operand) (a b : Int) (w : World) :
  bo P .eql t x y (.iface u (.int k a)) (.iface u (.int k b)) w = some (.bool (a == b), w) := by
 simp [bo, eqGuard, binOp, QL h hu hc, ro]
theorem S5 {t u : TypeId} {ms} {k : IntKind} (h : P.underlying t = some (.interface ms)) (hu : P.underlying u = some (.int k)) (hc : (P.info? u).map (·.comparable) = some true) (x y : Operand) (a b : Int) (w : World) :
  bo P .neq t x y (.iface u (.int k a)) (.iface u (.int k b)) w = some (.bool (!(a == b)), w) := by
 simp [bo, eqGuard, binOp, QL h hu hc, ro]
theorem RY (t : TypeId) (x y : Operand) (k : IntKind) (n : Int) {c : Int} (hc : 0 ≤ c) (w : World) : bo P .shl t x y (.int k n) (.int .u64 c) w = some (.int k (k.wrap (n * 2 ^ min c.toNat k.bits)), w) := by
 unfold bo
 rw [show eqGuard .shl t x y (.int k n) (.int .u64 c) = pure () from rfl, show binOp .shl t (.int k n) (.int .u64 c) = Op.shift .shl k n .u64 c from rfl]
 have hn : ¬ c < 0 := by omega
 simp [Op.shift, ro, hn]
theorem Yo (t : TypeId) (x y : Operand) (k : IntKind) (a b : Int) (w : World) : bo P .or t x y (.int k a) (.int k b) w = some (.int k (k.wrap (BitVec.ofInt k.bits a ||| BitVec.ofInt k.bits b).toNat), w) := by
 rw [EF]; simp [binOp, Op.intBits, ro]
theorem Iz (l : List UInt8) (i j : Nat) : (AZ l).extract i j = AZ ((l.drop i).take (j - i)) := by
 apply ByteArray.ext
 rw [ByteArray.data_extract]
 simp [AZ]
theorem Hs {t : TypeId} (h : P.underlying t = some .string) (l : List UInt8) {j : Int} (h1 : 0 ≤ j) (h2 : j ≤ l.length) (w : World) : sl P t (.string (AZ l)) none (some (i64 j)) none w = some (.string (AZ (l.take j.toNat)), w) := by
 have := run_slice_string_to_if (P := P) (w := w) t (AZ l) .i64 j h
 rw [if_pos ⟨h1, by rw [AA]; exact h2⟩, Iz, List.drop_zero, Nat.sub_zero] at this
 exact congrArg ro ((run_sliceAt_string (P := P) (w := w) t (.string (AZ l)) none (some (i64 j)) none h).trans this)
theorem CU {t : TypeId} (h : P.underlying t = some .string) (l : List UInt8) {i : Int} (h1 : 0 ≤ i) (h2 : i ≤ l.length) (w : World) : sl P t (.string (AZ l)) (some (i64 i)) none none w = some (.string (AZ (l.drop i.toNat)), w) := by
 have := run_slice_string_from_if (P := P) (w := w) t (AZ l) .i64 i h
 rw [if_pos ⟨h1, by rw [AA]; exact h2⟩, Iz, List.take_of_length_le (by rw [AA]; simp)] at this
 exact congrArg ro ((run_sliceAt_string (P := P) (w := w) t (.string (AZ l)) (some (i64 i)) none none h).trans this)
theorem HI {t : TypeId} (h : P.underlying t = some .string) (l : List UInt8) {k : IntKind} {i : Int} (h0 : 0 ≤ i) {b : UInt8} (hb : l[i.toNat]? = some b) (w : World) : ix P t (.string (AZ l)) (.int k i) w = some (.int .u8 b.toNat, w) :=
 JP h (AZ l) h0 (by rw [Az]; exact hb) w
end
def DI (c : UInt8) : List UInt8 → Option (List UInt8 × List UInt8)
 | [] => none
 | b :: l => if b = c then some ([], l) else (DI c l).map fun p => (b :: p.1, p.2)
theorem GF {c : UInt8} : ∀ {l : List UInt8} {p}, DI c l = some p → l = p.1 ++ c :: p.2 ∧ c ∉ p.1
 | [], p, h => by simp [DI] at h
 | b :: l, p, h => by
  unfold DI at h
  split at h
  ·rename_i hb
   obtain rfl := Option.some.inj h
   exact ⟨by rw [hb]; rfl, by simp⟩
  ·rename_i hb
   obtain ⟨q, hq, rfl⟩ := Option.map_eq_some_iff.1 h
   obtain ⟨h1, h2⟩ := GF hq
   refine ⟨?_, ?_⟩
   ·show b :: l = b :: q.1 ++ c :: q.2
    rw [h1]; simp
   ·intro hm
    rcases List.mem_cons.1 hm with h3 | h3
    ·exact hb h3.symm
    ·exact h2 h3
theorem IA {c : UInt8} : ∀ {a b : List UInt8}, c ∉ a → DI c (a ++ c :: b) = some (a, b)
 | [], b, _ => by simp [DI]
 | x :: a, b, h => by
  have hx : ¬ x = c := fun e => h (by rw [e]; exact List.mem_cons_self)
  show (if x = c then _ else (DI c (a ++ c :: b)).map fun p => (x :: p.1, p.2)) = _
  rw [if_neg hx, IA (fun hm => h (List.mem_cons_of_mem _ hm))]
  rfl
theorem IH {c : UInt8} : ∀ {l : List UInt8}, DI c l = none → c ∉ l
 | [], _ => by simp
 | b :: l, h => by
  unfold DI at h
  split at h
  ·cases h
  ·rename_i hb
   have := IH (Option.map_eq_none_iff.1 h)
   intro hm
   rcases List.mem_cons.1 hm with h3 | h3
   ·exact hb h3.symm
   ·exact this h3
theorem NL (c : UInt8) : ∀ l : List UInt8, Lib.indexByte l c = match DI c l with | none => -1 | some p => (p.1.length : Int)
 | [] => rfl
 | b :: l => by
  have ih := NL c l
  unfold Lib.indexByte DI
  by_cases hb : b = c
  ·simp [hb]
  ·have hb' : (b == c) = false := by simpa using hb
   rw [if_neg (by rw [hb']; simp), if_neg hb, ih]
   cases h : DI c l with
   | none => rfl
   | some p =>
    have h1 : ((p.1.length : Int) == -1) = false := by rw [beq_eq_false_iff_ne]; omega
    show (if ((p.1.length : Int) == -1) = true then (-1 : Int) else (p.1.length : Int) + 1) = ((b :: p.1).length : Int)
    rw [h1]
    simp
def GG : Int → List UInt8 → Option Int
 | n, [] => some n
 | n, b :: l => if 9 < IntKind.u8.wrap ((b.toNat : Int) - 48) then none else GG (IntKind.i64.wrap (IntKind.i64.wrap (n * 10) + IntKind.i64.wrap (IntKind.u8.wrap ((b.toNat : Int) - 48)))) l
theorem O9 : ∀ (a b : List UInt8) (n : Int), GG n (a ++ b) = (GG n a).bind fun m => GG m b
 | [], b, n => rfl
 | x :: a, b, n => by
  show (if _ then _ else GG _ (a ++ b)) = ((if _ then _ else GG _ a) : Option Int).bind _
  split
  ·rfl
  ·exact O9 a b _
theorem Pa {d : Nat} (h : d < 10) : (dg d).toNat = 48 + d := by
 unfold dg
 rw [UInt8.toNat_ofNat']
 omega
theorem Pb (m : Nat) (h : m ≤ 4611686018427387904) : GG 0 (Bn m) = some (m : Int) := by
 induction m using Nat.strongRecOn with
 | _ m ih =>
  have step : ∀ (q d : Nat), d < 10 → q * 10 + d ≤ 4611686018427387904 → GG (q : Int) [dg d] = some ((q * 10 + d : Nat) : Int) := by
   intro q d hd hq
   have h1 : IntKind.u8.wrap (((dg d).toNat : Int) - 48) = d := by rw [Pa hd, Xb Ad Ad]; omega
   have h2 : IntKind.i64.wrap ((q : Int) * 10) = (q : Int) * 10 := HS Ad Ad
   have h3 : IntKind.i64.wrap (d : Int) = d := HS Ad Ad
   have h4 : IntKind.i64.wrap ((q : Int) * 10 + d) = (q : Int) * 10 + d := HS Ad Ad
   simp only [GG, h1, h2, h3, h4]
   rw [if_neg Ad]
   congr 1
  by_cases h10 : m < 10
  ·rw [Dy h10]
   have := step 0 m h10 Ad
   simpa using this
  ·rw [EU h10, O9, ih (m / 10) Ad Ad]
   have := step (m / 10) (m % 10) Ad Ad
   rw [show m / 10 * 10 + m % 10 = m by omega] at this
   exact this
theorem Pc (m : Nat) : ∃ c l, Bn m = c :: l ∧ 48 ≤ c.toNat ∧ c.toNat ≤ 57 := by
 have h1 := BL m
 cases h : Bn m with
 | nil => rw [h] at h1; simp at h1
 | cons c l => exact ⟨c, l, rfl, Kl c (by rw [h]; exact List.mem_cons_self)⟩
section
variable {α : Type} {L : Lay α} {S S' : Nat → Prop} {w w' : World} {E mx g : Nat}
theorem DG.bE {β γ δ : Type} {R : β → γ → δ → Prop} {Q : β → γ → Prop} : ∀ {l : List β} {m : List γ} {n : List δ}, Bm R l m n → (∀ a b c, c ∈ n → R a b c → Q a b) → DG Q l m
 | [], [], [], _, _ => trivial
 | a :: l, b :: m, c :: n, h, k => ⟨k a b c List.mem_cons_self h.1, DG.bE h.2 fun x y z hz => k x y z (List.mem_cons_of_mem _ hz)⟩
 | [], _ :: _, _, h, _ => h.elim
 | [], [], _ :: _, h, _ => h.elim
 | _ :: _, [], _, h, _ => h.elim
 | _ :: _, _ :: _, [], h, _ => h.elim
theorem GB.d2 {css : List (List Value)} {xs : List α} (h : GB L S w css xs) : DG (D L S w) css xs := by
 obtain ⟨bss, h3, hn, hS⟩ := h
 refine DG.bE h3 fun a b c hc h => ?_
 obtain ⟨bs, h4, h5⟩ := L.read h
 exact ⟨bs, h4, fun x hx => hS x (List.mem_flatten.2 ⟨c, hc, h5 x hx⟩)⟩
end
section
variable {P : Program} {α : Type} {L : Lay α} {S : Nat → Prop} {w : World} {E : TypeId} {mx : Nat} {xs : List α}
theorem O.clip {a : Option Addr} {n c : Nat} (h : O (AY E mx L) S w [.slice a n c] xs) : n ≤ c ∧ c ≤ 9223372036854775807 ∧ O (AY E mx L) S w [.slice a n n] xs := by
 obtain ⟨bs, ⟨s, css, bss, hs, h3, hm, hO, hb⟩, hn, hS⟩ := h
 obtain rfl := (List.cons.inj hs).1
 obtain ⟨hl, hn9, ho⟩ := hO
 rcases ho with ⟨h1, h0⟩ | ⟨g, cap, cur, h1, hg, hh, hc, hcm, hsz, ht⟩
 ·cases h1
  exact ⟨Nat.le_refl _, by omega, bs, ⟨_, css, bss, rfl, h3, hm, ⟨hl, hn9, .inl ⟨rfl, h0⟩⟩, hb⟩, hn, hS⟩
 ·cases h1
  exact ⟨hc, hcm, bs, ⟨_, css, bss, rfl, h3, hm, ⟨hl, hn9, .inr ⟨g, xs.length, cur, rfl, hg, hh, Nat.le_refl _, hn9, Nat.le_trans (Nat.mul_le_mul_right _ hc) hsz, ht⟩⟩, hb⟩, hn, hS⟩
end
end Go.Ev
