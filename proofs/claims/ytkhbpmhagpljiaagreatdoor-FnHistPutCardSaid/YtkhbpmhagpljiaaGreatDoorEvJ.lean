/- A part of the proof, without conditions. -/
import Derived.ProofKit
import Derived.LaidMore
import Derived.OpenShut
import Derived.MakeChecks
import Derived.ChangeBears2
import Derived.Test.YtkhbpmhagpljiaaGreatDoorEvI
set_option linter.unusedVariables false
set_option linter.unusedSimpArgs false
set_option linter.deprecated false
namespace Go.Ev
open Go
theorem Kh {P : Program} {W : World} {k : IntKind} {n : Nat} {e t : TypeId} {g : Nat} {name : String} {CT : List Int} {fuel : Nat} {cs : Array Value} {p : List MemPlace}
  (ht : P.underlying t = some (.array n e)) (he : P.underlying e = some (.int k)) (hce : P.cellsOf e = 1) (hg : P.globalNamed name = some g) (hv : W.var? P name = some cs)
  (h : DataW.trod (fun _ => ()) P W 0 (fun _ => true) false fuel t cs.toList = some (.agg (CT.map fun x => .lit (.int k x)), p)) : At W g 0 (CT.map fun x => Value.int k x) := by
 obtain ⟨xs, m, rfl, hx, hlen, hn, hel⟩ := DataW.trod_array ht h
 simp only [Prod.mk.injEq, DataW.agg.injEq] at hx
 intro j v hj
 rw [List.getElem?_map] at hj
 obtain ⟨a, ha, rfl⟩ := Option.map_eq_some_iff.1 hj
 have hlv : CT.length = xs.length := by simpa using congrArg List.length hx.1
 have hjl : j < xs.length := by have := (List.getElem?_eq_some_iff.1 ha).1; omega
 have h1 := hel j (by omega)
 rw [List.getElem?_eq_getElem hjl, hce, Nat.mul_one] at h1
 obtain ⟨q, h2, h3, _⟩ := DataW.trod_int he h1
 have h4 : (CT.map fun x => (DataW.lit (.int k x) : DataW Unit))[j]? = (xs.map (·.1))[j]? := by rw [hx.1]
 rw [List.getElem?_map, ha, List.getElem?_map, List.getElem?_eq_getElem hjl, h3] at h4
 simp only [Option.map_some, Option.some.injEq, DataW.lit.injEq, Lit.int.injEq, true_and] at h4
 have hc := World.var?_cell hg hv j
 have h5 : cs.toList[j]? = some (.int k q) := by
  have : ((cs.toList.drop j).take 1)[0]? = some (.int k q) := by rw [h2]; rfl
  rw [List.getElem?_take_of_lt (by omega), List.getElem?_drop] at this
  simpa using this
 rw [Nat.zero_add, ← cell?_eq, hc, h4]
 simpa using h5
theorem Mr {P : Program} {W : World} {ms} {t : TypeId} {g : Nat} {name nm : String} {d : DataW Unit} {fuel : Nat} {cs : Array Value} {p : List MemPlace}
  (ht : P.underlying t = some (.interface ms)) (hg : P.globalNamed name = some g) (hv : W.var? P name = some cs)
  (h : DataW.trod (fun _ => ()) P W 0 (fun _ => true) false fuel t cs.toList = some (.iface nm d, p)) : ∃ v, AP (hp W g) 0 = some v ∧ ∃ u x, v = .iface u x := by
 have hc := World.var?_cell hg hv 0
 cases fuel with
 | zero => simp [DataW.trod] at h
 | succ f =>
  obtain ⟨u, x, hcs⟩ : ∃ u x, cs.toList = [.iface u x] := by
   generalize cs.toList = l at h
   unfold DataW.trod at h
   rw [ht] at h
   match l, h with
   | [.iface u x], _ => exact ⟨u, x, rfl⟩
   | [.nilIface], h => simp at h
  refine ⟨.iface u x, ?_, u, x, rfl⟩
  rw [← cell?_eq, hc]
  have : cs[0]? = cs.toList[0]? := by simp
  rw [this, hcs]
  rfl
end Go.Ev
namespace Go.Ev
open Go Go.RowKit
def dg (k : Nat) : UInt8 := UInt8.ofNat (48 + k)
def Bx (n : Nat) : List UInt8 := if h : n < 10 then [dg n] else Bx (n / 10) ++ [dg (n % 10)]
 termination_by n
 decreasing_by omega
def A8 (l : List UInt8) : ByteArray := ⟨l.toArray⟩
theorem Ay (l : List UInt8) : (A8 l).toList = l := by rw [ByteArray.toList_eq]; simp [A8]
theorem AJ (l : List UInt8) : (A8 l).size = l.length := by simp [A8, ByteArray.size]
theorem Qp (s : ByteArray) : A8 s.toList = s := by
 rw [ByteArray.toList_eq]
 cases s
 simp [A8]
theorem PD {a b : ByteArray} (h : a.toList = b.toList) : a = b := by rw [← Qp a, h, Qp]
theorem Us (a b : List UInt8) : A8 a ++ A8 b = A8 (a ++ b) := by
 apply PD
 rw [Ay, ByteArray.toList_eq, ByteArray.data_append]
 simp [A8]
theorem Ez {n : Nat} (h : n < 10) : Bx n = [dg n] := by rw [Bx, dif_pos h]
theorem Fc {n : Nat} (h : ¬ n < 10) : Bx n = Bx (n / 10) ++ [dg (n % 10)] := by rw [Bx, dif_neg h]
theorem BL (n : Nat) : 1 ≤ (Bx n).length ∧ (Bx n).length ≤ n + 1 := by
 induction n using Nat.strongRecOn with
 | _ n ih =>
  by_cases h : n < 10
  ·rw [Ez h]; simp
  ·rw [Fc h, List.length_append]
   have := ih (n / 10) (by omega)
   simp only [List.length_singleton]
   omega
theorem XN (k : Nat) (h : k < 10) : (dg k).toNat = 48 + k := by
 unfold dg
 rw [UInt8.toNat_ofNat']; exact Nat.mod_eq_of_lt (by omega)
theorem Ms {n : Nat} : ∀ c ∈ Bx n, 48 ≤ c.toNat ∧ c.toNat ≤ 57 := by
 induction n using Nat.strongRecOn with
 | _ n ih =>
  by_cases h : n < 10
  ·rw [Ez h]
   intro c hc
   rw [List.mem_singleton.1 hc, XN n h]; omega
  ·rw [Fc h]
   intro c hc
   rcases List.mem_append.1 hc with hc | hc
   ·exact ih _ (by omega) c hc
   ·rw [List.mem_singleton.1 hc, XN _ (Nat.mod_lt _ (by omega))]; omega
def VM (l : List UInt8) : Nat := l.foldl (fun a c => a * 10 + (c.toNat - 48)) 0
theorem NX (n : Nat) : VM (Bx n) = n := by
 induction n using Nat.strongRecOn with
 | _ n ih =>
  by_cases h : n < 10
  ·rw [Ez h]; simp only [VM, List.foldl_cons, List.foldl_nil, XN n h]; omega
  ·rw [Fc h]
   have := ih (n / 10) (by omega)
   simp only [VM, List.foldl_append, List.foldl_cons, List.foldl_nil, XN _ (Nat.mod_lt n (by omega : 10 > 0))] at this ⊢
   rw [this]; omega
theorem Jw {a b : Nat} (h : Bx a = Bx b) : a = b := by rw [← NX a, h, NX]
def Eo (t : Tag) : List UInt8 := Bx t.t.toNat ++ (46 :: Bx t.p.toNat)
theorem QT {c : UInt8} : ∀ {a a' b b' : List UInt8}, a ++ c :: b = a' ++ c :: b' → c ∉ a → c ∉ a' → a = a' ∧ b = b'
 | [], [], b, b', h, _, _ => by simpa using h
 | [], x :: a', b, b', h, _, h2 => by
  simp only [List.nil_append, List.cons_append, List.cons.injEq] at h
  exact absurd (by rw [h.1]; exact List.mem_cons_self) h2
 | x :: a, [], b, b', h, h1, _ => by
  simp only [List.nil_append, List.cons_append, List.cons.injEq] at h
  exact absurd (by rw [h.1]; exact List.mem_cons_self) h1
 | x :: a, y :: a', b, b', h, h1, h2 => by
  simp only [List.cons_append, List.cons.injEq] at h
  obtain ⟨rfl, h⟩ := h
  have k := QT h (fun h => h1 (List.mem_cons_of_mem _ h)) (fun h => h2 (List.mem_cons_of_mem _ h))
  exact ⟨by rw [k.1], k.2⟩
theorem Gq {n : Nat} {c : UInt8} (h : c.toNat < 48) : c ∉ Bx n := fun hc => by have := Ms c hc; omega
theorem VN {t : Tag} : (32 : UInt8) ∉ Eo t := by
 intro h
 rcases List.mem_append.1 h with h | h
 ·exact Gq (by decide) h
 ·rcases List.mem_cons.1 h with h | h
  ·exact absurd h (by decide)
  ·exact Gq (by decide) h
theorem PE {a b : Tag} (ha : Cq a = true) (hb : Cq b = true) (h : Eo a = Eo b) : a = b := by
 obtain ⟨h1, h2⟩ := QT h (Gq (by decide)) (Gq (by decide))
 have h3 := Jw h1
 have h4 := Jw h2
 obtain ⟨at', ap⟩ := a
 obtain ⟨bt, bp⟩ := b
 simp only [Cq, Bool.or_eq_true, Bool.and_eq_true, beq_iff_eq, decide_eq_true_eq] at ha hb
 dsimp only at h3 h4
 simp only [Tag.mk.injEq]
 omega
theorem Fm (a b : Nat) : (a : Int).tmod (b : Int) = ((a % b : Nat) : Int) := by
 rw [Int.tmod_eq_emod_of_nonneg (by omega)]; rfl
theorem HC (a b : Nat) : (a : Int).tdiv (b : Int) = ((a / b : Nat) : Int) := by
 rw [Int.tdiv_eq_ediv_of_nonneg (by omega)]; rfl
theorem CJ (l : List UInt8) : ByteArray.mk l.toArray = A8 l := rfl
theorem Bp {P : Program} (t : TypeId) (x y : Operand) {a : List UInt8} {s : ByteArray} (h : a.length + s.size ≤ 9223372036854775807) (w : World) : bo P .add t x y (.string (A8 a)) (.string s) w = some (.string (A8 (a ++ s.toList)), w) := by
 rw [Qc t x y (by rw [AJ]; exact h) w]
 congr 3
 rw [← Qp s, Us, Ay]
theorem PF (x : Int) : bytesOf [x] = A8 [UInt8.ofNat x.toNat] := by
 apply PD
 rw [Ay, ByteArray.toList_eq]
 rfl
theorem PG {x : Int} (h0 : 0 ≤ x) (h1 : x ≤ 255) : IntKind.u8.wrap x = x := by
 simp only [IntKind.wrap, IntKind.bits, IntKind.signed, Bool.false_and]
 simp
 omega
theorem PH {v : Value} [One v] : v.oneCell' = true := One.h.2
theorem qz : type_of% (And.intro @World.size_alloc (And.intro @size_setRow (And.intro @Ae (And.intro @List.length_set.{0} (And.intro @Array.length_toList.{0} (And.intro @List.length_cons.{0} (And.intro @List.length_nil.{0} (And.intro @List.length_append.{0} (And.intro @AJ (And.intro @List.all_cons.{0} (And.intro @List.all_nil.{0} (And.intro @PH (And.intro @Bool.and_self @Bool.and_true))))))))))))) := And.intro @World.size_alloc (And.intro @size_setRow (And.intro @Ae (And.intro @List.length_set.{0} (And.intro @Array.length_toList.{0} (And.intro @List.length_cons.{0} (And.intro @List.length_nil.{0} (And.intro @List.length_append.{0} (And.intro @AJ (And.intro @List.all_cons.{0} (And.intro @List.all_nil.{0} (And.intro @PH (And.intro @Bool.and_self @Bool.and_true))))))))))))
theorem qs : type_of% (And.intro @Ah (And.intro @Ar (And.intro @Ac (And.intro @wrap_small (And.intro @Kr (And.intro @Mi (And.intro @Pj (And.intro @NQ (And.intro @Pk (And.intro @Pl (And.intro @VD (And.intro @VE (And.intro @Xc @Md))))))))))))) := And.intro @Ah (And.intro @Ar (And.intro @Ac (And.intro @wrap_small (And.intro @Kr (And.intro @Mi (And.intro @Pj (And.intro @NQ (And.intro @Pk (And.intro @Pl (And.intro @VD (And.intro @VE (And.intro @Xc @Md))))))))))))
theorem qm : type_of% (And.intro @QM (And.intro @Pp (And.intro @KS (And.intro @Pq (And.intro @Pr (And.intro @Ml (And.intro @NU (And.intro @Dt (And.intro @Jo (And.intro @Jp (And.intro @Pm (And.intro @Pn (And.intro @Po (And.intro @HM (And.intro @NR (And.intro @NS @GI)))))))))))))))) := And.intro @QM (And.intro @Pp (And.intro @KS (And.intro @Pq (And.intro @Pr (And.intro @Ml (And.intro @NU (And.intro @Dt (And.intro @Jo (And.intro @Jp (And.intro @Pm (And.intro @Pn (And.intro @Po (And.intro @HM (And.intro @NR (And.intro @NS @GI)))))))))))))))
theorem qk : type_of% (And.intro @Ah (And.intro @Ac @BU)) := And.intro @Ah (And.intro @Ac @BU)
theorem xD {p : Prop} (h : p := by first | assumption | ((try simp only [qz]) <;> omega) | fail) : p := h
theorem xF {p : Prop} (h : p := by first | assumption | ((try simp only [qz, In]) <;> omega) | fail) : p := h
theorem xE {w w' : World} (h : Ext w w' := by (repeat (first | exact Ext.rfl | assumption | (refine Ext.al ?_ _) | (refine Ext.dw ?_) | (refine Ext.set ?_ (by (try simp only [qz]); omega) _) | (refine Ext.tr ?_ (by assumption))))) : Ext w w' := h
theorem xM {S : Nat → Prop} {w w' : World} (h : Mod S w w' := by (repeat (first | exact Mod.rfl | assumption | (refine Mod.al ?_ _) | (refine Mod.TI ?_) | (refine Mod.AM ?_ (by first | (left; (try simp only [qz]); omega) | (right; assumption) | (right; simp; done)) _) | (refine Mod.ex ?_ (by assumption))))) : Mod S w w' := h
theorem xA {p : Prop} (h : p := by first | omega | assumption | rfl | exact congrArg i64 (by omega) | (simp; done) | (simp; omega)) : p := h
theorem xB {p : Prop} (h : p := by (try simp only [qz]); omega) : p := h
theorem xN {p : Prop} (h : p := by (try simp only [In, qz] at *); omega) : p := h
theorem xI {p : Prop} (h : p := by intro x hx h; (try dsimp only at h); (try simp only [In, qz] at *); omega) : p := h
theorem xV {p : Prop} (h : p := by intro b h1 h2; (try dsimp only at h1); (try simp only [In, qz] at *); omega) : p := h
end Go.Ev
