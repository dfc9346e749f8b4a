/- A part of the proof, without conditions. -/
import Derived.ProofKit
import Derived.LaidMore
import Derived.OpenShut
import Derived.MakeChecks
import Derived.ChangeBears2
import Derived.Test.YtkhbpmhagpljiaaGreatDoorEvI
set_option linter.unusedVariables false
set_option linter.unusedSimpArgs false
set_option linter.deprecated false
namespace Go.Ev
open Go
theorem Lb {P : Program} {W : World} {k : IntKind} {n : Nat} {e t : TypeId} {g : Nat} {name : String} {Dc : List Int} {fuel : Nat} {cs : Array Value} {p : List MemPlace}
  (ht : P.underlying t = some (.array n e)) (he : P.underlying e = some (.int k)) (hce : P.cellsOf e = 1) (hg : P.globalNamed name = some g) (hv : W.var? P name = some cs)
  (h : DataW.trod (fun _ => ()) P W 0 (fun _ => true) false fuel t cs.toList = some (.agg (Dc.map fun x => .lit (.int k x)), p)) : At W g 0 (Dc.map fun x => Value.int k x) := by
 obtain ⟨xs, m, rfl, hx, hlen, hn, hel⟩ := DataW.trod_array ht h
 simp only [Prod.mk.injEq, DataW.agg.injEq] at hx
 intro j v hj
 rw [List.getElem?_map] at hj
 obtain ⟨a, ha, rfl⟩ := Option.map_eq_some_iff.1 hj
 have hlv : Dc.length = xs.length := by simpa using congrArg List.length hx.1
 have hjl : j < xs.length := by have := (List.getElem?_eq_some_iff.1 ha).1; omega
 have h1 := hel j Ad
 rw [List.getElem?_eq_getElem hjl, hce, Nat.mul_one] at h1
 obtain ⟨q, h2, h3, _⟩ := DataW.trod_int he h1
 have h4 : (Dc.map fun x => (DataW.lit (.int k x) : DataW Unit))[j]? = (xs.map (·.1))[j]? := by rw [hx.1]
 rw [List.getElem?_map, ha, List.getElem?_map, List.getElem?_eq_getElem hjl, h3] at h4
 simp only [Option.map_some, Option.some.injEq, DataW.lit.injEq, Lit.int.injEq, true_and] at h4
 have hc := World.var?_cell hg hv j
 have h5 : cs.toList[j]? = some (.int k q) := by
  have : ((cs.toList.drop j).take 1)[0]? = some (.int k q) := by rw [h2]; rfl
  rw [List.getElem?_take_of_lt Ad, List.getElem?_drop] at this
  simpa using this
 rw [Nat.zero_add, ← cell?_eq, hc, h4]
 simpa using h5
theorem NI {P : Program} {W : World} {ms} {t : TypeId} {g : Nat} {name nm : String} {d : DataW Unit} {fuel : Nat} {cs : Array Value} {p : List MemPlace}
  (ht : P.underlying t = some (.interface ms)) (hg : P.globalNamed name = some g) (hv : W.var? P name = some cs)
  (h : DataW.trod (fun _ => ()) P W 0 (fun _ => true) false fuel t cs.toList = some (.iface nm d, p)) : ∃ v, AR (hp W g) 0 = some v ∧ ∃ u x, v = .iface u x := by
 have hc := World.var?_cell hg hv 0
 cases fuel with
 | zero => simp [DataW.trod] at h
 | succ f =>
  obtain ⟨u, x, hcs⟩ : ∃ u x, cs.toList = [.iface u x] := by
   generalize cs.toList = l at h
   unfold DataW.trod at h
   rw [ht] at h
   match l, h with
   | [.iface u x], _ => exact ⟨u, x, rfl⟩
   | [.nilIface], h => simp at h
  refine ⟨.iface u x, ?_, u, x, rfl⟩
  rw [← cell?_eq, hc]
  have : cs[0]? = cs.toList[0]? := by simp
  rw [this, hcs]
  rfl
end Go.Ev
namespace Go.Ev
open Go Go.RowKit
def dg (k : Nat) : UInt8 := UInt8.ofNat (48 + k)
def Bn (n : Nat) : List UInt8 := if h : n < 10 then [dg n] else Bn (n / 10) ++ [dg (n % 10)]
 termination_by n
 decreasing_by omega
def AZ (l : List UInt8) : ByteArray := ⟨l.toArray⟩
theorem Az (l : List UInt8) : (AZ l).toList = l := by rw [ByteArray.toList_eq]; simp [AZ]
theorem AA (l : List UInt8) : (AZ l).size = l.length := by simp [AZ, ByteArray.size]
theorem Rr (s : ByteArray) : AZ s.toList = s := by
 rw [ByteArray.toList_eq]
 cases s
 simp [AZ]
theorem QH {a b : ByteArray} (h : a.toList = b.toList) : a = b := by rw [← Rr a, h, Rr]
theorem Vo (a b : List UInt8) : AZ a ++ AZ b = AZ (a ++ b) := by
 apply QH
 rw [Az, ByteArray.toList_eq, ByteArray.data_append]
 simp [AZ]
theorem Dy {n : Nat} (h : n < 10) : Bn n = [dg n] := by rw [Bn, dif_pos h]
theorem EU {n : Nat} (h : ¬ n < 10) : Bn n = Bn (n / 10) ++ [dg (n % 10)] := by rw [Bn, dif_neg h]
theorem BL (n : Nat) : 1 ≤ (Bn n).length ∧ (Bn n).length ≤ n + 1 := by
 induction n using Nat.strongRecOn with
 | _ n ih =>
  by_cases h : n < 10
  ·rw [Dy h]; simp
  ·rw [EU h, List.length_append]
   have := ih (n / 10) Ad
   simp only [List.length_singleton]
   omega
theorem Zh (k : Nat) (h : k < 10) : (dg k).toNat = 48 + k := by
 unfold dg
 rw [UInt8.toNat_ofNat']; exact Nat.mod_eq_of_lt Ad
theorem Kl {n : Nat} : ∀ c ∈ Bn n, 48 ≤ c.toNat ∧ c.toNat ≤ 57 := by
 induction n using Nat.strongRecOn with
 | _ n ih =>
  by_cases h : n < 10
  ·rw [Dy h]
   intro c hc
   rw [List.mem_singleton.1 hc, Zh n h]; omega
  ·rw [EU h]
   intro c hc
   rcases List.mem_append.1 hc with hc | hc
   ·exact ih _ Ad c hc
   ·rw [List.mem_singleton.1 hc, Zh _ (Nat.mod_lt _ Ad)]; omega
def WK (l : List UInt8) : Nat := l.foldl (fun a c => a * 10 + (c.toNat - 48)) 0
theorem O8 (n : Nat) : WK (Bn n) = n := by
 induction n using Nat.strongRecOn with
 | _ n ih =>
  by_cases h : n < 10
  ·rw [Dy h]; simp only [WK, List.foldl_cons, List.foldl_nil, Zh n h]; omega
  ·rw [EU h]
   have := ih (n / 10) Ad
   simp only [WK, List.foldl_append, List.foldl_cons, List.foldl_nil, Zh _ (Nat.mod_lt n (by omega : 10 > 0))] at this ⊢
   rw [this]; omega
theorem Km {a b : Nat} (h : Bn a = Bn b) : a = b := by rw [← O8 a, h, O8]
def C6 (t : Tag) : List UInt8 := Bn t.t.toNat ++ (46 :: Bn t.p.toNat)
theorem RV {c : UInt8} : ∀ {a a' b b' : List UInt8}, a ++ c :: b = a' ++ c :: b' → c ∉ a → c ∉ a' → a = a' ∧ b = b'
 | [], [], b, b', h, _, _ => by simpa using h
 | [], x :: a', b, b', h, _, h2 => by
  simp only [List.nil_append, List.cons_append, List.cons.injEq] at h
  exact absurd (by rw [h.1]; exact List.mem_cons_self) h2
 | x :: a, [], b, b', h, h1, _ => by
  simp only [List.nil_append, List.cons_append, List.cons.injEq] at h
  exact absurd (by rw [h.1]; exact List.mem_cons_self) h1
 | x :: a, y :: a', b, b', h, h1, h2 => by
  simp only [List.cons_append, List.cons.injEq] at h
  obtain ⟨rfl, h⟩ := h
  have k := RV h (fun h => h1 (List.mem_cons_of_mem _ h)) (fun h => h2 (List.mem_cons_of_mem _ h))
  exact ⟨by rw [k.1], k.2⟩
theorem G7 {n : Nat} {c : UInt8} (h : c.toNat < 48) : c ∉ Bn n := fun hc => by have := Kl c hc; omega
theorem WL {t : Tag} : (32 : UInt8) ∉ C6 t := by
 intro h
 rcases List.mem_append.1 h with h | h
 ·exact G7 AD h
 ·rcases List.mem_cons.1 h with h | h
  ·exact absurd h AD
  ·exact G7 AD h
theorem NJ {a b : Tag} (ha : Cc a = true) (hb : Cc b = true) (h : C6 a = C6 b) : a = b := by
 obtain ⟨h1, h2⟩ := RV h (G7 AD) (G7 AD)
 have h3 := Km h1
 have h4 := Km h2
 obtain ⟨at', ap⟩ := a
 obtain ⟨bt, bp⟩ := b
 simp only [Cc, Bool.or_eq_true, Bool.and_eq_true, beq_iff_eq, decide_eq_true_eq] at ha hb
 dsimp only at h3 h4
 simp only [Tag.mk.injEq]
 omega
theorem FU (a b : Nat) : (a : Int).tmod (b : Int) = ((a % b : Nat) : Int) := by
 rw [Int.tmod_eq_emod_of_nonneg Ad]; rfl
theorem Ij (a b : Nat) : (a : Int).tdiv (b : Int) = ((a / b : Nat) : Int) := by
 rw [Int.tdiv_eq_ediv_of_nonneg Ad]; rfl
theorem Dg (l : List UInt8) : ByteArray.mk l.toArray = AZ l := rfl
theorem Ba {P : Program} (t : TypeId) (x y : Operand) {a : List UInt8} {s : ByteArray} (h : a.length + s.size ≤ 9223372036854775807) (w : World) : bo P .add t x y (.string (AZ a)) (.string s) w = some (.string (AZ (a ++ s.toList)), w) := by
 rw [Rf t x y (by rw [AA]; exact h) w]
 congr 3
 rw [← Rr s, Vo, Az]
theorem QI (x : Int) : bytesOf [x] = AZ [UInt8.ofNat x.toNat] := by
 apply QH
 rw [Az, ByteArray.toList_eq]
 rfl
theorem QJ {x : Int} (h0 : 0 ≤ x) (h1 : x ≤ 255) : IntKind.u8.wrap x = x := by
 simp only [IntKind.wrap, IntKind.bits, IntKind.signed, Bool.false_and]
 simp
 omega
theorem QK {v : Value} [One v] : v.oneCell' = true := One.h.2
theorem qz : type_of% (And.intro @World.size_alloc (And.intro @size_setRow (And.intro @Ak (And.intro @List.length_set.{0} (And.intro @Array.length_toList.{0} (And.intro @List.length_cons.{0} (And.intro @List.length_nil.{0} (And.intro @List.length_append.{0} (And.intro @AA (And.intro @List.all_cons.{0} (And.intro @List.all_nil.{0} (And.intro @QK (And.intro @Bool.and_self @Bool.and_true))))))))))))) := And.intro @World.size_alloc (And.intro @size_setRow (And.intro @Ak (And.intro @List.length_set.{0} (And.intro @Array.length_toList.{0} (And.intro @List.length_cons.{0} (And.intro @List.length_nil.{0} (And.intro @List.length_append.{0} (And.intro @AA (And.intro @List.all_cons.{0} (And.intro @List.all_nil.{0} (And.intro @QK (And.intro @Bool.and_self @Bool.and_true))))))))))))
theorem qs : type_of% (And.intro @Ag (And.intro @Av (And.intro @Ac (And.intro @wrap_small (And.intro @Li (And.intro @Nv (And.intro @Qo (And.intro @OY (And.intro @Qp (And.intro @Qq (And.intro @Yk (And.intro @Yl (And.intro @Ym @Nq))))))))))))) := And.intro @Ag (And.intro @Av (And.intro @Ac (And.intro @wrap_small (And.intro @Li (And.intro @Nv (And.intro @Qo (And.intro @OY (And.intro @Qp (And.intro @Qq (And.intro @Yk (And.intro @Yl (And.intro @Ym @Nq))))))))))))
theorem qm : type_of% (And.intro @RO (And.intro @Qu (And.intro @LL (And.intro @Qv (And.intro @Qw (And.intro @Ny (And.intro @O2 (And.intro @DL (And.intro @Ke (And.intro @Kf (And.intro @Qr (And.intro @Qs (And.intro @Qt (And.intro @Iv (And.intro @OZ (And.intro @O0 @Hp)))))))))))))))) := And.intro @RO (And.intro @Qu (And.intro @LL (And.intro @Qv (And.intro @Qw (And.intro @Ny (And.intro @O2 (And.intro @DL (And.intro @Ke (And.intro @Kf (And.intro @Qr (And.intro @Qs (And.intro @Qt (And.intro @Iv (And.intro @OZ (And.intro @O0 @Hp)))))))))))))))
theorem qk : type_of% (And.intro @Ag (And.intro @Ac @BW)) := And.intro @Ag (And.intro @Ac @BW)
theorem xD {p : Prop} (h : p := by first | assumption | ((try simp only [qz]) <;> omega) | fail) : p := h
theorem xF {p : Prop} (h : p := by first | assumption | ((try simp only [qz, In]) <;> omega) | fail) : p := h
theorem xE {w w' : World} (h : Ext w w' := by (repeat (first | exact Ext.rfl | assumption | (refine Ext.al ?_ _) | (refine Ext.dw ?_) | (refine Ext.set ?_ (by (try simp only [qz]); omega) _) | (refine Ext.tr ?_ (by assumption))))) : Ext w w' := h
theorem xM {S : Nat → Prop} {w w' : World} (h : Mod S w w' := by (repeat (first | exact Mod.rfl | assumption | (refine Mod.al ?_ _) | (refine Mod.Ud ?_) | (refine Mod.AQ ?_ (by first | (left; (try simp only [qz]); omega) | (right; assumption) | (right; simp; done)) _) | (refine Mod.ex ?_ (by assumption))))) : Mod S w w' := h
theorem xA {p : Prop} (h : p := by first | omega | assumption | rfl | exact congrArg i64 Ad | (simp; done) | (simp; omega)) : p := h
theorem xB {p : Prop} (h : p := by (try simp only [qz]); omega) : p := h
theorem xN {p : Prop} (h : p := by (try simp only [In, qz] at *); omega) : p := h
theorem xI {p : Prop} (h : p := by intro x hx h; (try dsimp only at h); (try simp only [In, qz] at *); omega) : p := h
theorem xV {p : Prop} (h : p := by intro b h1 h2; (try dsimp only at h1); (try simp only [In, qz] at *); omega) : p := h
end Go.Ev
