/- A part of the proof, without conditions. -/
import Derived.Test.YtkhbpmhagpljiaaGreatDoorT6
import Derived.Test.YtkhbpmhagpljiaaGreatDoorEvLv
import Derived.Test.YtkhbpmhagpljiaaGreatDoorEvL
import Derived.Test.YtkhbpmhagpljiaaGreatDoorEvTa
set_option linter.unusedVariables false
set_option linter.unusedSimpArgs false
set_option linter.deprecated false
set_option maxRecDepth 100000
set_option maxHeartbeats 1000000
namespace Go.Proofs.YtkhbpmhagpljiaaGreatDoor.X
open Go Go.Ev Go.RowKit
open Option (bind_some)
theorem Mw : ∀ (k v : Nat), v < 10 ^ (k + 1) → (Bn v).length ≤ k + 1
 | 0, v, h => by rw [Dy (by simpa using h)]; simp
 | k + 1, v, h => by
  by_cases h10 : v < 10
  ·rw [Dy h10]; simp
  ·rw [EU h10, List.length_append]
   have := Mw k (v / 10) (by rw [Nat.pow_succ] at h; omega)
   simp
   omega
theorem TG {l s0 : List UInt8} {x : UInt8} (hl : l.length ≤ 281474976710656) {e : Env} {w : World} (e0 : e 0 = .string (AZ l)) (e5 : e 5 = .string (AZ (x :: s0))) :
  Af (Bo e w) fun r => Ext w r.2 ∧ ∃ m q, r.1 = .tuple #[i64 m, I2 q] ∧ (q = 0 ∨ q = 2) ∧ ∀ v, GG 0 l = some v → x ≠ 45 → q = 0 ∧ m = v := by
 rw [FD]
 obtain ⟨c, w1, hcv, E1, hce, hsz⟩ := RX (P := P) (src := 9) (dst := 22) (e := 5) (u := .string) (by kernel_rfl) (by kernel_rfl) (by kernel_rfl) (AZ l) w
 have zE1 := E1.size
 try simp only [qz] at zE1
 rw [AA] at hcv
 rw [Az] at hce
 refine Af.post fun Q hQ => ?_
 simp (disch := first | exact xD | fail) [-bind_some, -Aa, -Ab, e0, hcv]
 refine Af.mono (Wd (l := l) (x := x) (s0 := s0) hl l.length 0 _ _ 0 Ad rfl rfl rfl rfl xA hce) ?_
 rintro ⟨_, w2⟩ ⟨rfl, m, q, rfl, h3, h4⟩
 exact hQ _ ⟨E1, m, q, rfl, h3, h4⟩
theorem TH : IntKind.u64.wrap (1 * 2 ^ min (64 : Int).toNat IntKind.u64.bits) = 0 := by decide
theorem az {g c : Nat} {l : List UInt8} (hl : l.length ≤ 281474976710656) : ∀ (d k : Nat) (e : Env) (w : World) (n : Int), k + d = l.length → e 99 = .slice (some ⟨g, 0, none⟩) l.length c → e 100 = i64 l.length → e 101 = i64 k → e 8 = .bool false → e 12 = .bool false → e 1 = i64 10 → e 13 = .int .u64 n → e 10 = .int .u64 1844674407370955162 → e 11 = .int .u64 18446744073709551615 →
  (∀ (j : Nat) b, l[j]? = some b → AR (hp w g) j = some (.int .u8 b.toNat)) →
  Af (Bh e w) fun r => r.2 = w ∧ ∃ m q, r.1 = .tuple #[.int .u64 m, I2 q] ∧ (q = 0 ∨ q = 1 ∨ q = 2) := by
 intro d
 induction d with
 | zero =>
  intro k e w n hd e99 e100 e101 e8 e12 e1 e13 e10 e11 hc
  rw [B7]
  obtain rfl : k = l.length := by omega
  refine Af.post fun Q hQ => ?_
  simp (disch := first | exact xD | fail) [-bind_some, -Aa, -Ab, e100, e101, e12, e13]
  exact hQ _ ⟨rfl, n, 0, rfl, Or.inl rfl⟩
 | succ d ih =>
  intro k e w n hd e99 e100 e101 e8 e12 e1 e13 e10 e11 hc
  rw [B7]
  have hlt : k < l.length := by omega
  obtain ⟨b, hb, hdr⟩ := An hlt
  have p0 : AR (hp w g) k = some (.int .u8 b.toNat) := hc k b hb
  have j4 : ∀ (e : Env) (w : World) (n : Int), e 99 = .slice (some ⟨g, 0, none⟩) l.length c → e 100 = i64 l.length → e 101 = i64 k → e 8 = .bool false → e 12 = .bool false → e 1 = i64 10 → e 13 = .int .u64 n → e 10 = .int .u64 1844674407370955162 → e 11 = .int .u64 18446744073709551615 →
    (∀ (j : Nat) b, l[j]? = some b → AR (hp w g) j = some (.int .u8 b.toNat)) →
    Af (Bi e w) fun r => r.2 = w ∧ ∃ m q, r.1 = .tuple #[.int .u64 m, I2 q] ∧ (q = 0 ∨ q = 1 ∨ q = 2) := by
   intro e w n e99 e100 e101 e8 e12 e1 e13 e10 e11 hc
   rw [Eg]
   refine Af.post fun Q hQ => ?_
   simp (disch := first | exact xD | fail) [-bind_some, qs, -Aa, -Ab, e101]
   exact Af.mono (ih (k + 1) _ _ n Ad xA xA xA xA xA xA xA xA xA hc) hQ
  have j5 : ∀ (e : Env) (w : World) (y n : Int), e 99 = .slice (some ⟨g, 0, none⟩) l.length c → e 100 = i64 l.length → e 101 = i64 k → e 8 = .bool false → e 12 = .bool false → e 1 = i64 10 → e 13 = .int .u64 n → e 10 = .int .u64 1844674407370955162 → e 11 = .int .u64 18446744073709551615 → e 16 = .int .u8 y →
    (∀ (j : Nat) b, l[j]? = some b → AR (hp w g) j = some (.int .u8 b.toNat)) →
    Af (Bj e w) fun r => r.2 = w ∧ ∃ m q, r.1 = .tuple #[.int .u64 m, I2 q] ∧ (q = 0 ∨ q = 1 ∨ q = 2) := by
   intro e w y n e99 e100 e101 e8 e12 e1 e13 e10 e11 e16 hc
   rw [Eh]
   have h10 : IntKind.u8.wrap 10 = 10 := by decide
   have h10' : IntKind.u64.wrap 10 = 10 := by decide
   refine Af.post fun Q hQ => ?_
   by_cases hy : 10 ≤ y
   ·simp (disch := first | exact xD | fail) [-bind_some, -Aa, -Ab, e16, e1, h10, hy, BV]
    exact hQ _ ⟨rfl, 0, 2, rfl, Or.inr (Or.inr rfl)⟩
   by_cases hn : 1844674407370955162 ≤ n
   ·simp (disch := first | exact xD | fail) [-bind_some, -Aa, -Ab, e16, e1, e13, e10, e11, h10, hy, hn, BV]
    exact hQ _ ⟨rfl, _, 1, rfl, Or.inr (Or.inl rfl)⟩
   obtain ⟨m1, hm1⟩ : ∃ m1, m1 = IntKind.u64.wrap (n * 10) := ⟨_, rfl⟩
   obtain ⟨m2, hm2⟩ : ∃ m2, m2 = IntKind.u64.wrap (m1 + IntKind.u64.wrap y) := ⟨_, rfl⟩
   by_cases h3 : m2 < m1
   ·simp (disch := first | exact xD | fail) [-bind_some, -Aa, -Ab, e16, e1, e13, e10, e11, h10, h10', hy, hn, BV, Io, ← hm1, ← hm2, h3]
    exact hQ _ ⟨rfl, _, 1, rfl, Or.inr (Or.inl rfl)⟩
   by_cases h4 : (18446744073709551615 : Int) < m2
   ·simp (disch := first | exact xD | fail) [-bind_some, -Aa, -Ab, e16, e1, e13, e10, e11, h10, h10', hy, hn, BV, Io, ← hm1, ← hm2, h3, h4]
    exact hQ _ ⟨rfl, _, 1, rfl, Or.inr (Or.inl rfl)⟩
   ·simp (disch := first | exact xD | fail) [-bind_some, -Aa, -Ab, e16, e1, e13, e10, e11, h10, h10', hy, hn, Io, ← hm1, ← hm2, h3, h4]
    exact Af.mono (j4 _ _ m2 xA xA xA xA xA xA xA xA xA hc) hQ
  obtain ⟨z, hz⟩ : ∃ z, ((b.toNat : Int) == 95) = z := ⟨_, rfl⟩
  refine Af.post fun Q hQ => ?_
  cases z
  ·by_cases h48 : (48 : Int) ≤ b.toNat
   ·by_cases h57 : (b.toNat : Int) ≤ 57
    ·simp (disch := first | exact xD | fail) [-bind_some, -Aa, -Ab, e99, e100, e101, hlt, HM, p0, e8, hz, h48, h57]
     exact Af.mono (j5 _ _ _ n xA xA xA xA xA xA xA xA xA rfl hc) hQ
    ·simp (disch := first | exact xD | fail) [-bind_some, -Aa, -Ab, e99, e100, e101, hlt, HM, p0, e8, hz, h48, h57]
     refine Af.bind (Dx _ _) ?_
     rintro _ ⟨y, rfl⟩
     by_cases h97 : 97 ≤ y
     ·simp (disch := first | exact xD | fail) [-bind_some, -Aa, -Ab, h97]
      refine Af.bind (Dx _ _) ?_
      rintro _ ⟨y2, rfl⟩
      by_cases h122 : y2 ≤ 122
      ·simp (disch := first | exact xD | fail) [-bind_some, -Aa, -Ab, h122]
       refine Af.bind (Dx _ _) ?_
       rintro _ ⟨y3, rfl⟩
       simp (disch := first | exact xD | fail) [-bind_some, -Aa, -Ab]
       exact Af.mono (j5 _ _ _ n xA xA xA xA xA xA xA xA xA rfl hc) hQ
      ·simp (disch := first | exact xD | fail) [-bind_some, -Aa, -Ab, h122, BV]
       exact hQ _ ⟨rfl, 0, 2, rfl, Or.inr (Or.inr rfl)⟩
     ·simp (disch := first | exact xD | fail) [-bind_some, -Aa, -Ab, h97, BV]
      exact hQ _ ⟨rfl, 0, 2, rfl, Or.inr (Or.inr rfl)⟩
   ·simp (disch := first | exact xD | fail) [-bind_some, -Aa, -Ab, e99, e100, e101, hlt, HM, p0, e8, hz, h48]
    refine Af.bind (Dx _ _) ?_
    rintro _ ⟨y, rfl⟩
    by_cases h97 : 97 ≤ y
    ·simp (disch := first | exact xD | fail) [-bind_some, -Aa, -Ab, h97]
     refine Af.bind (Dx _ _) ?_
     rintro _ ⟨y2, rfl⟩
     by_cases h122 : y2 ≤ 122
     ·simp (disch := first | exact xD | fail) [-bind_some, -Aa, -Ab, h122]
      refine Af.bind (Dx _ _) ?_
      rintro _ ⟨y3, rfl⟩
      simp (disch := first | exact xD | fail) [-bind_some, -Aa, -Ab]
      exact Af.mono (j5 _ _ _ n xA xA xA xA xA xA xA xA xA rfl hc) hQ
     ·simp (disch := first | exact xD | fail) [-bind_some, -Aa, -Ab, h122, BV]
      exact hQ _ ⟨rfl, 0, 2, rfl, Or.inr (Or.inr rfl)⟩
    ·simp (disch := first | exact xD | fail) [-bind_some, -Aa, -Ab, h97, BV]
     exact hQ _ ⟨rfl, 0, 2, rfl, Or.inr (Or.inr rfl)⟩
  ·by_cases h48 : (48 : Int) ≤ b.toNat
   ·by_cases h57 : (b.toNat : Int) ≤ 57
    ·simp (disch := first | exact xD | fail) [-bind_some, -Aa, -Ab, e99, e100, e101, hlt, HM, p0, e8, hz, h48, h57]
     exact Af.mono (j5 _ _ _ n xA xA xA xA xA xA xA xA xA rfl hc) hQ
    ·simp (disch := first | exact xD | fail) [-bind_some, -Aa, -Ab, e99, e100, e101, hlt, HM, p0, e8, hz, h48, h57]
     refine Af.bind (Dx _ _) ?_
     rintro _ ⟨y, rfl⟩
     by_cases h97 : 97 ≤ y
     ·simp (disch := first | exact xD | fail) [-bind_some, -Aa, -Ab, h97]
      refine Af.bind (Dx _ _) ?_
      rintro _ ⟨y2, rfl⟩
      by_cases h122 : y2 ≤ 122
      ·simp (disch := first | exact xD | fail) [-bind_some, -Aa, -Ab, h122]
       refine Af.bind (Dx _ _) ?_
       rintro _ ⟨y3, rfl⟩
       simp (disch := first | exact xD | fail) [-bind_some, -Aa, -Ab]
       exact Af.mono (j5 _ _ _ n xA xA xA xA xA xA xA xA xA rfl hc) hQ
      ·simp (disch := first | exact xD | fail) [-bind_some, -Aa, -Ab, h122, BV]
       exact hQ _ ⟨rfl, 0, 2, rfl, Or.inr (Or.inr rfl)⟩
     ·simp (disch := first | exact xD | fail) [-bind_some, -Aa, -Ab, h97, BV]
      exact hQ _ ⟨rfl, 0, 2, rfl, Or.inr (Or.inr rfl)⟩
   ·simp (disch := first | exact xD | fail) [-bind_some, -Aa, -Ab, e99, e100, e101, hlt, HM, p0, e8, hz, h48]
    refine Af.bind (Dx _ _) ?_
    rintro _ ⟨y, rfl⟩
    by_cases h97 : 97 ≤ y
    ·simp (disch := first | exact xD | fail) [-bind_some, -Aa, -Ab, h97]
     refine Af.bind (Dx _ _) ?_
     rintro _ ⟨y2, rfl⟩
     by_cases h122 : y2 ≤ 122
     ·simp (disch := first | exact xD | fail) [-bind_some, -Aa, -Ab, h122]
      refine Af.bind (Dx _ _) ?_
      rintro _ ⟨y3, rfl⟩
      simp (disch := first | exact xD | fail) [-bind_some, -Aa, -Ab]
      exact Af.mono (j5 _ _ _ n xA xA xA xA xA xA xA xA xA rfl hc) hQ
     ·simp (disch := first | exact xD | fail) [-bind_some, -Aa, -Ab, h122, BV]
      exact hQ _ ⟨rfl, 0, 2, rfl, Or.inr (Or.inr rfl)⟩
    ·simp (disch := first | exact xD | fail) [-bind_some, -Aa, -Ab, h97, BV]
     exact hQ _ ⟨rfl, 0, 2, rfl, Or.inr (Or.inr rfl)⟩
theorem P7 {l : List UInt8} (hl : l.length ≤ 281474976710656) (w : World) : Af (EV P 103 #[.string (AZ l), i64 10, i64 0] w) fun r => Ext w r.2 ∧ ∃ m q, r.1 = .tuple #[.int .u64 m, I2 q] ∧ (q = 0 ∨ q = 1 ∨ q = 2) := by
 refine Af.post fun Q hQ => ?_
 refine Bw (Fe _ _ _ _) ?_
 by_cases h : l = []
 ·subst h
  simp (disch := first | exact xD | fail) [-bind_some, -Aa, -Ab, Dg, Az, BV]
  exact hQ _ ⟨xE, 0, 2, rfl, Or.inr (Or.inr rfl)⟩
 ·have h' : (l == ([] : List UInt8)) = false := beq_eq_false_iff_ne.2 h
  obtain ⟨c, w1, hcv, E1, hce, hsz⟩ := RX (P := P) (src := 9) (dst := 22) (e := 5) (u := .string) (by kernel_rfl) (by kernel_rfl) (by kernel_rfl) (AZ l) w
  have zE1 := E1.size
  try simp only [qz] at zE1
  rw [AA] at hcv
  rw [Az] at hce
  have h64 : IntKind.u64.wrap (64 : Int) = 64 := by decide
  have hsh : ∀ w, bo P .shl 120 (.const (.int .u64 1)) (.tmp 95) (.int .u64 1) (.int .u64 64) w = some (.int .u64 0, w) := fun w => by
   rw [RY _ _ _ _ _ AD, TH]
  simp (disch := first | exact xD | fail) [-bind_some, qs, -Aa, -Ab, Dg, Az, h', Ed, Ee, Ef, h64, hsh, hcv]
  refine Af.mono (az (l := l) hl l.length 0 _ _ 0 Ad xA xA xA xA xA xA xA xA xA hce) ?_
  rintro ⟨_, w2⟩ ⟨rfl, m, q, rfl, h3⟩
  exact hQ _ ⟨E1, m, q, rfl, h3⟩
theorem Zc (n : Nat) (w : World) : bo P .neq 43 (.tmp n) (.const .nilIface) .nilIface .nilIface w = some (.bool false, w) := NK 43 _ Tryz.underlying43 n .nilIface (Or.inl rfl) w
theorem XX (n : Nat) (u : TypeId) (v : Value) (w : World) : bo P .neq 43 (.tmp n) (.const .nilIface) (.iface u v) .nilIface w = some (.bool true, w) := NK 43 _ Tryz.underlying43 n (.iface u v) (Or.inr ⟨u, v, rfl⟩) w
theorem nq (x y : Operand) (a b : Int) (w : World) : bo P .neq 43 x y (.iface 128 (.int .i64 a)) (.iface 128 (.int .i64 b)) w = some (.bool (!(a == b)), w) := S5 Tryz.underlying43 Tryz.underlying128 (by kernel_rfl) x y a b w
theorem bA (x y : Operand) (a b : Int) (w : World) : bo P .eql 43 x y (.iface 128 (.int .i64 a)) (.iface 128 (.int .i64 b)) w = some (.bool (a == b), w) := SZ Tryz.underlying43 Tryz.underlying128 (by kernel_rfl) x y a b w
theorem Vy : I2 0 = .nilIface := rfl
theorem Vz : I2 1 = .iface 128 (.int .i64 1) := rfl
theorem VA : I2 2 = .iface 128 (.int .i64 2) := rfl
theorem TI : IntKind.u64.wrap (1 * 2 ^ min (63 : Int).toNat IntKind.u64.bits) = 9223372036854775808 := by decide
theorem VB {e : Env} {w : World} {b : Bool} {m : Int} (e2 : e 2 = i64 64) (e8 : e 8 = .bool b) (e9 : e 9 = .int .u64 m) :
  Af (Br e w) fun r => r.2 = w ∧ ∃ m q, r.1 = .tuple #[i64 m, I2 q] ∧ (q = 0 ∨ q = 1 ∨ q = 2) := by
 rw [EA]
 have h64 : IntKind.u64.wrap (63 : Int) = 63 := by decide
 have hsh : ∀ w, bo P .shl 120 (.const (.int .u64 1)) (.tmp 44) (.int .u64 1) (.int .u64 63) w = some (.int .u64 9223372036854775808, w) := fun w => by
  rw [RY _ _ _ _ _ AD, TI]
 refine Af.post fun Q hQ => ?_
 cases b
 ·by_cases h1 : (9223372036854775808 : Int) ≤ m
  ·simp (disch := first | exact xD | fail) [-bind_some, qs, -Aa, -Ab, e2, e8, e9, h64, hsh, h1, BV]
   exact hQ _ ⟨rfl, _, 1, rfl, Or.inr (Or.inl rfl)⟩
  ·simp (disch := first | exact xD | fail) [-bind_some, qs, -Aa, -Ab, e2, e8, e9, h64, hsh, h1, Ca]
   exact hQ _ ⟨rfl, _, 0, rfl, Or.inl rfl⟩
 ·by_cases h1 : (9223372036854775808 : Int) < m
  ·simp (disch := first | exact xD | fail) [-bind_some, qs, -Aa, -Ab, e2, e8, e9, h64, hsh, h1, BV]
   exact hQ _ ⟨rfl, _, 1, rfl, Or.inr (Or.inl rfl)⟩
  ·simp (disch := first | exact xD | fail) [-bind_some, qs, -Aa, -Ab, e2, e8, e9, h64, hsh, h1, Ca]
   exact hQ _ ⟨rfl, _, 0, rfl, Or.inl rfl⟩
theorem TJ {e : Env} {w : World} {b : Bool} {l : List UInt8} (hl : l.length ≤ 281474976710656) (e0 : e 0 = .string (AZ l)) (e1 : e 1 = i64 10) (e2 : e 2 = i64 0) (e8 : e 8 = .bool b) :
  Af (A0 e w) fun r => Ext w r.2 ∧ ∃ m q, r.1 = .tuple #[i64 m, I2 q] ∧ (q = 0 ∨ q = 1 ∨ q = 2) := by
 rw [Ez]
 refine Af.post fun Q hQ => ?_
 simp (disch := first | exact xD | fail) [-bind_some, -Aa, -Ab, e0, e1, e2]
 refine Af.bind (P7 hl _) ?_
 rintro ⟨_, w1⟩ ⟨E1, m, q, rfl, hq⟩
 try dsimp only at E1 m q hq
 have zE1 := E1.size
 try simp only [qz] at zE1
 rcases hq with rfl | rfl | rfl
 ·simp (disch := first | exact xD | fail) [-bind_some, qs, -Aa, -Ab, Vy, Zc]
  refine Af.mono (VB (b := b) (m := m) xA xA xA) ?_
  rintro ⟨_, w2⟩ ⟨rfl, m, q, rfl, h3⟩
  exact hQ _ ⟨E1, m, q, rfl, h3⟩
 ·simp (disch := first | exact xD | fail) [-bind_some, qs, -Aa, -Ab, Vz, XX, nq, BV]
  refine Af.mono (VB (b := b) (m := m) xA xA xA) ?_
  rintro ⟨_, w2⟩ ⟨rfl, m, q, rfl, h3⟩
  exact hQ _ ⟨E1, m, q, rfl, h3⟩
 ·simp (disch := first | exact xD | fail) [-bind_some, qs, -Aa, -Ab, VA, XX, nq, BV]
  exact hQ _ ⟨E1, 0, 2, rfl, Or.inr (Or.inr rfl)⟩
theorem Mx {l : List UInt8} (hl : l.length ≤ 281474976710656) (w : World) : Af (EV P 80 #[.string (AZ l), i64 10, i64 0] w) fun r => Ext w r.2 ∧ ∃ m q, r.1 = .tuple #[i64 m, I2 q] ∧ (q = 0 ∨ q = 1 ∨ q = 2) := by
 refine Af.post fun Q hQ => ?_
 refine Bw (Fo _ _ _ _) ?_
 cases l with
 | nil =>
  simp (disch := first | exact xD | fail) [-bind_some, -Aa, -Ab, Dg, Az, BV]
  exact hQ _ ⟨xE, 0, 2, rfl, Or.inr (Or.inr rfl)⟩
 | cons x l =>
  have h' : ((x :: l) == ([] : List UInt8)) = false := rfl
  have hix := fun w => HI (P := P) (t := 9) (by kernel_rfl) (x :: l) (k := .i64) (i := 0) AD (b := x) rfl w
  have hsl := fun w => CU (P := P) (t := 9) (by kernel_rfl) (x :: l) (i := 1) AD (by rw [List.length_cons]; omega) w
  rw [show (x :: l).drop (1 : Int).toNat = l from rfl] at hsl
  rw [List.length_cons] at hl
  by_cases h43 : (x.toNat : Int) = 43
  ·have h43' : ((x.toNat : Int) == 43) = true := beq_iff_eq.2 h43
   simp (disch := first | exact xD | fail) [-bind_some, -Aa, -Ab, Dg, Az, h', hix, h43', hsl]
   refine Af.mono (TJ (l := l) (b := false) Ad xA xA xA xA) ?_
   rintro r h
   exact hQ _ h
  ·have h43' : ((x.toNat : Int) == 43) = false := beq_eq_false_iff_ne.2 h43
   by_cases h45 : (x.toNat : Int) = 45
   ·have h45' : ((x.toNat : Int) == 45) = true := beq_iff_eq.2 h45
    simp (disch := first | exact xD | fail) [-bind_some, -Aa, -Ab, Dg, Az, h', hix, h43', h45', hsl]
    refine Af.mono (TJ (l := l) (b := true) Ad xA xA xA xA) ?_
    rintro r h
    exact hQ _ h
   ·have h45' : ((x.toNat : Int) == 45) = false := beq_eq_false_iff_ne.2 h45
    simp (disch := first | exact xD | fail) [-bind_some, -Aa, -Ab, Dg, Az, h', hix, h43', h45']
    refine Af.mono (TJ (l := x :: l) (b := false) (by rw [List.length_cons]; omega) xA xA xA xA) ?_
    rintro r h
    exact hQ _ h
structure GlobE (W : World) : Prop where
 g : Glob W
 r : ∃ v, AR (hp W 3) 0 = some v ∧ ∃ t x, v = .iface t x
 s : ∃ v, AR (hp W 2) 0 = some v ∧ ∃ t x, v = .iface t x
theorem AX {w w' : World} (k : Ext w w') {b i : Nat} {v : Value} (h : AR (hp w b) i = some v) : AR (hp w' b) i = some v := by
 have : b < w.heap.size := by
  cases hh : hp w b with
  | none => rw [hh] at h; cases h
  | some o => exact Aq hh
 rw [k.Ai this]
 exact h
theorem GlobE.ext {w w' : World} (h : GlobE w) (k : Ext w w') : GlobE w' := ⟨h.g.ext k, h.r.imp fun v hv => ⟨AX k hv.1, hv.2⟩, h.s.imp fun v hv => ⟨AX k hv.1, hv.2⟩⟩
theorem TK (a b : ByteArray) (t : TypeId) (x : Value) (w : World) : bd P 152 #[(0, .string a), (1, .string b), (2, .iface t x)] w = some (.agg #[.string a, .string b, .iface t x], w) := CC (by kernel_rfl)
theorem Ob {f l : List UInt8} (hl : l.length ≤ 281474976710656) {w : World} (G : GlobE w) : Af (EV P 81 #[.string (AZ f), .string (AZ l)] w) fun r => ∃ b, r.1 = pt b 0 ∧ Ext w r.2 := by
 obtain ⟨v, hv, t, x, rfl⟩ := G.s
 refine Af.post fun Q hQ => ?_
 refine Bw (HA _ _ _) ?_
 simp (disch := first | exact xD | fail) [-bind_some, -Aa, -Ab, hv]
 refine Af.bind (RG hl _) ?_
 rintro ⟨_, w1⟩ ⟨rfl, E1⟩
 try dsimp only at E1
 have zE1 := E1.size
 try simp only [qz] at zE1
 have hv1 := AX ((Cn w).tr E1) hv
 simp (disch := first | exact xD | fail) [-bind_some, -Aa, -Ab, hv1, TK]
 exact hQ _ ⟨_, rfl, xE⟩
theorem Pw {f l : List UInt8} (hl : l.length ≤ 281474976710656) {w : World} (G : GlobE w) : Af (EV P 82 #[.string (AZ f), .string (AZ l)] w) fun r => ∃ b, r.1 = pt b 0 ∧ Ext w r.2 := by
 obtain ⟨v, hv, t, x, rfl⟩ := G.r
 refine Af.post fun Q hQ => ?_
 refine Bw (HW _ _ _) ?_
 simp (disch := first | exact xD | fail) [-bind_some, -Aa, -Ab, hv]
 refine Af.bind (RG hl _) ?_
 rintro ⟨_, w1⟩ ⟨rfl, E1⟩
 try dsimp only at E1
 have zE1 := E1.size
 try simp only [qz] at zE1
 have hv1 := AX ((Cn w).tr E1) hv
 simp (disch := first | exact xD | fail) [-bind_some, -Aa, -Ab, hv1, TK]
 exact hQ _ ⟨_, rfl, xE⟩
theorem TL (v : Value) (w : World) : mi P 131 v w = some (.iface 131 v, w) := VN (by kernel_rfl) v w
theorem SC {f l : List UInt8} {q : Int} (hq : q = 1 ∨ q = 2) (hl : l.length ≤ 281474976710656) {w : World} (G : GlobE w) : Af (EV P 63 #[.string (AZ f), .string (AZ l), i64 0, i64 0, I2 q] w) fun r => ∃ u v, r.1 = .iface u v ∧ Ext w r.2 := by
 refine Af.post fun Q hQ => ?_
 refine Bw (Jr _ _ _ _ _ _) ?_
 rcases hq with rfl | rfl
 ·simp (disch := first | exact xD | fail) [-bind_some, -Aa, -Ab, Vz, BV, bA]
  refine Af.bind (Pw hl G) ?_
  rintro ⟨_, w1⟩ ⟨b, rfl, E1⟩
  try dsimp only at b E1
  have zE1 := E1.size
  try simp only [qz] at zE1
  simp (disch := first | exact xD | fail) [-bind_some, -Aa, -Ab, TL]
  exact hQ _ ⟨_, _, rfl, xE⟩
 ·simp (disch := first | exact xD | fail) [-bind_some, -Aa, -Ab, VA, BV, bA]
  refine Af.bind (Ob hl G) ?_
  rintro ⟨_, w1⟩ ⟨b, rfl, E1⟩
  try dsimp only at b E1
  have zE1 := E1.size
  try simp only [qz] at zE1
  simp (disch := first | exact xD | fail) [-bind_some, -Aa, -Ab, TL]
  exact hQ _ ⟨_, _, rfl, xE⟩
theorem UQ {l : List UInt8} (hl : l.length ≤ 281474976710656) (w : World) : Af (EV P 62 #[.string (AZ l)] w) fun r => Ext w r.2 ∧ ∃ m q, r.1 = .tuple #[i64 m, I2 q] ∧ (q = 0 ∨ q = 1 ∨ q = 2) ∧ ∀ v : Nat, v ≤ 99999999 → l = Bn v → q = 0 ∧ m = v := by
 have hdig : ∀ v : Nat, v ≤ 99999999 → l = Bn v → 0 < l.length ∧ l.length < 19 := by
  rintro v hv rfl
  have := Mw 7 v Ad
  have := BL v
  omega
 refine Af.post fun Q hQ => ?_
 refine Bw (GQ _ _) ?_
 by_cases hf : 0 < l.length ∧ l.length < 19
 ·obtain ⟨x, s0, rfl⟩ : ∃ x s0, l = x :: s0 := by
   cases l with
   | nil => simp at hf
   | cons x s0 => exact ⟨x, s0, rfl⟩
  have hix := fun w => HI (P := P) (t := 9) (by kernel_rfl) (x :: s0) (k := .i64) (i := 0) AD (b := x) rfl w
  have hsl := fun w => CU (P := P) (t := 9) (by kernel_rfl) (x :: s0) (i := 1) AD (by rw [List.length_cons]; omega) w
  rw [show (x :: s0).drop (1 : Int).toNat = s0 from rfl] at hsl
  have hlen : ((x :: s0).length : Int) = (s0.length : Int) + 1 := by rw [List.length_cons]; omega
  rw [List.length_cons] at hf
  have hnd : ∀ v : Nat, v ≤ 99999999 → x :: s0 = Bn v → 48 ≤ x.toNat ∧ x.toNat ≤ 57 := by
   intro v hv he
   obtain ⟨c, l, h1, h2, h3⟩ := Pc v
   rw [h1] at he
   rw [(List.cons.inj he).1]
   exact ⟨h2, h3⟩
  by_cases hsg : x.toNat = 45 ∨ x.toNat = 43
  ·have hno : ∀ v : Nat, v ≤ 99999999 → x :: s0 = Bn v → False := fun v hv he => by have := hnd v hv he; omega
   have hj : ∀ (e : Env) (w' : World), e 0 = .string (AZ s0) → e 5 = .string (AZ (x :: s0)) → Ext w w' → Af (Bo e w') Q := by
    intro e w' e0 e5 E0
    have zE0 := E0.size
    try simp only [qz] at zE0
    refine Af.mono (TG (l := s0) Ad e0 e5) ?_
    rintro ⟨_, w2⟩ ⟨E2, m, q, rfl, h3, h4⟩
    have zE2 := E2.size
    try simp only [] at zE2
    exact hQ _ ⟨E0.tr E2, m, q, rfl, by omega, fun v hv he => (hno v hv he).elim⟩
   have hs0 : s0.length < 1 ∨ ¬ s0.length < 1 := by omega
   rcases hs0 with hs0 | hs0
   ·rcases hsg with h45 | h43
    ·have h45' : ((x.toNat : Int) == 45) = true := beq_iff_eq.2 Ad
     simp (disch := first | exact xD | fail) [-bind_some, -Aa, -Ab, AA, show (s0.length : Int) + 1 < 19 by omega, hix, h45', hsl, show (s0.length : Int) < 1 by omega, BV]
     exact hQ _ ⟨xE, 0, 2, rfl, by omega, fun v hv he => (hno v hv he).elim⟩
    ·have h45' : ((x.toNat : Int) == 45) = false := beq_eq_false_iff_ne.2 Ad
     have h43' : ((x.toNat : Int) == 43) = true := beq_iff_eq.2 Ad
     simp (disch := first | exact xD | fail) [-bind_some, -Aa, -Ab, AA, show (s0.length : Int) + 1 < 19 by omega, hix, h45', h43', hsl, show (s0.length : Int) < 1 by omega, BV]
     exact hQ _ ⟨xE, 0, 2, rfl, by omega, fun v hv he => (hno v hv he).elim⟩
   ·rcases hsg with h45 | h43
    ·have h45' : ((x.toNat : Int) == 45) = true := beq_iff_eq.2 Ad
     simp (disch := first | exact xD | fail) [-bind_some, -Aa, -Ab, AA, show (s0.length : Int) + 1 < 19 by omega, hix, h45', hsl, show ¬ (s0.length : Int) < 1 by omega]
     exact hj _ _ xA xA xE
    ·have h45' : ((x.toNat : Int) == 45) = false := beq_eq_false_iff_ne.2 Ad
     have h43' : ((x.toNat : Int) == 43) = true := beq_iff_eq.2 Ad
     simp (disch := first | exact xD | fail) [-bind_some, -Aa, -Ab, AA, show (s0.length : Int) + 1 < 19 by omega, hix, h45', h43', hsl, show ¬ (s0.length : Int) < 1 by omega]
     exact hj _ _ xA xA xE
  ·have h45' : ((x.toNat : Int) == 45) = false := beq_eq_false_iff_ne.2 Ad
   have h43' : ((x.toNat : Int) == 43) = false := beq_eq_false_iff_ne.2 Ad
   simp (disch := first | exact xD | fail) [-bind_some, -Aa, -Ab, AA, show (s0.length : Int) + 1 < 19 by omega, hix, h45', h43']
   refine Af.mono (TG (l := x :: s0) (x := x) (s0 := s0) hl xA xA) ?_
   rintro ⟨_, w2⟩ ⟨E2, m, q, rfl, h3, h4⟩
   have zE2 := E2.size
   try simp only [] at zE2
   refine hQ _ ⟨E2, m, q, rfl, by omega, fun v hv he => ?_⟩
   exact h4 v (by rw [he]; exact Pb v Ad) (fun hx => by rw [hx] at hsg; exact hsg (Or.inl rfl))
 ·have hno : ∀ v : Nat, v ≤ 99999999 → l = Bn v → False := fun v hv he => hf (hdig v hv he)
  have hf' : ¬ (0 < l.length) ∨ (0 < l.length ∧ ¬ (l.length : Int) < 19) := by omega
  rcases hf' with h0 | ⟨h0, h19⟩
  ·simp (disch := first | exact xD | fail) [-bind_some, -Aa, -Ab, AA, h0]
   refine Af.bind (Mx hl _) ?_
   rintro ⟨_, w1⟩ ⟨E1, m, q, rfl, h3⟩
   try dsimp only at E1 m q h3
   have zE1 := E1.size
   try simp only [qz] at zE1
   simp (disch := first | exact xD | fail) [-bind_some, qs, -Aa, -Ab]
   exact hQ _ ⟨xE, m, q, rfl, h3, fun v hv he => (hno v hv he).elim⟩
  ·simp (disch := first | exact xD | fail) [-bind_some, -Aa, -Ab, AA, h0, h19]
   refine Af.bind (Mx hl _) ?_
   rintro ⟨_, w1⟩ ⟨E1, m, q, rfl, h3⟩
   try dsimp only at E1 m q h3
   have zE1 := E1.size
   try simp only [qz] at zE1
   simp (disch := first | exact xD | fail) [-bind_some, qs, -Aa, -Ab]
   exact hQ _ ⟨xE, m, q, rfl, h3, fun v hv he => (hno v hv he).elim⟩
theorem Px {l : List UInt8} (hl : l.length ≤ 281474976710656) {w : World} (G : GlobE w) : Af (EV P 45 #[.string (AZ l)] w) fun r => Ext w r.2 ∧ ∃ m er, r.1 = .tuple #[i64 m, er] ∧ (er = .nilIface ∨ ∃ u v, er = .iface u v) ∧ ∀ v : Nat, v ≤ 99999999 → l = Bn v → er = .nilIface ∧ m = v := by
 refine Af.post fun Q hQ => ?_
 refine Bw (Lt _ _) ?_
 simp (disch := first | exact xD | fail) [-bind_some, -Aa, -Ab]
 refine Af.bind (UQ hl _) ?_
 rintro ⟨_, w1⟩ ⟨E1, m, q, rfl, h3, h4⟩
 try dsimp only at E1 m q h3 h4
 have zE1 := E1.size
 try simp only [qz] at zE1
 by_cases hq0 : q = 0
 ·subst hq0
  simp (disch := first | exact xD | fail) [-bind_some, qs, -Aa, -Ab, Vy, Zc]
  exact hQ _ ⟨xE, m, _, rfl, Or.inl rfl, fun v hv he => ⟨rfl, (h4 v hv he).2⟩⟩
 ·have hne : ∀ n w, bo P .neq 43 (.tmp n) (.const .nilIface) (I2 q) .nilIface w = some (.bool true, w) := fun n w => by
   unfold I2
   rw [if_neg hq0]
   exact XX n _ _ w
  simp (disch := first | exact xD | fail) [-bind_some, qs, -Aa, -Ab, hne]
  refine Af.bind (SC (q := q) Ad hl (G.ext xE)) ?_
  rintro ⟨_, w2⟩ ⟨u, v, rfl, E2⟩
  try dsimp only at u v E2
  have zE2 := E2.size
  try simp only [qz] at zE2
  simp (disch := first | exact xD | fail) [-bind_some, -Aa, -Ab]
  exact hQ _ ⟨xE, m, _, rfl, Or.inr ⟨u, v, rfl⟩, fun v hv he => absurd (h4 v hv he).1 hq0⟩
abbrev JS : Lay (List ByteArray) := AY 9 8796093021952 HG
theorem UR {l : List UInt8} (hl : l.length ≤ 140737488351232) : ∀ (d k : Nat) (e : Env) (w : World) (n : Int), k + d = l.length → e 0 = .string (AZ l) → e 3 = i64 n → e 4 = i64 k →
  Af (EK e w) fun r => ∃ m, r = (i64 m, w) ∧ ((∀ c ∈ l, 48 ≤ c.toNat ∧ c.toNat ≤ 57) → l.length ≤ 6 → 0 < l.length → (1 < l.length → l.head? ≠ some 48) → GG n (l.drop k) = some m) := by
 intro d
 induction d with
 | zero =>
  intro k e w n hd e0 e3 e4
  rw [Hc]
  obtain rfl : k = l.length := by omega
  rw [List.drop_length]
  refine Af.post fun Q hQ => ?_
  by_cases h0 : l.length = 0
  ·have h0' : ((l.length : Int) == 0) = true := beq_iff_eq.2 Ad
   simp (disch := first | exact xD | fail) [-bind_some, -Aa, -Ab, e0, e4, AA, h0']
   exact hQ _ ⟨-1, rfl, fun _ _ h => by omega⟩
  ·have h0' : ((l.length : Int) == 0) = false := beq_eq_false_iff_ne.2 Ad
   obtain ⟨x, s0, rfl⟩ : ∃ x s0, l = x :: s0 := by
    cases l with
    | nil => simp at h0
    | cons x s0 => exact ⟨x, s0, rfl⟩
   have hix := fun w => HI (P := P) (t := 9) (by kernel_rfl) (x :: s0) (k := .i64) (i := 0) AD (b := x) rfl w
   obtain ⟨L, hL⟩ : ∃ L, L = (x :: s0).length := ⟨_, rfl⟩
   rw [← hL] at h0' e4
   by_cases h1 : 1 < L
   ·by_cases h48 : (x.toNat : Int) = 48
    ·have h48' : ((x.toNat : Int) == 48) = true := beq_iff_eq.2 h48
     have hx : x = 48 := UInt8.toNat_inj.1 (by show x.toNat = 48; omega)
     simp (disch := first | exact xD | fail) [-bind_some, -Aa, -Ab, e0, e4, AA, ← hL, h0', show (1 : Int) < L by omega, hix, h48']
     exact hQ _ ⟨-1, rfl, fun _ _ _ h => absurd (by rw [hx]; rfl) (h Ad)⟩
    ·have h48' : ((x.toNat : Int) == 48) = false := beq_eq_false_iff_ne.2 h48
     simp (disch := first | exact xD | fail) [-bind_some, -Aa, -Ab, e0, e3, e4, AA, ← hL, h0', show (1 : Int) < L by omega, hix, h48']
     exact hQ _ ⟨n, rfl, fun _ _ _ _ => rfl⟩
   ·simp (disch := first | exact xD | fail) [-bind_some, -Aa, -Ab, e0, e3, e4, AA, ← hL, h0', show ¬ (1 : Int) < L by omega]
    exact hQ _ ⟨n, rfl, fun _ _ _ _ => rfl⟩
 | succ d ih =>
  intro k e w n hd e0 e3 e4
  rw [Hc]
  have hlt : k < l.length := by omega
  obtain ⟨b, hb, hdr⟩ := An hlt
  have hix := fun w => HI (P := P) (t := 9) (by kernel_rfl) l (k := .i64) (i := (k : Int)) Ad (b := b) (by rw [Int.toNat_natCast]; exact hb) w
  have hmem : b ∈ l := List.mem_of_getElem? hb
  refine Af.post fun Q hQ => ?_
  by_cases hlo : (b.toNat : Int) < 48
  ·simp (disch := first | exact xD | fail) [-bind_some, -Aa, -Ab, e0, e4, AA, hlt, hix, hlo]
   exact hQ _ ⟨-1, rfl, fun h => by have := h b hmem; omega⟩
  by_cases hhi : (57 : Int) < b.toNat
  ·simp (disch := first | exact xD | fail) [-bind_some, -Aa, -Ab, e0, e4, AA, hlt, hix, hlo, hhi]
   exact hQ _ ⟨-1, rfl, fun h => by have := h b hmem; omega⟩
  by_cases hk : (6 : Int) ≤ k
  ·simp (disch := first | exact xD | fail) [-bind_some, -Aa, -Ab, e0, e4, AA, hlt, hix, hlo, hhi, hk]
   exact hQ _ ⟨-1, rfl, fun _ h => by omega⟩
  ·simp (disch := first | exact xD | fail) [-bind_some, qs, -Aa, -Ab, e0, e3, e4, AA, hlt, hix, hlo, hhi, hk, Io]
   refine Af.mono (ih (k + 1) _ _ (IntKind.i64.wrap (IntKind.i64.wrap (n * 10) + IntKind.i64.wrap (IntKind.u8.wrap ((b.toNat : Int) - 48)))) Ad xA xA xA) ?_
   rintro r ⟨m, h1, h2⟩
   refine hQ _ ⟨m, h1, fun g1 g2 g3 g4 => ?_⟩
   rw [hdr]
   show (if 9 < IntKind.u8.wrap ((b.toNat : Int) - 48) then none else _) = _
   rw [if_neg (by rw [Xb Ad Ad]; omega)]
   exact h2 g1 g2 g3 g4
theorem EN {l : List UInt8} (hl : l.length ≤ 140737488351232) (w : World) : Af (EV P 29 #[.string (AZ l)] w) fun r => ∃ m, r = (i64 m, w) ∧ ∀ v : Nat, v ≤ 999999 → l = Bn v → m = v := by
 refine Af.post fun Q hQ => ?_
 refine Bw (NW _ _) ?_
 simp (disch := first | exact xD | fail) [-bind_some, -Aa, -Ab]
 refine Af.mono (UR hl l.length 0 _ w 0 Ad rfl rfl rfl) ?_
 rintro _ ⟨m, rfl, h⟩
 refine hQ _ ⟨m, rfl, fun v hv he => ?_⟩
 have h1 := Mw 5 v Ad
 have h2 := BL v
 have h3 := h (by rw [he]; exact Kl) (by rw [he]; omega) (by rw [he]; omega) (fun hh => by
  rw [he] at hh ⊢
  exact UE v (by
   rcases Nat.lt_or_ge v 10 with h | h
   ·rw [Dy h] at hh; simp at hh
   ·exact h))
 rw [List.drop_zero, he, Pb v Ad] at h3
 exact (Option.some.inj h3).symm
theorem US {l : List UInt8} {c : UInt8} {N : Nat} (hN : N ≤ 100000000) (hl : l.length ≤ 140737488351232) {w0 : World} : ∀ (d i : Nat) (e : Env) (w : World) (st : Nat) (pre : List UInt8) (parts : List (List UInt8)) (sv : Value),
  i + d = l.length → st ≤ i → l.drop st = pre ++ l.drop i → pre.length = i - st → c ∉ pre → parts.length ≤ N →
  e 0 = .string (AZ l) → e 1 = .int .u8 c.toNat → e 2 = i64 N → e 7 = sv → e 8 = i64 st → e 9 = i64 i → Ext w0 w →
  O JS (In w0.heap.size w.heap.size) w [sv] (parts.map AZ) →
  Af (EJ e w) fun r => ∃ a q, r.1 = .slice a (parts ++ Cx c (N - parts.length) (l.drop st)).length q ∧ O JS (In w0.heap.size r.2.heap.size) r.2 [r.1] ((parts ++ Cx c (N - parts.length) (l.drop st)).map AZ) ∧ Ext w0 r.2 := by
 intro d
 -- what is put behind
 have put : ∀ (w : World) (sv : Value) (parts : List (List UInt8)) (g : Nat) (s : List UInt8), Ext w0 w → O JS (In w0.heap.size w.heap.size) w [sv] (parts.map AZ) → parts.length ≤ N → s.length ≤ 140737488351232 → hp w g = some (.cells #[.string (AZ s)] 9 (0, 0)) →
   Af (Ar P #[47, 47] 47 #[sv, .slice (some ⟨g, 0, none⟩) 1 1] w) fun r => ∃ a q, r.1 = .slice a (parts.length + 1) q ∧ O JS (In w0.heap.size r.2.heap.size) r.2 [.slice a (parts.length + 1) q] ((parts ++ [s]).map AZ) ∧ Ext w0 r.2 := by
  intro w sv parts g s E0 ho hp' hs hg
  have zE0 := E0.size
  try simp only [qz] at zE0
  have hz := E0.size
  refine Af.mono (O.I3 (L := HG) (mx := 8796093021952) Qy RD XL rfl AD ho (UF (P := P) (by rw [AA]; exact hs) hg) (by simp; omega) AD AD) ?_
  rintro ⟨_, w1⟩ ⟨a1, c1, rfl, o1, M1⟩
  have zM1 := M1.size
  try simp only [] at zM1
  try dsimp only at o1 M1
  have zM1 := M1.size
  have F1 : Ext w0 w1 := Mod.after (a := w0) E0 M1 (by intro x hx h; simp only [In] at h; omega)
  refine ⟨a1, c1, by simp, ?_, F1⟩
  rw [List.map_append]
  rw [List.length_map] at o1
  exact o1.wide (by intro b hb hl; simp only [In] at hb ⊢; rcases hb with hb | hb <;> omega)
 induction d with
 | zero =>
  intro i e w st pre parts sv hd hst hdr hpl hpre hpn e0 e1 e2 e7 e8 e9 E0 ho
  have zE0 := E0.size
  try simp only [qz] at zE0
  rw [Ha]
  obtain rfl : i = l.length := by omega
  rw [List.drop_length, List.append_nil] at hdr
  have hsf := fun w => CU (P := P) (t := 9) (by kernel_rfl) l (i := (st : Int)) Ad Ad w
  rw [Int.toNat_natCast] at hsf
  have hcn : Cx c (N - parts.length) (l.drop st) = [l.drop st] := EY (by rw [hdr]; exact hpre) _
  rw [hcn]
  refine Af.post fun Q hQ => ?_
  simp (disch := first | exact xD | fail) [-bind_some, -Aa, -Ab, e0, e2, e7, e8, e9, AA, hsf]
  refine Af.bind (put _ sv parts w.heap.size (l.drop st) xE ?_ hpn (by rw [List.length_drop]; omega) (by first | assumption | rfl | (simp (disch := first | exact xD | fail) [-bind_some, qs, -Aa, -Ab]; done))) ?_
  ·exact (ho.Aj (by intro b hS hb; (try dsimp only at hS); (try simp only [In] at hS hb); first | rfl | (simp (disch := first | exact xF | fail) only [qk]; done))).wide xV
  ·rintro ⟨_, w1⟩ ⟨a, q, rfl, o1, E1⟩
   have zE1 := E1.size
   try simp only [] at zE1
   try dsimp only at o1 E1
   simp (disch := first | exact xD | fail) [-bind_some, -Aa, -Ab]
   exact hQ _ ⟨a, q, by simp, o1, E1⟩
 | succ d ih =>
  intro i e w st pre parts sv hd hst hdr hpl hpre hpn e0 e1 e2 e7 e8 e9 E0 ho
  have zE0 := E0.size
  try simp only [qz] at zE0
  rw [Ha]
  have hlt : i < l.length := by omega
  obtain ⟨b, hb, hdi⟩ := An hlt
  obtain ⟨a0, c0, rfl, _⟩ := ho.d.sl
  rw [List.length_map] at e7 ho
  have hix := fun w => HI (P := P) (t := 9) (by kernel_rfl) l (k := .i64) (i := (i : Int)) Ad (b := b) (by rw [Int.toNat_natCast]; exact hb) w
  refine Af.post fun Q hQ => ?_
  by_cases hlN : parts.length < N
  ·by_cases hbc : b = c
   ·subst hbc
    have hsx := fun w => QY (P := P) (t := 9) (by kernel_rfl) (AZ l) (i := (st : Int)) (j := (i : Int)) Ad Ad (by rw [AA]; omega) w
    rw [Iz, Int.toNat_natCast, Int.toNat_natCast, hdr, List.take_append_of_le_length Ad, List.take_of_length_le Ad] at hsx
    have hbb : ((b.toNat : Int) == b.toNat) = true := beq_iff_eq.2 rfl
    simp (disch := first | exact xD | fail) [-bind_some, qs, -Aa, -Ab, e0, e1, e2, e7, e8, e9, AA, hlt, hlN, hix, hsx]
    refine Af.bind (put _ _ parts w.heap.size pre xE ?_ hpn Ad (by first | assumption | rfl | (simp (disch := first | exact xD | fail) [-bind_some, qs, -Aa, -Ab]; done))) ?_
    ·exact (ho.Aj (by intro b hS hb; (try dsimp only at hS); (try simp only [In] at hS hb); first | rfl | (simp (disch := first | exact xF | fail) only [qk]; done))).wide xV
    ·rintro ⟨_, w1⟩ ⟨a, q, rfl, o1, E1⟩
     have zE1 := E1.size
     try simp only [] at zE1
     try dsimp only at o1 E1
     simp (disch := first | exact xD | fail) [-bind_some, qs, -Aa, -Ab, e9, Hb]
     refine Af.mono (ih (i + 1) _ _ (i + 1) [] (parts ++ [pre]) _ Ad (Nat.le_refl _) rfl (by simp) (by simp) (by simp; omega) xA xA xA rfl xA xA E1 o1) ?_
     rintro r ⟨a, q, h1, h2, h3⟩
     have hcn : Cx b (N - parts.length) (l.drop st) = pre :: Cx b (N - (parts ++ [pre]).length) (l.drop (i + 1)) := by
      rw [hdr, hdi, show N - parts.length = (N - (parts ++ [pre]).length) + 1 by simp; omega]
      exact H0 hpre _
     rw [List.append_assoc, List.singleton_append, ← hcn] at h1 h2
     exact hQ _ ⟨a, q, h1, h2, h3⟩
   ·have hbb : ((b.toNat : Int) == c.toNat) = false := beq_eq_false_iff_ne.2 fun h => hbc (UInt8.toNat_inj.1 Ad)
    simp (disch := first | exact xD | fail) [-bind_some, qs, -Aa, -Ab, e0, e1, e2, e7, e9, AA, hlt, hlN, hix, hbb, Hb]
    exact Af.mono (ih (i + 1) _ _ st (pre ++ [b]) parts (.slice a0 parts.length c0) Ad Ad (by rw [hdr, hdi]; simp) (by simp; omega) (by simp; exact ⟨hpre, fun h => hbc h.symm⟩) hpn xA xA xA xA xA xA E0 ho) hQ
  ·have hN' : N - parts.length = 0 := by omega
   have hsf := fun w => CU (P := P) (t := 9) (by kernel_rfl) l (i := (st : Int)) Ad Ad w
   rw [Int.toNat_natCast] at hsf
   have hcn : Cx c (N - parts.length) (l.drop st) = [l.drop st] := by rw [hN']; rfl
   rw [hcn] at hQ
   simp (disch := first | exact xD | fail) [-bind_some, -Aa, -Ab, e0, e2, e7, e8, e9, AA, hlt, hlN, hsf]
   refine Af.bind (put _ _ parts w.heap.size (l.drop st) xE ?_ hpn (by rw [List.length_drop]; omega) (by first | assumption | rfl | (simp (disch := first | exact xD | fail) [-bind_some, qs, -Aa, -Ab]; done))) ?_
   ·exact (ho.Aj (by intro b hS hb; (try dsimp only at hS); (try simp only [In] at hS hb); first | rfl | (simp (disch := first | exact xF | fail) only [qk]; done))).wide xV
   ·rintro ⟨_, w1⟩ ⟨a, q, rfl, o1, E1⟩
    have zE1 := E1.size
    try simp only [] at zE1
    try dsimp only at o1 E1
    simp (disch := first | exact xD | fail) [-bind_some, -Aa, -Ab]
    exact hQ _ ⟨a, q, by simp, o1, E1⟩
theorem Py {l : List UInt8} {c : UInt8} {N : Nat} (hN : N ≤ 100000000) (hl : l.length ≤ 140737488351232) (w : World) :
  Af (EV P 27 #[.string (AZ l), .int .u8 c.toNat, i64 N] w) fun r => ∃ a q, r.1 = .slice a (Cx c N l).length q ∧ O JS (In w.heap.size r.2.heap.size) r.2 [r.1] ((Cx c N l).map AZ) ∧ Ext w r.2 := by
 refine Af.post fun Q hQ => ?_
 refine Bw (NV _ _ _ _) ?_
 simp (disch := first | exact xD | fail) [-bind_some, -Aa, -Ab]
 have := US (l := l) (c := c) hN hl (w0 := w) l.length 0 (AJ (AO #[.string (AZ l), .int .u8 c.toNat, i64 N]) [(6, .slice none 0 0), (10, .slice (some ⟨w.heap.size, 0, none⟩) 0 0), (7, .slice (some ⟨w.heap.size, 0, none⟩) 0 0), (8, i64 0), (9, i64 0)]) (w.alloc (.cells #[] 9)) 0 [] [] (.slice (some ⟨w.heap.size, 0, none⟩) 0 0) Ad Ad rfl rfl (by simp) (by simp) rfl rfl rfl rfl rfl rfl xE ((O.empty (g := w.heap.size) (Av rfl)).wide (by intro b hb hl; simp only [In]; omega))
 exact Af.mono this hQ
def QZ (l : List UInt8) (t : Tag) (ok : Bool) : Prop := (ok = true → Cc t = true ∧ C6 t = l) ∧ (ok = false → t = ⟨0, 0⟩ ∧ ∀ t', Cc t' = true → C6 t' ≠ l)
theorem RE {t : Tag} {l : List UInt8} (h : C6 t = l) : DI 46 l = some (Bn t.t.toNat, Bn t.p.toNat) := by
 rw [← h, C6]
 exact IA (Pe AD _)
theorem P8 {t : Tag} {l : List UInt8} (h : C6 t = l) : Cx 46 2 l = [Bn t.t.toNat, Bn t.p.toNat] := by
 rw [← h, C6, H0 (Pe AD _), EY (Pe AD _)]
theorem SD (l : List UInt8) : ∃ a b f, Qh 46 l = .tuple #[.string (AZ a), .string (AZ b), .bool f] ∧ a.length ≤ l.length ∧ b.length ≤ l.length ∧ ∀ t', C6 t' = l → a = Bn t'.t.toNat ∧ b = Bn t'.p.toNat := by
 unfold Qh
 cases hc : DI 46 l with
 | none => exact ⟨l, [], false, rfl, Nat.le_refl _, Nat.zero_le _, fun t' h => by rw [RE h] at hc; cases hc⟩
 | some p =>
  have h1 := (GF hc).1
  have hlen : l.length = p.1.length + (p.2.length + 1) := by conv => lhs; rw [h1]; simp
  refine ⟨p.1, p.2, true, rfl, by omega, by omega, fun t' h => ?_⟩
  rw [RE h] at hc
  obtain rfl := Option.some.inj hc
  exact ⟨rfl, rfl⟩
theorem Oc {l : List UInt8} (hl : l.length ≤ 140737488351232) {w : World} (G : GlobE w) : Af (EV P 46 #[.string (AZ l)] w) fun r => ∃ t ok, r.1 = .tuple #[t.v, .bool ok] ∧ QZ l t ok ∧ Ext w r.2 := by
 obtain ⟨a, b, f, hV, ha, hb, hu⟩ := SD l
 refine Af.post fun Q hQ => ?_
 refine Bw (Mo _ _) ?_
 simp (disch := first | exact xD | fail) [-bind_some, qs, -Aa, -Ab, Dg]
 refine Af.bind (VG Ad 46 _) ?_
 rintro ⟨_, w1⟩ ⟨rfl, E1⟩
 try dsimp only at E1
 have zE1 := E1.size
 try simp only [qz] at zE1
 rw [hV]
 simp (disch := first | exact xD | fail) [-bind_some, qs, -Aa, -Ab]
 refine Af.bind (Px Ad (G.ext xE)) ?_
 rintro ⟨_, w2⟩ ⟨E2, m1, er1, rfl, he1, hv1⟩
 try dsimp only at E2 m1 er1 he1 hv1
 have zE2 := E2.size
 try simp only [qz] at zE2
 simp (disch := first | exact xD | fail) [-bind_some, qs, -Aa, -Ab]
 refine Af.bind (Px Ad (G.ext xE)) ?_
 rintro ⟨_, w3⟩ ⟨E3, m2, er2, rfl, he2, hv2⟩
 try dsimp only at E3 m2 er2 he2 hv2
 have zE3 := E3.size
 try simp only [qz] at zE3
 have hno : ∀ t', Cc t' = true → C6 t' = l → er1 = .nilIface ∧ er2 = .nilIface ∧ t' = ⟨m1, m2⟩ := by
  intro t' h1 h2
  obtain ⟨h3, h4⟩ := hu t' h2
  have hr := Hl h1
  have h5 := hv1 t'.t.toNat Ad h3
  have h6 := hv2 t'.p.toNat Ad h4
  refine ⟨h5.1, h6.1, ?_⟩
  have q5 : t'.t = m1 := by omega
  have q6 : t'.p = m2 := by omega
  rw [← q5, ← q6]
 have X0 : hp w3 w.heap.size = some (.cells #[i64 0, i64 0] 39 (0, 0)) := (by first | assumption | rfl | (simp (disch := first | exact xD | fail) [-bind_some, qs, -Aa, -Ab, E1.Ai, E2.Ai, E3.Ai]; done))
 rcases he1 with rfl | ⟨u1, x1, rfl⟩
 ·rcases he2 with rfl | ⟨u2, x2, rfl⟩
  ·simp (disch := first | exact xD | fail) [-bind_some, qs, -Aa, -Ab, qm, Zc]
   refine Af.bind (J4 ⟨m1, m2⟩ _) ?_
   rintro ⟨_, w4⟩ ⟨rfl, E4⟩
   try dsimp only at E4
   have zE4 := E4.size
   try simp only [qz] at zE4
   cases hok : Cc ⟨m1, m2⟩
   ·simp (disch := first | exact xD | fail) [-bind_some, qs, X0, E4.Ai]
    exact hQ _ ⟨⟨0, 0⟩, false, rfl, ⟨by simp, fun _ => ⟨rfl, fun t' h1 h2 => by rw [(hno t' h1 h2).2.2, hok] at h1; cases h1⟩⟩, xE⟩
   ·simp (disch := first | exact xD | fail) [-bind_some, qs, -Aa, -Ab, E4.Ai]
    refine Af.bind (HP hok (G.g.ext xE)) ?_
    rintro ⟨_, w5⟩ ⟨rfl, E5⟩
    try dsimp only at E5
    have zE5 := E5.size
    try simp only [qz] at zE5
    by_cases hte : C6 ⟨m1, m2⟩ = l
    ·simp (disch := first | exact xD | fail) [-bind_some, qs, FX, Az, hte, X0, E4.Ai, E5.Ai]
     exact hQ _ ⟨⟨m1, m2⟩, true, rfl, ⟨fun _ => ⟨hok, hte⟩, by simp⟩, xE⟩
    ·have hte' : (C6 ⟨m1, m2⟩ == l) = false := beq_eq_false_iff_ne.2 hte
     simp (disch := first | exact xD | fail) [-bind_some, qs, FX, Az, hte', X0, E4.Ai, E5.Ai]
     exact hQ _ ⟨⟨0, 0⟩, false, rfl, ⟨by simp, fun _ => ⟨rfl, fun t' h1 h2 => hte (by rw [← (hno t' h1 h2).2.2]; exact h2)⟩⟩, xE⟩
  ·simp (disch := first | exact xD | fail) [-bind_some, qs, Zc, XX, X0]
   exact hQ _ ⟨⟨0, 0⟩, false, rfl, ⟨by simp, fun _ => ⟨rfl, fun t' h1 h2 => by have := (hno t' h1 h2).2.1; cases this⟩⟩, xE⟩
 ·simp (disch := first | exact xD | fail) [-bind_some, qs, XX, X0]
  exact hQ _ ⟨⟨0, 0⟩, false, rfl, ⟨by simp, fun _ => ⟨rfl, fun t' h1 h2 => by have := (hno t' h1 h2).1; cases this⟩⟩, xE⟩
theorem Zd {a : Option Addr} {q n i : Nat} {xs : List ByteArray} {x : ByteArray} {S : Nat → Prop} {w w' : World} (ho : O JS S w [.slice a n q] xs) (hx : xs[i]? = some x) (E : Ext w w') : ∃ b o, a = some ⟨b, o, none⟩ ∧ AR (hp w' b) (o + i) = some (.string x) := by
 obtain ⟨b1, o1, cs1, rfl, A1, D1, _, l1⟩ := (ho.d.ext E).at AD hx
 obtain ⟨rfl, hxs⟩ := D.str.1 D1
 exact ⟨b1, o1, rfl, by have := A1 0 _ rfl; simpa only [show HG.n = 1 from rfl, Nat.mul_one, Nat.add_zero] using this⟩
theorem GS {l : List UInt8} {m1 m2 : Int} {b0 b5 : Nat} {w0 : World} {e : Env} {w : World} (e0 : e 0 = .string (AZ l)) (e2 : e 2 = pt b0 0) (e5 : e 5 = pt b5 0) (h0 : hp w b0 = some (.cells #[i64 0, i64 0] 39 (0, 0))) (h5 : hp w b5 = some (.cells #[i64 m1, i64 m2] 39 (0, 0))) (hb : w0.heap.size ≤ b0) (hne : b0 ≠ b5) (E0 : Ext w0 w)
  (hno : ∀ t', Cc t' = true → C6 t' = l → t' = ⟨m1, m2⟩) : Af (CN e w) fun r => ∃ t ok, r.1 = .tuple #[t.v, .bool ok] ∧ QZ l t ok ∧ Ext w0 r.2 := by
 have hlt0 := Aq h0
 have hlt5 := Aq h5
 rw [JI]
 refine Af.post fun Q hQ => ?_
 simp (disch := first | exact xD | fail) [-bind_some, -Aa, -Ab, e0, e2, e5, h5]
 refine Af.bind (Ii ⟨m1, m2⟩ _) ?_
 rintro ⟨_, w1⟩ ⟨rfl, E1⟩
 try dsimp only at E1
 have zE1 := E1.size
 try simp only [qz] at zE1
 have h0 := (E1.Ai hlt0).trans h0
 have h5 := (E1.Ai hlt5).trans h5
 cases hok : Cc ⟨m1, m2⟩
 ·simp (disch := first | exact xD | fail) [-bind_some, h0, h5]
  exact hQ _ ⟨⟨0, 0⟩, false, rfl, ⟨by simp, fun _ => ⟨rfl, fun t' h1 h2 => by rw [hno t' h1 h2, hok] at h1; cases h1⟩⟩, xE⟩
 ·simp (disch := first | exact xD | fail) [-bind_some, -Aa, -Ab, h5]
  refine Af.bind (J7 hok _) ?_
  rintro ⟨_, w2⟩ ⟨rfl, E2⟩
  try dsimp only at E2
  have zE2 := E2.size
  try simp only [qz] at zE2
  have hlt0 := Aq h0
  have hlt5 := Aq h5
  have h0 := (E2.Ai hlt0).trans h0
  have h5 := (E2.Ai hlt5).trans h5
  by_cases hte : C6 ⟨m1, m2⟩ = l
  ·simp (disch := first | exact xD | fail) [-bind_some, h0, h5, FX, Az, hte]
   exact hQ _ ⟨⟨m1, m2⟩, true, rfl, ⟨fun _ => ⟨hok, hte⟩, by simp⟩, xE⟩
  ·have hte' : (C6 ⟨m1, m2⟩ == l) = false := beq_eq_false_iff_ne.2 hte
   simp (disch := first | exact xD | fail) [-bind_some, h0, FX, Az, hte']
   exact hQ _ ⟨⟨0, 0⟩, false, rfl, ⟨by simp, fun _ => ⟨rfl, fun t' h1 h2 => hte (by rw [← hno t' h1 h2]; exact h2)⟩⟩, xE⟩
theorem Od {l : List UInt8} (hl : l.length ≤ 140737488351232) (w : World) : Af (EV P 28 #[.string (AZ l)] w) fun r => ∃ t ok, r.1 = .tuple #[t.v, .bool ok] ∧ QZ l t ok ∧ Ext w r.2 := by
 refine Af.post fun Q hQ => ?_
 refine Bw (Ml _ _) ?_
 simp (disch := first | exact xD | fail) [-bind_some, -Aa, -Ab]
 refine Af.bind (Py (c := 46) (N := 2) AD hl _) ?_
 rintro ⟨_, w1⟩ ⟨a, q, rfl, o1, E1⟩
 try dsimp only at a q o1 E1
 have zE1 := E1.size
 try simp only [qz] at zE1
 have X0 : hp w1 w.heap.size = some (.cells #[i64 0, i64 0] 39 (0, 0)) := (by first | assumption | rfl | (simp (disch := first | exact xD | fail) [-bind_some, qs, -Aa, -Ab, E1.Ai]; done))
 by_cases h2 : (Cx 46 2 l).length = 2
 ·obtain ⟨x, y, hxy⟩ : ∃ x y, Cx 46 2 l = [x, y] := by
   cases hh : Cx 46 2 l with
   | nil => rw [hh] at h2; simp at h2
   | cons x t =>
    cases t with
    | nil => rw [hh] at h2; simp at h2
    | cons y t =>
     cases t with
     | nil => exact ⟨x, y, rfl⟩
     | cons z t => rw [hh] at h2; simp at h2
  have hsz := LJ 46 2 l
  rw [hxy] at o1 hsz
  have hx := hsz x (by simp)
  have hy := hsz y (by simp)
  obtain ⟨g, o, rfl, hr0⟩ := Zd (w' := w1) (i := 0) o1 rfl Ext.rfl
  rw [Nat.add_zero] at hr0
  have hg : g < w1.heap.size := by
   cases hh : hp w1 g with
   | none => rw [hh] at hr0; cases hr0
   | some o => exact Aq hh
  have hwl : w.heap.size < w1.heap.size := by have := E1.size; simp only [World.size_alloc] at this; omega
  have fin : ∀ (m1 m2 : Int), (∀ v : Nat, v ≤ 999999 → x = Bn v → m1 = v) → (∀ v : Nat, v ≤ 999999 → y = Bn v → m2 = v) → ∀ t', Cc t' = true → C6 t' = l → t' = ⟨m1, m2⟩ := by
   intro m1 m2 hm1 hm2 t' h1 h2
   have h3 := P8 h2
   rw [hxy] at h3
   have hr := Hl h1
   have h5 := hm1 t'.t.toNat Ad (List.cons.inj h3).1
   have h6 := hm2 t'.p.toNat Ad (List.cons.inj (List.cons.inj h3).2).1
   have q5 : t'.t = m1 := by omega
   have q6 : t'.p = m2 := by omega
   rw [← q5, ← q6]
  obtain ⟨_, _, ho, hr1⟩ := Zd (w' := w1) (i := 1) o1 rfl Ext.rfl
  cases ho
  simp (disch := first | exact xD | fail) [-bind_some, -Aa, -Ab, hxy]
  refine Jp _ _ ?_
  simp (disch := first | exact xD | fail) [-bind_some, qs, -Aa, -Ab, hr0, hr1, Fv]
  constructor
  ·refine Af.mono (EN (l := x) Ad _) ?_
   rintro _ ⟨m1, rfl, hm1⟩
   simp (disch := first | exact xD | fail) [-bind_some, qs, -Aa, -Ab, hr0, hr1]
   constructor
   ·refine Af.mono (EN (l := y) Ad _) ?_
    rintro _ ⟨m2, rfl, hm2⟩
    simp (disch := first | exact xD | fail) [-bind_some, qs, -Aa, -Ab, qm, hr0, hr1]
    exact Af.mono (GS (w0 := w) (m1 := m1) (m2 := m2) xA xA xA (by first | assumption | rfl | (simp (disch := first | exact xD | fail) [-bind_some, qs, X0]; done)) (by first | assumption | rfl | (simp (disch := first | exact xD | fail) [-bind_some, qs]; done)) (Nat.le_refl _) (by simp; omega) xE (fin m1 m2 hm1 hm2)) hQ
   ·refine Af.mono (EN (l := y) Ad _) ?_
    rintro _ ⟨m2, rfl, hm2⟩
    simp (disch := first | exact xD | fail) [-bind_some, qs, -Aa, -Ab, qm]
    exact Af.mono (GS (w0 := w) (m1 := m1) (m2 := m2) xA xA xA (by first | assumption | rfl | (simp (disch := first | exact xD | fail) [-bind_some, qs, X0]; done)) (by first | assumption | rfl | (simp (disch := first | exact xD | fail) [-bind_some, qs]; done)) (Nat.le_refl _) (by simp; omega) xE (fin m1 m2 hm1 hm2)) hQ
  ·refine Af.mono (EN (l := x) Ad _) ?_
   rintro _ ⟨m1, rfl, hm1⟩
   simp (disch := first | exact xD | fail) [-bind_some, qs, -Aa, -Ab, hr1]
   refine Af.mono (EN (l := y) Ad _) ?_
   rintro _ ⟨m2, rfl, hm2⟩
   simp (disch := first | exact xD | fail) [-bind_some, qs, -Aa, -Ab, qm]
   exact Af.mono (GS (w0 := w) (m1 := m1) (m2 := m2) xA xA xA (by first | assumption | rfl | (simp (disch := first | exact xD | fail) [-bind_some, qs, X0]; done)) (by first | assumption | rfl | (simp (disch := first | exact xD | fail) [-bind_some, qs]; done)) (Nat.le_refl _) (by simp; omega) xE (fin m1 m2 hm1 hm2)) hQ
 ·have h2' : ((Cx 46 2 l).length : Int) ≠ 2 := by omega
  have h2'' : (((Cx 46 2 l).length : Int) != 2) = true := by simpa using h2'
  simp (disch := first | exact xD | fail) [-bind_some, h2'', X0]
  exact hQ _ ⟨⟨0, 0⟩, false, rfl, ⟨by simp, fun _ => ⟨rfl, fun t' h1 h3 => h2 (by rw [P8 h3]; rfl)⟩⟩, xE⟩
theorem UT : Rd P 22 fun W cs ns => ∃ s, cs = [s] ∧ EI W s ns := Uh Tryz.underlying22 (by kernel_rfl) (by kernel_rfl) Tryz.underlying5
def TM : List ByteArray := [⟨#[48]⟩, ⟨#[49]⟩, ⟨#[32]⟩, ⟨#[46]⟩, ⟨#[35]⟩, ⟨#[61]⟩, ⟨#[10]⟩, ⟨#[57]⟩]
def TN : List ByteArray := [⟨#[48]⟩, ⟨#[32]⟩, ⟨#[120]⟩, ⟨#[10]⟩]
theorem My {B g p : Nat} (hp0 : p ≤ 900000000000) {l : List UInt8} (hl : l.length ≤ 900000) {w : World} (hr : R w B g p) :
  Af (EV P 26 #[pt g 0, .string (AZ l)] w) fun r => ∃ (l' : List UInt8) (p' : Nat), r.1 = .string (AZ l') ∧ l'.length ≤ l.length + 1 ∧ p' ≤ p + 3 ∧ R r.2 B g p' ∧ Mod (fun b => b = g) w r.2 := by
 have hlt := hr.lt
 have hw1 : IntKind.i64.wrap ((l.length : Int) + 1) = (l.length : Int) + 1 := HS Ad Ad
 have hpk := Al (k := l.length + 1) Ad Ad Ad hr
 rw [show ((l.length + 1 : Nat) : Int) = (l.length : Int) + 1 from rfl] at hpk
 refine Af.post fun Q hQ => ?_
 refine Bw (Lr _ _ _) ?_
 simp (disch := first | exact xD | fail) [-bind_some, -Aa, -Ab, AA, hw1]
 refine Af.bind hpk ?_
 rintro ⟨_, w1⟩ ⟨m, rfl, hm, R1, M1⟩
 have zM1 := M1.size
 try simp only [] at zM1
 try dsimp only at R1 M1
 have zM1 := M1.size
 have y1 := R1.lt
 simp (disch := first | exact xD | fail) [-bind_some, qs, -Aa, -Ab]
 refine Af.bind (Al (k := 5) Ad Ad Ad R1) ?_
 rintro ⟨_, w2⟩ ⟨m5, rfl, hm5, R2, M2⟩
 have zM2 := M2.size
 try simp only [] at zM2
 try dsimp only at R2 M2
 have zM2 := M2.size
 have y2 := R2.lt
 have N2 := M1.tr M2
 cases h0 : ((m5 : Int) == 0)
 ·cases h1 : ((m5 : Int) == 1)
  ·cases h2 : ((m5 : Int) == 2)
   ·simp (disch := first | exact xD | fail) [-bind_some, qs, -Aa, -Ab, h0, h1, h2, FP]
    exact hQ _ ⟨l, p + 1 + 1, rfl, by omega, by omega, R2, N2⟩
   ·simp (disch := first | exact xD | fail) [-bind_some, -Aa, -Ab, h0, h1, h2]
    refine Af.bind (Ft (strs := TN) (k := 4) Ad Ad Ad rfl (At.new (cs := TN.map Value.string)) Ad (R2.ext xE)) ?_
    rintro ⟨_, w3⟩ ⟨n, hn, rfl, R3, M3⟩
    have zM3 := M3.size
    try simp only [qz] at zM3
    try dsimp only at R3 M3
    have hn1 : n.size = 1 := by
     simp only [TN, List.mem_cons, List.not_mem_nil, or_false] at hn
     rcases hn with rfl | rfl | rfl | rfl <;> rfl
    have hn2 : n.toList.length = 1 := by rw [ByteArray.toList_eq]; simpa using hn1
    simp (disch := first | exact xD | fail) [-bind_some, -Aa, -Ab, Ba]
    exact hQ _ ⟨l ++ n.toList, p + 1 + 1 + 1, rfl, by rw [List.length_append]; omega, by omega, R3, (N2.al _).tr M3⟩
  ·have hs := fun w => Hs (P := P) (t := 9) (by kernel_rfl) l (j := (m : Int)) Ad Ad w
   rw [Int.toNat_natCast] at hs
   simp (disch := first | exact xD | fail) [-bind_some, -Aa, -Ab, h0, h1, hs]
   exact hQ _ ⟨l.take m, p + 1 + 1, rfl, by rw [List.length_take]; omega, by omega, R2, N2⟩
 ·by_cases hml : m < l.length
  ·have hs := fun w => Hs (P := P) (t := 9) (by kernel_rfl) l (j := (m : Int)) Ad Ad w
   rw [Int.toNat_natCast] at hs
   have hw2 : IntKind.i64.wrap ((m : Int) + 1) = (m : Int) + 1 := HS Ad Ad
   have hs2 := fun w => CU (P := P) (t := 9) (by kernel_rfl) l (i := (m : Int) + 1) Ad Ad w
   rw [show ((m : Int) + 1).toNat = m + 1 by omega] at hs2
   simp (disch := first | exact xD | fail) [-bind_some, -Aa, -Ab, h0, hml, hs, hs2]
   refine Af.bind (Ft (strs := TM) (k := 8) Ad Ad Ad rfl (At.new (cs := TM.map Value.string)) (by simp; omega) (R2.ext xE)) ?_
   rintro ⟨_, w3⟩ ⟨n, hn, rfl, R3, M3⟩
   have zM3 := M3.size
   try simp only [qz] at zM3
   try dsimp only at R3 M3
   have hn1 : n.size = 1 := by
    simp only [TM, List.mem_cons, List.not_mem_nil, or_false] at hn
    rcases hn with rfl | rfl | rfl | rfl | rfl | rfl | rfl | rfl <;> rfl
   have hn2 : n.toList.length = 1 := by rw [ByteArray.toList_eq]; simpa using hn1
   have htl : (l.take m).length = m := by rw [List.length_take]; omega
   have hdl : (l.drop (m + 1)).length = l.length - (m + 1) := List.length_drop
   simp (disch := first | exact xD | fail) [-bind_some, -Aa, -Ab, Ba, Az]
   exact hQ _ ⟨l.take m ++ n.toList ++ l.drop (m + 1), p + 1 + 1 + 1, by simp, by simp only [List.length_append]; omega, by omega, R3, ((N2.Ud).al _).tr M3⟩
  ·simp (disch := first | exact xD | fail) [-bind_some, qs, -Aa, -Ab, h0, hml, FP]
   exact hQ _ ⟨l, p + 1 + 1, rfl, by omega, by omega, R2, N2⟩
abbrev TO := Zg 37 5
theorem P9 {b : Nat} {p s : Value} {w : World} (h : hp w b = some (.cells #[p, s] 37 (0, 0))) (hpp : p = .pointer none ∨ p = pt b 0) :
  Af (EV P 39 #[pt b 0] w) fun r => r.1 = .tuple #[] ∧ hp r.2 b = some (.cells #[pt b 0, s] 37 (0, 0)) ∧ Mod (fun x => x = b) w r.2 := by
 have hlt := Aq h
 have hne : ∀ w, xf P 58 #[pt b 0] w = some (pt b 0, w) := by
  intro w
  unfold xf
  rw [run_callFunc_extern (P := P) Tryz.func58 (by kernel_rfl) (by kernel_rfl) (by kernel_rfl) (e := Extern.AbiNoEscape.same) (by kernel_rfl), Lib.run_noEscape]
  rfl
 have c1 := WI (P := P) (src := 35) (dst := 89) (t := 37) (n := 2) Tryz.underlying35 Tryz.underlying89 (by kernel_rfl) AD h (o := 0) (by simp)
 have c2 := Uj (P := P) (src := 89) (dst := 35) (u := 37) (n := 2) (m := 2) Tryz.underlying89 Tryz.underlying35 (by kernel_rfl) h (o := 0) rfl (by kernel_rfl)
 have hq := Rp (P := P) (t := 35) (te := 37) Tryz.underlying35
 have hn := Ro (P := P) (t := 35) (te := 37) (n := 2) Tryz.underlying35 (by kernel_rfl)
 refine Af.post fun Q hQ => ?_
 refine Bw (Fm _ _) ?_
 rcases hpp with rfl | rfl
 ·simp (disch := first | exact xD | fail) [-bind_some, qs, -Aa, -Ab, qm, h, hq, c1, hne, c2]
  exact hQ _ ⟨rfl, by simp (disch := first | exact xD | fail) [-bind_some, h], xM⟩
 ·simp (disch := first | exact xD | fail) [-bind_some, qs, -Aa, -Ab, h, hq, hn]
  exact hQ _ ⟨rfl, h, Mod.rfl⟩
theorem Oe {B b : Nat} {l m : List UInt8} {w : World} (h : TO B w b l) (hl : l.length + m.length ≤ 140737488355328) (hB : B ≤ w.heap.size) :
  Af (EV P 15 #[pt b 0, .string (AZ m)] w) fun r => r.1 = .tuple #[i64 m.length, .nilIface] ∧ TO B r.2 b (l ++ m) ∧ Mod (fun x => x = b ∨ B ≤ x) w r.2 := by
 obtain ⟨p, s, h1, h2, h3, h4⟩ := h
 have hlt := Aq h1
 refine Af.post fun Q hQ => ?_
 refine Bw (EE _ _ _) ?_
 simp (disch := first | exact xD | fail) [-bind_some, qs, -Aa, -Ab]
 refine Af.bind (P9 h1 h2) ?_
 rintro ⟨_, w1⟩ ⟨rfl, H1, M1⟩
 have zM1 := M1.size
 try simp only [] at zM1
 try dsimp only at H1 M1
 have zM1 := M1.size
 have h3' : w1.ownsRow B 5 1 s l.length (Lib.byteCells l) := by
  refine K6 h3 fun g hg => ?_
  have hgb : g ≠ b := fun e => h4 (by rw [hg, e])
  obtain ⟨_, h3⟩ := h3
  rcases h3 with ⟨rfl, _⟩ | ⟨g', cap, cur, rfl, h5, h6, _⟩
  ·cases hg
  ·cases hg
   exact M1.Ai _ (Aq h6) hgb
 obtain ⟨v', w2, k1, k2, k3, va, vn, vc, hv'⟩ := Vl (P := P) (t := 22) (u := 9) (ty := 22) (e := 5) Tryz.underlying22 Tryz.underlying9 (by kernel_rfl) (m := m) h3' hl Ad
 subst hv'
 have H2 : hp w2 b = some (.cells #[pt b 0, s] 37 (0, 0)) := (k3.Ai b Ad h4).trans H1
 have zk3 := k3.size
 have hno : (Value.slice va vn vc).ownBlock ≠ some b := by
  intro hv
  obtain ⟨_, k2⟩ := k2
  rcases k2 with ⟨k2, _⟩ | ⟨g', cap, cur, k2, h5, h6, _⟩
  ·rw [k2] at hv; cases hv
  ·rw [k2] at hv
   have h6' : hp w2 g' = some (.cells cur 5 (0, 0)) := h6
   rw [show g' = b by simpa [Value.ownBlock] using hv, H2] at h6'
   simp at h6'
 have hsb : ∀ g, s.ownBlock = some g → B ≤ g := by
  intro g hg
  obtain ⟨_, h3⟩ := h3
  rcases h3 with ⟨rfl, _⟩ | ⟨g', cap, cur, rfl, h5, h6, _⟩
  ·cases hg
  ·cases hg; exact h5
 have M2 : Mod (fun x => x = b ∨ B ≤ x) w w2 := (M1.SU fun x _ h => .inl h).tr (k3.SU fun x _ h => .inr (hsb x h))
 have zM2 := M2.size
 try simp only [qz] at zM2
 simp (disch := first | exact xD | fail) [-bind_some, -Aa, -Ab, qm, H1, k1, H2, AA]
 refine hQ _ ⟨rfl, ⟨pt b 0, .slice va vn vc, by simp (disch := first | exact xD | fail) [-bind_some, H2], .inr rfl, K6 k2 fun g hg => ?_, hno⟩, M2.AQ (.inr (.inl rfl)) _⟩
 exact Ac fun e => hno (by rw [hg, e])
theorem SE {B b : Nat} {l : List UInt8} {w : World} (h : TO B w b l) (hl : l.length ≤ 140737488355328) (hn : l = [] → hp w b = some (.cells #[.pointer none, .slice none 0 0] 37 (0, 0))) :
  Af (EV P 19 #[pt b 0] w) fun r => r.1 = .string (AZ l) ∧ Mod (fun x => B ≤ x) w r.2 := by
 obtain ⟨p, s, h1, h2, h3, h4⟩ := h
 have hlt := Aq h1
 refine Af.post fun Q hQ => ?_
 refine Bw (F9 _ _) ?_
 by_cases hl0 : l = []
 ·subst hl0
  have h1 := hn rfl
  simp (disch := first | exact xD | fail) [-bind_some, qs, -Aa, -Ab, h1, Uk, Vn, PM, Vm]
  exact hQ _ ⟨rfl, xM⟩
 ·have hpos : 0 < l.length := List.length_pos_iff.2 hl0
  obtain ⟨k0, h3⟩ := h3
  rcases h3 with ⟨rfl, h0⟩ | ⟨g, cap, cur, rfl, h5, h6, h7, h8, h9, h10⟩
  ·omega
  ·have hg : hp w g = some (.cells cur.toList.toArray 5 (0, 0)) := by show w.heap[g]? = _; rw [h6]
   have hgb : g ≠ b := fun e => h4 (by rw [e]; rfl)
   have hu := fun (w' : World) (hw : hp w' g = hp w g) => Vk (P := P) (pt' := 76) (it := 3) (ty := 9) (e := 5) Tryz.underlying76 (by kernel_rfl) (w := w') (g := g) (l := l) (cur := cur.toList) hpos Ad (hw.trans hg) (by rw [Nat.mul_one] at h10; exact h10)
   have hu1 := hu (dw w) (BW _ _)
   simp (disch := first | exact xD | fail) [-bind_some, qs, -Aa, -Ab, h1, Uk, Vj, PM, hu1]
   refine hQ _ ⟨rfl, ?_⟩
   have hM : Mod (fun x => B ≤ x) w (dw w) := Mod.dw _ _
   refine hM.tr ?_
   have hf : Ext (dw w) (dw w) := Ext.rfl
   have hfz := Lib.below_freeze (B := g) (a := dw w) (w := dw w) ⟨rfl, rfl, rfl, Nat.le_refl _, fun _ _ => rfl⟩ (p := ⟨g, 0, none⟩) (Nat.le_refl _) l.length
   refine ⟨hfz.os, hfz.tape, hfz.output, ?_, ?_⟩
   ·exact hfz.size
   ·intro x hx hnx
    exact hfz.block x Ad
theorem VC {S : Nat → Prop} {w : World} {a : Option Addr} {n c : Nat} {xs : List (List UInt8)} (h : O JS S w [.slice a n c] (xs.map AZ)) (h0 : 0 < xs.length) : ∃ g o, a = some ⟨g, o, none⟩ ∧ CT w g o xs := by
 obtain ⟨x, hx, _⟩ := An (l := xs) (k := 0) h0
 obtain ⟨g, o, rfl, _⟩ := Zd (i := 0) h (by rw [List.getElem?_map, hx]; rfl) Ext.rfl
 refine ⟨g, o, rfl, fun i y hy => ?_⟩
 obtain ⟨_, _, he, h1⟩ := Zd (i := i) h (by rw [List.getElem?_map, hy]; rfl) Ext.rfl
 cases he
 exact h1
theorem UU (l : List UInt8) (c : UInt8) (w : World) : Af (EV P 78 #[.string (AZ l), .string (AZ [c])] w) fun r => r = (i64 (l.count c), w) := by
 have hx : ∀ w, xf P 102 #[.string (AZ l), .int .u8 c.toNat] w = some (i64 (l.count c), w) := by
  intro w
  unfold xf
  rw [run_callFunc_extern (P := P) Tryz.func102 (by kernel_rfl) (by kernel_rfl) (by kernel_rfl) (e := Extern.BytealgCount.count) (by kernel_rfl), Lib.run_countString]
  rw [show (c.toNat : Int).toNat.toUInt8 = c by simp]
  rfl
 have hix := fun w => HI (P := P) (t := 9) (by kernel_rfl) [c] (k := .i64) (i := 0) AD (b := c) rfl w
 refine Af.post fun Q hQ => ?_
 refine Bw (KF _ _ _) ?_
 simp (disch := first | exact xD | fail) [-bind_some, -Aa, -Ab, AA, hix, hx]
 exact hQ _ rfl
theorem TP (l : List UInt8) (c : UInt8) (w : World) : Af (EV P 79 #[.string (AZ l), .string (AZ [c])] w) fun r => r = (i64 (Lib.indexByte l c), w) := by
 refine Af.post fun Q hQ => ?_
 refine Bw (KG _ _ _) ?_
 simp (disch := first | exact xD | fail) [-bind_some, -Aa, -Ab]
 refine Af.bind (Qg l c _) ?_
 rintro ⟨_, w1⟩ h
 simp only [Prod.mk.injEq] at h
 obtain ⟨rfl, rfl⟩ := h
 simp (disch := first | exact xD | fail) [-bind_some, -Aa, -Ab]
 exact hQ _ rfl
theorem Q0 {l : List UInt8} {c : UInt8} {g n : Nat} {xs : List (List UInt8)} {w0 : World} (hl : l.length ≤ 100000000) (hxs : xs = AV c l) (hn : xs.length = n) (hg : w0.heap.size ≤ g) :
  ∀ (d i : Nat) (e : Env) (w : World) (s : List UInt8), i + d + 1 = n → s.length ≤ l.length → AV c s = xs.drop i → e 0 = .string (AZ s) → e 1 = .string (AZ [c]) → e 2 = i64 0 → e 3 = i64 ((n - 1 : Nat) : Int) → e 9 = .slice (some ⟨g, 0, none⟩) n n → e 10 = i64 i →
   Ext w0 w → O JS (fun b => b = g) w [.slice (some ⟨g, 0, none⟩) n n] (HU (xs.map AZ) (AZ []) i) →
   Af (Ce e w) fun r => ∃ q, r.1 = .slice (some ⟨g, 0, none⟩) n q ∧ n ≤ q ∧ CT r.2 g 0 xs ∧ Ext w0 r.2 := by
 have hnl : n ≤ 100000001 := by
  have h1 := Dn c l
  have h2 := List.count_le_length (a := c) (l := l)
  rw [hxs] at hn
  omega
 have fin : ∀ (i : Nat) (e : Env) (w : World) (s : List UInt8), i + 1 = n → xs[i]? = some s → s.length ≤ l.length → e 0 = .string (AZ s) → e 9 = .slice (some ⟨g, 0, none⟩) n n → e 10 = i64 i → Ext w0 w → O JS (fun b => b = g) w [.slice (some ⟨g, 0, none⟩) n n] (HU (xs.map AZ) (AZ []) i) →
   Af (Cf e w) fun r => ∃ q, r.1 = .slice (some ⟨g, 0, none⟩) n q ∧ n ≤ q ∧ CT r.2 g 0 xs ∧ Ext w0 r.2 := by
  intro i e w s hi hs hsl e0 e9 e10 E0 ho
  have zE0 := E0.size
  try simp only [qz] at zE0
  rw [Hz]
  have hz := E0.size
  have hw1 : IntKind.i64.wrap ((i : Int) + 1) = (n : Int) := by rw [HS Ad Ad]; omega
  have hsl' := Ua (P := P) (t := 47) RD (a := some ⟨g, 0, none⟩) (len := n) (cap := n) (n := (n : Int)) Ad Ad
  rw [Int.toNat_natCast] at hsl'
  obtain ⟨g', cur, ds, S2, hgg, hSg, hgl, hgc, hle, hx1, hS2, put⟩ := ho.row (i := i) (x := AZ []) AD (O3 (by rw [List.length_map]; omega))
  simp only [Option.some.injEq, Addr.mk.injEq, and_true] at hgg
  subst hgg
  obtain ⟨rfl, _⟩ := O.str.1 hx1
  simp only [show HG.n = 1 from rfl, Nat.mul_one] at hgc hle put
  refine Af.post fun Q hQ => ?_
  simp (disch := first | exact xD | fail) [-bind_some, -Aa, -Ab, qm, e0, e9, e10, Fv, hgc, hw1, hsl']
  refine hQ _ ⟨n, rfl, Nat.le_refl _, ?_, xE⟩
  have hO := put (w.setRow g (Bu cur i [.string (AZ s)]).toArray) [.string (AZ s)] (AZ s) (fun _ => False) (O.str.2 ⟨rfl, by rw [AA]; omega⟩) (by first | assumption | rfl | (simp (disch := first | exact xD | fail) [-bind_some, -Aa, -Ab, hgc]; done)) (by intro b _ _ _ _; first | rfl | (simp (disch := first | exact xF | fail) only [E0.Ai, qk]; done)) (fun _ _ h => h.elim)
  rw [O4 (by rw [List.getElem?_map, hs]; rfl)] at hO
  have hfe : HU (xs.map AZ) (AZ []) (i + 1) = xs.map AZ := by rw [show i + 1 = (xs.map AZ).length by rw [List.length_map]; omega, SW]
  rw [hfe] at hO
  intro j y hy
  have hyj := hO.d.at (i := j) (x := AZ y) AD (by rw [List.getElem?_map, hy]; rfl)
  obtain ⟨b1, o1, cs1, he, A1, D1, _, _⟩ := hyj
  cases he
  obtain ⟨rfl, _⟩ := D.str.1 D1
  have := A1 0 _ rfl
  simpa only [show HG.n = 1 from rfl, Nat.mul_one, Nat.add_zero] using this
 intro d
 induction d with
 | zero =>
  intro i e w s hd hsl hss e0 e1 e2 e3 e9 e10 E0 ho
  have zE0 := E0.size
  try simp only [qz] at zE0
  rw [DX]
  have hlast : xs[i]? = some s := by
   have h1 : (xs.drop i).length = 1 := by rw [List.length_drop]; omega
   rw [← hss, Dn] at h1
   have h2 := JB (List.count_eq_zero.1 (show s.count c = 0 by omega))
   rw [h2] at hss
   have := congrArg (fun l => l[0]?) hss
   simpa using this.symm
  simp (disch := first | exact xD | fail) [-bind_some, -Aa, -Ab, e3, e10, show ¬ (i : Int) < ((n - 1 : Nat) : Int) by omega]
  exact fin i _ w s Ad hlast hsl xA xA xA E0 ho
 | succ d ih =>
  intro i e w s hd hsl hss e0 e1 e2 e3 e9 e10 E0 ho
  have zE0 := E0.size
  try simp only [qz] at zE0
  rw [DX]
  have hz := E0.size
  have hcount : s.count c = d + 1 := by
   have h1 : (xs.drop i).length = d + 2 := by rw [List.length_drop]; omega
   rw [← hss, Dn] at h1
   omega
  cases hc : DI c s with
  | none => have := List.count_eq_zero_of_not_mem (IH hc); omega
  | some p =>
   have hcs := Iy hc
   obtain ⟨hq1, hq2⟩ := GF hc
   have hsz : s.length = p.1.length + (p.2.length + 1) := by conv => lhs; rw [hq1]; simp
   have hpi : xs[i]? = some p.1 := by
    rw [hss] at hcs
    have := congrArg (fun l => l[0]?) hcs
    simpa using this
   have hpd : AV c p.2 = xs.drop (i + 1) := by
    rw [hss] at hcs
    have := congrArg List.tail hcs
    rw [List.tail_drop] at this
    exact this.symm
   have hix := NL c s
   rw [hc] at hix
   have hix : Lib.indexByte s c = (p.1.length : Int) := hix
   have hw0 : IntKind.i64.wrap ((p.1.length : Int) + 0) = (p.1.length : Int) := by rw [Int.add_zero]; exact HS Ad Ad
   have hw1 : IntKind.i64.wrap ((p.1.length : Int) + 1) = (p.1.length : Int) + 1 := HS Ad Ad
   have hs1 := fun w => Hs (P := P) (t := 9) (by kernel_rfl) s (j := (p.1.length : Int)) Ad Ad w
   have ht1 : s.take p.1.length = p.1 := by conv => lhs; rw [hq1]; simp
   rw [Int.toNat_natCast, ht1] at hs1
   have hs2 := fun w => CU (P := P) (t := 9) (by kernel_rfl) s (i := (p.1.length : Int) + 1) Ad Ad w
   have ht2 : s.drop (p.1.length + 1) = p.2 := by conv => lhs; rw [hq1, show p.1.length + 1 = (p.1 ++ [c]).length by simp, show p.1 ++ c :: p.2 = (p.1 ++ [c]) ++ p.2 by simp, List.drop_left]
   rw [show ((p.1.length : Int) + 1).toNat = p.1.length + 1 by omega, ht2] at hs2
   obtain ⟨g', cur, ds, S2, hgg, hSg, hgl, hgc, hle, hx1, hS2, put⟩ := ho.row (i := i) (x := AZ []) AD (O3 (by rw [List.length_map]; omega))
   simp only [Option.some.injEq, Addr.mk.injEq, and_true] at hgg
   subst hgg
   obtain ⟨rfl, _⟩ := O.str.1 hx1
   simp only [show HG.n = 1 from rfl, Nat.mul_one] at hgc hle put
   refine Af.post fun Q hQ => ?_
   simp (disch := first | exact xD | fail) [-bind_some, qs, -Aa, -Ab, e0, e1, e2, e3, e9, e10, show (i : Int) < ((n - 1 : Nat) : Int) by omega]
   refine Af.bind (TP s c _) ?_
   rintro ⟨_, w1⟩ h
   simp only [Prod.mk.injEq] at h
   obtain ⟨rfl, rfl⟩ := h
   rw [hix]
   simp (disch := first | exact xD | fail) [-bind_some, qs, -Aa, -Ab, qm, show ¬ (p.1.length : Int) < 0 by omega, hs1, Fv, hgc, AA, hw1, hs2]
   refine Af.mono (ih (i + 1) _ _ p.2 Ad Ad hpd xA xA xA xA xA xA xE ?_) hQ
   rw [← O4 (x := AZ p.1) (by rw [List.getElem?_map, hpi]; rfl)]
   exact (put _ _ (AZ p.1) (fun _ => False) (O.str.2 ⟨rfl, by rw [AA]; omega⟩) (by first | assumption | rfl | (simp (disch := first | exact xD | fail) [-bind_some, -Aa, -Ab, hgc]; done)) (by intro b _ _ _ _; first | rfl | (simp (disch := first | exact xF | fail) only [E0.Ai, qk]; done)) (fun _ _ h => h.elim)).wide fun b h _ => h.elim id fun h => h.elim
theorem UW {l : List UInt8} {c : UInt8} (hl : l.length ≤ 100000000) (w : World) : Af (EV P 44 #[.string (AZ l), .string (AZ [c])] w) fun r => ∃ q, r.1 = .slice (some ⟨w.heap.size, 0, none⟩) (AV c l).length q ∧ (AV c l).length ≤ q ∧ CT r.2 w.heap.size 0 (AV c l) ∧ Ext w r.2 := by
 have hlen := Dn c l
 have hcl := List.count_le_length (a := c) (l := l)
 have hneg : (([c] : List UInt8) == []) = false := rfl
 have hw1 : IntKind.i64.wrap ((l.count c : Int) + 1) = ((AV c l).length : Int) := by rw [HS Ad Ad]; omega
 have hw2 : IntKind.i64.wrap ((l.length : Int) + 1) = (l.length : Int) + 1 := HS Ad Ad
 have hw3 : IntKind.i64.wrap (((AV c l).length : Int) - 1) = (((AV c l).length - 1 : Nat) : Int) := by rw [HS Ad Ad]; omega
 have hmin : ∀ (ts : Array TypeId) (t : TypeId) (w : World), RH P ts t #[i64 ((AV c l).length : Int), i64 ((l.length : Int) + 1)] w = some (i64 ((AV c l).length : Int), w) := by
  intro ts t w
  rw [SI, if_neg Ad]
 refine Af.post fun Q hQ => ?_
 refine Bw (KC _ _ _) ?_
 simp (disch := first | exact xD | fail) [-bind_some, -Aa, -Ab]
 refine Af.bind (Q := fun r => ∃ q, r.1 = .slice (some ⟨w.heap.size, 0, none⟩) (AV c l).length q ∧ (AV c l).length ≤ q ∧ CT r.2 w.heap.size 0 (AV c l) ∧ Ext w r.2) ?_ ?_
 ·refine Af.post fun Q hQ => ?_
  refine Bw (IM _ _ _ _ _) ?_
  simp (disch := first | exact xD | fail) [-bind_some, -Aa, -Ab, Az]
  refine Af.bind (UU l c _) ?_
  rintro ⟨_, w1⟩ h
  simp only [Prod.mk.injEq] at h
  obtain ⟨rfl, hw'⟩ := h
  obtain rfl := hw'.symm
  simp (disch := first | exact xD | fail) [-bind_some, -Aa, -Ab, hw1]
  rw [Hy]
  simp (disch := first | exact xD | fail) [-bind_some, qs, -Aa, -Ab, AA, hw2, hmin]
  refine Af.bind (O.make (L := HG) (mx := 8796093021952) (x0 := (⟨#[]⟩ : ByteArray)) RD XL rfl AD (fun w => O.str.2 ⟨rfl, by decide⟩) (n := (AV c l).length) Ad AD AD) ?_
  rintro ⟨_, w1⟩ ⟨rfl, o1, z1, E1⟩
  have zE1 := E1.size
  try simp only [] at zE1
  try dsimp only at o1 z1 E1
  simp (disch := first | exact xD | fail) [-bind_some, -Aa, -Ab]
  refine Af.mono (Q0 (l := l) (c := c) (g := w.heap.size) (n := (AV c l).length) (xs := AV c l) (w0 := w) hl rfl rfl (Nat.le_refl _) ((AV c l).length - 1) 0 _ w1 l Ad (Nat.le_refl _) (by rw [List.drop_zero]) xA xA xA xA xA xA E1 ?_) hQ
  rw [Rk, List.length_map]
  exact o1
 ·rintro ⟨_, w1⟩ ⟨q, rfl, h1, h2, h3⟩
  simp (disch := first | exact xD | fail) [-bind_some, -Aa, -Ab]
  exact hQ _ ⟨q, rfl, h1, h2, h3⟩
theorem KJ {d : Done} (h : Dq d = true) : (Bz d).length ≤ 2020 := by
 obtain ⟨a1, a2, a3, a4, _⟩ := Fh.1 h
 have h1 := BL d.Ay.toNat
 have h2 := BL d.key.toNat
 have h3 := Nd a4
 have h4 : (Ct d.kind).length ≤ 5 := by unfold Ct; split; decide; split <;> decide
 simp only [Bz, List.length_append, List.length_cons]
 omega
theorem Hg : ∀ {l : List Done}, (∀ d ∈ l, Dq d = true) → (AP l).length ≤ 2021 * l.length
 | [], _ => by simp [AP]
 | d :: l, h => by
  have h1 := KJ (h d List.mem_cons_self)
  have h2 := Hg (l := l) fun x hx => h x (List.mem_cons_of_mem _ hx)
  simp only [AP, List.length_append, List.length_cons]
  omega
theorem Le (w : World) : Af (EV P 17 #[] w) fun r => ∃ g, r.1 = .slice (some ⟨g, 0, none⟩) 4 4 ∧ CT r.2 g 0 JC ∧ Ext w r.2 := by
 refine Af.post fun Q hQ => ?_
 refine Bw (JH _) ?_
 simp (disch := first | exact xD | fail) [-bind_some, -Aa, -Ab]
 refine hQ _ ⟨_, rfl, fun i x hx => ?_, xE⟩
 exact At.new (w := w) (cs := JC.map fun x => Value.string (AZ x)) (E := 9) i _ (by rw [List.getElem?_map, hx]; rfl)
theorem IF (w : World) : Af (EV P 30 #[] w) fun r => ∃ g, r.1 = .slice (some ⟨g, 0, none⟩) 4 4 ∧ CT r.2 g 0 JC ∧ Ext w r.2 := by
 refine Af.post fun Q hQ => ?_
 refine Bw (Ls _) ?_
 simp (disch := first | exact xD | fail) [-bind_some, -Aa, -Ab]
 refine hQ _ ⟨_, rfl, fun i x hx => ?_, xE⟩
 exact At.new (w := w) (cs := JC.map fun x => Value.string (AZ x)) (E := 9) i _ (by rw [List.getElem?_map, hx]; rfl)
theorem SF {a : Option Addr} {c b B : Nat} {S : Nat → Prop} {xs : List Done} {w0 : World} (G : Glob w0) (hok : ∀ d ∈ xs, Dq d = true) (hl : xs.length ≤ 80) (hb : w0.heap.size ≤ b) (hBB : b < B) (ha : D Bx S w0 [.slice a xs.length c] xs) :
  ∀ (d k : Nat) (e : Env) (w : World), k + d = xs.length → e 3 = pt b 0 → e 9 = .slice a xs.length c → e 10 = i64 xs.length → e 11 = i64 k → Ext w0 w → B ≤ w.heap.size → TO B w b (AP (xs.take k)) → (k = 0 → hp w b = some (.cells #[.pointer none, .slice none 0 0] 37 (0, 0))) →
   Af (Dr e w) fun r => r.1 = .string (AZ (AP xs)) ∧ Ext w0 r.2 := by
 have hn := ha.n
 intro d
 induction d with
 | zero =>
  intro k e w hd e3 e9 e10 e11 E0 hB hbl hnil
  have zE0 := E0.size
  try simp only [qz] at zE0
  rw [FK]
  obtain rfl : k = xs.length := by omega
  rw [List.take_of_length_le (Nat.le_refl _)] at hbl
  have hlen := Hg hok
  refine Af.post fun Q hQ => ?_
  simp (disch := first | exact xD | fail) [-bind_some, -Aa, -Ab, e3, e10, e11]
  refine Af.bind (SE hbl Ad (fun h => hnil ?_)) ?_
  ·cases xs with
   | nil => rfl
   | cons x r => have := congrArg List.length h; simp [AP] at this
  rintro ⟨_, w1⟩ ⟨rfl, M1⟩
  have zM1 := M1.size
  try simp only [] at zM1
  try dsimp only at M1
  simp (disch := first | exact xD | fail) [-bind_some, -Aa, -Ab]
  exact hQ _ ⟨rfl, Mod.after (a := w0) E0 M1 (by intro x hx h; omega)⟩
 | succ d ih =>
  intro k e w hd e3 e9 e10 e11 E0 hB hbl hnil
  have zE0 := E0.size
  try simp only [qz] at zE0
  rw [FK]
  have hlt : k < xs.length := by omega
  obtain ⟨x, hx, hdx⟩ := An hlt
  have hox := hok x (List.mem_of_getElem? hx)
  have hzE := E0.size
  obtain ⟨q1, q2, q3, q4, _⟩ := Fh.1 hox
  obtain ⟨s, hs⟩ : ∃ s : Nat, x.Ay = s := ⟨x.Ay.toNat, by omega⟩
  obtain ⟨kd, hkd⟩ : ∃ s : Nat, x.kind = s := ⟨x.kind.toNat, by omega⟩
  obtain ⟨ky, hky⟩ : ∃ s : Nat, x.key = s := ⟨x.key.toNat, by omega⟩
  have hkw := Kj q2.1 q2.2
  rw [show x.kind.toNat = kd by omega] at hkw
  have hll := KJ hox
  have e1 : Bz x = Bn s ++ [32] ++ Ct x.kind ++ [32] ++ Bn ky ++ [32] ++ C6 x.tag := by
   rw [Bz, show x.Ay.toNat = s by omega, show x.key.toNat = ky by omega]; simp
  have hal : (AP (xs.take k)).length ≤ 2021 * 80 := by
   have h1 := Hg (l := xs.take k) fun d hd => hok d (List.mem_of_mem_take hd)
   have h2 : (xs.take k).length ≤ 80 := by rw [List.length_take]; omega
   omega
  have d1 := BL s
  have d2 := BL ky
  have d3 := Nd q4
  have d4 : (Ct x.kind).length ≤ 5 := by unfold Ct; split; decide; split <;> decide
  obtain ⟨b1, o1, cs1, rfl, A1, D1, _, l1⟩ := (ha.ext E0).at AD hx
  obtain rfl := D.done.1 D1
  have p0 := A1 0 _ rfl
  have p1 := A1 1 _ rfl
  have p2 := A1 2 _ rfl
  have p3 := A1 3 _ rfl
  have p4 := A1 4 _ rfl
  simp only [Nat.add_zero] at p0 p1 p2 p3 p4
  simp only [Ko] at p0 p1 p2 p3 p4
  rw [hs] at p0
  rw [hkd] at p1
  rw [hky] at p2
  refine Af.post fun Q hQ => ?_
  simp (disch := first | exact xD | fail) [-bind_some, qs, -Aa, -Ab, qm, e3, e9, e10, e11, hlt, JR, p0, p1, p2, p3, p4]
  refine Af.bind (PE (n := s) Ad (G.ext xE)) ?_
  rintro ⟨_, w1⟩ ⟨rfl, E1⟩
  try dsimp only at E1
  have zE1 := E1.size
  try simp only [qz] at zE1
  have X1 : hp w1 w.heap.size = some (.cells #[i64 s, i64 kd, i64 ky, i64 x.tag.t, i64 x.tag.p] 41 (0, 0)) := (by first | assumption | rfl | (simp (disch := first | exact xD | fail) [-bind_some, qs, -Aa, -Ab, E1.Ai]; done))
  simp (disch := first | exact xD | fail) [-bind_some, -Aa, -Ab, X1, Dg, Ba, Az]
  refine Af.bind (Le _) ?_
  rintro ⟨_, w2⟩ ⟨g, rfl, A2, E2⟩
  have zE2 := E2.size
  try simp only [] at zE2
  try dsimp only at A2 E2
  have zE2 := E2.size
  have c2 := A2 _ _ hkw
  rw [Nat.zero_add] at c2
  have X2 := (E2.Ai (Aq X1)).trans X1
  simp (disch := first | exact xD | fail) [-bind_some, -Aa, -Ab, X2, Ba, Az, Fv, c2]
  refine Af.bind (PE (n := ky) Ad (G.ext xE)) ?_
  rintro ⟨_, w3⟩ ⟨rfl, E3⟩
  try dsimp only at E3
  have zE3 := E3.size
  try simp only [qz] at zE3
  have X3 := (E3.Ai (Aq X2)).trans X2
  have c3 := AX E3 c2
  simp (disch := first | exact xD | fail) [-bind_some, -Aa, -Ab, X3, Ba, Az, c3]
  refine Af.bind (HP q4 (G.ext xE)) ?_
  rintro ⟨_, w4⟩ ⟨rfl, E4⟩
  try dsimp only at E4
  have zE4 := E4.size
  try simp only [qz] at zE4
  have X4 := (E4.Ai (Aq X3)).trans X3
  have c4 := AX E4 c3
  simp (disch := first | exact xD | fail) [-bind_some, -Aa, -Ab, X4, Ba, Az, c4]
  have F4 : Ext w w4 := xE
  have zF4 := F4.size
  have hb4 : TO B w4 b (AP (xs.take k)) := by
   obtain ⟨p, sl, k1, k2, k3, k4⟩ := hbl
   refine ⟨p, sl, (F4.Ai (Aq k1)).trans k1, k2, K6 k3 fun g hg => ?_, k4⟩
   obtain ⟨_, k3⟩ := k3
   rcases k3 with ⟨rfl, _⟩ | ⟨g', cap, cur, rfl, h5, h6, _⟩
   ·cases hg
   ·cases hg; exact F4.Ai (Aq h6)
  refine Af.bind (Oe (m := Bn s ++ 32 :: (Ct x.kind ++ 32 :: (Bn ky ++ 32 :: (C6 x.tag ++ [10])))) hb4 (by simp only [List.length_append, List.length_cons, List.length_nil]; omega) Ad) ?_
  rintro ⟨_, w5⟩ ⟨rfl, hb5, M5⟩
  have zM5 := M5.size
  try simp only [] at zM5
  try dsimp only at hb5 M5
  have zM5 := M5.size
  simp (disch := first | exact xD | fail) [-bind_some, -Aa, -Ab]
  refine Af.mono (ih (k + 1) _ _ Ad xA xA xA xA (Mod.after (a := w0) (E0.tr F4) M5 (by intro x hx h; omega)) Ad ?_ Ad) hQ
  have : AP (xs.take (k + 1)) = AP (xs.take k) ++ (Bn s ++ 32 :: (Ct x.kind ++ 32 :: (Bn ky ++ 32 :: (C6 x.tag ++ [10])))) := by
   rw [List.take_add_one, hx]
   simp [K7, AP, e1]
  rw [this]
  exact hb5
theorem Ie {a : Option Addr} {n c : Nat} {S : Nat → Prop} {xs : List Done} {w : World} (G : Glob w) (ha : D Bx S w [.slice a n c] xs) :
  Af (EV P 6 #[.slice a n c] w) fun r => r.1 = .string (AZ (BZ xs)) ∧ Ext w r.2 := by
 obtain ⟨rfl, _⟩ := ha.n
 refine Af.post fun Q hQ => ?_
 refine Bw (Lk _ _) ?_
 simp (disch := first | exact xD | fail) [-bind_some, -Aa, -Ab]
 refine Af.bind (GY ha) ?_
 rintro ⟨_, w1⟩ ⟨rfl, E1⟩
 try dsimp only at E1
 have zE1 := E1.size
 try simp only [qz] at zE1
 cases hf : BM xs
 ·simp (disch := first | exact xD | fail) [-bind_some, -Aa, -Ab]
  exact hQ _ ⟨by rw [BZ, hf]; rfl, xE⟩
 ·have hpu : BZ xs = AP xs := by rw [BZ, hf]; rfl
  rw [hpu] at hQ
  simp (disch := first | exact xD | fail) [-bind_some, -Aa, -Ab]
  refine Af.mono (SF (w0 := w) (b := w1.heap.size) (B := w1.heap.size + 1) G (C5 hf) (DN hf) Ad Ad ha xs.length 0 _ _ Ad xA xA xA xA xE (by simp) (Zg.nil (by first | assumption | rfl | (simp (disch := first | exact xD | fail) [-bind_some, qs, -Aa, -Ab]; done))) (fun _ => (by first | assumption | rfl | (simp (disch := first | exact xD | fail) [-bind_some, qs, -Aa, -Ab]; done)))) hQ
theorem I8 {d : Done} (h : Dq d = true) (w : World) : Af (EV P 21 #[.agg (Cd d).toArray] w) fun r => r.1 = .string (AZ (Bz d ++ [10])) ∧ Ext w r.2 := by
 obtain ⟨q1, q2, q3, q4, _⟩ := Fh.1 h
 obtain ⟨s, hs⟩ : ∃ s : Nat, d.Ay = s := ⟨d.Ay.toNat, by omega⟩
 obtain ⟨kd, hkd⟩ : ∃ s : Nat, d.kind = s := ⟨d.kind.toNat, by omega⟩
 obtain ⟨ky, hky⟩ : ∃ s : Nat, d.key = s := ⟨d.key.toNat, by omega⟩
 have hkw := Kj q2.1 q2.2
 rw [show d.kind.toNat = kd by omega] at hkw
 have e1 : Bz d ++ [10] = Bn s ++ [32] ++ Ct d.kind ++ [32] ++ Bn ky ++ [32] ++ C6 d.tag ++ [10] := by
  rw [Bz, show d.Ay.toNat = s by omega, show d.key.toNat = ky by omega]; simp
 have d1 := BL s
 have d2 := BL ky
 have d3 := Nd q4
 have d4 : (Ct d.kind).length ≤ 5 := by unfold Ct; split; decide; split <;> decide
 rw [e1]
 generalize hkl : Ct d.kind = kl at *
 simp only [Cd]
 rw [hs, hkd, hky]
 refine Af.post fun Q hQ => ?_
 refine Bw (Mi _ _) ?_
 simp (disch := first | exact xD | fail) [-bind_some, qs, -Aa, -Ab]
 refine Af.bind (FE s Ad _) ?_
 rintro ⟨_, w1⟩ ⟨rfl, E1⟩
 try dsimp only at E1
 have zE1 := E1.size
 try simp only [qz] at zE1
 have X1 : hp w1 w.heap.size = some (.cells #[i64 s, i64 kd, i64 ky, i64 d.tag.t, i64 d.tag.p] 41 (0, 0)) := (by first | assumption | rfl | (simp (disch := first | exact xD | fail) [-bind_some, qs, -Aa, -Ab, E1.Ai]; done))
 simp (disch := first | exact xD | fail) [-bind_some, -Aa, -Ab, X1, Dg, Ba, Az]
 refine Af.bind (IF _) ?_
 rintro ⟨_, w2⟩ ⟨g, rfl, A2, E2⟩
 have zE2 := E2.size
 try simp only [] at zE2
 try dsimp only at A2 E2
 have zE2 := E2.size
 have c2 := A2 _ _ hkw
 rw [Nat.zero_add] at c2
 have X2 := (E2.Ai (Aq X1)).trans X1
 simp (disch := first | exact xD | fail) [-bind_some, -Aa, -Ab, X2, Ba, Az, Fv, c2]
 refine Af.bind (FE ky Ad _) ?_
 rintro ⟨_, w3⟩ ⟨rfl, E3⟩
 try dsimp only at E3
 have zE3 := E3.size
 try simp only [qz] at zE3
 have X3 := (E3.Ai (Aq X2)).trans X2
 have c3 := AX E3 c2
 simp (disch := first | exact xD | fail) [-bind_some, -Aa, -Ab, X3, Ba, Az, c3]
 refine Af.bind (J7 q4 _) ?_
 rintro ⟨_, w4⟩ ⟨rfl, E4⟩
 try dsimp only at E4
 have zE4 := E4.size
 try simp only [qz] at zE4
 have X4 := (E4.Ai (Aq X3)).trans X3
 have c4 := AX E4 c3
 simp (disch := first | exact xD | fail) [-bind_some, -Aa, -Ab, X4, Ba, Az, c4]
 exact hQ _ ⟨by simp, xE⟩
theorem Mz {a : Option Addr} {c : Nat} {S : Nat → Prop} {xs : List Done} {w0 : World} (ha : D Bx S w0 [.slice a xs.length c] xs) :
  ∀ (d k : Nat) (e : Env) (w : World), k + d = xs.length → e 0 = .slice a xs.length c → e 3 = .string (AZ (AP (xs.take k))) → e 4 = i64 k → BM xs = true → Ext w0 w →
   Af (Ds e w) fun r => r.1 = .string (AZ (AP xs)) ∧ Ext w0 r.2 := by
 have hn := ha.n
 intro d
 induction d with
 | zero =>
  intro k e w hd e0 e3 e4 hf E0
  have zE0 := E0.size
  try simp only [qz] at zE0
  rw [DB]
  obtain rfl : k = xs.length := by omega
  rw [List.take_of_length_le (Nat.le_refl _)] at e3
  refine Af.post fun Q hQ => ?_
  simp (disch := first | exact xD | fail) [-bind_some, -Aa, -Ab, e0, e3, e4]
  exact hQ _ ⟨rfl, E0⟩
 | succ d ih =>
  intro k e w hd e0 e3 e4 hf E0
  have zE0 := E0.size
  try simp only [qz] at zE0
  rw [DB]
  have hok := C5 hf
  have hl := DN hf
  have hlt : k < xs.length := by omega
  obtain ⟨x, hx, hdx⟩ := An hlt
  have hox := hok x (List.mem_of_getElem? hx)
  have hll := KJ hox
  have hal : (AP (xs.take k)).length ≤ 2021 * 80 := by
   have h1 := Hg (l := xs.take k) fun d hd => hok d (List.mem_of_mem_take hd)
   have h2 : (xs.take k).length ≤ 80 := by rw [List.length_take]; omega
   omega
  refine Af.post fun Q hQ => ?_
  simp (disch := first | exact xD | fail) [-bind_some, qs, -Aa, -Ab, e0, e3, e4, hlt]
  refine Af.bind (ET (ha.ext xE)) ?_
  rintro ⟨_, w1⟩ ⟨rfl, E1⟩
  try dsimp only at E1
  have zE1 := E1.size
  try simp only [qz] at zE1
  obtain ⟨b1, o1, cs1, rfl, A1, D1, _, l1⟩ := (ha.ext (E0.tr E1)).at AD hx
  obtain rfl := D.done.1 D1
  have p0 := A1 0 _ rfl
  have p1 := A1 1 _ rfl
  have p2 := A1 2 _ rfl
  have p3 := A1 3 _ rfl
  have p4 := A1 4 _ rfl
  simp only [Nat.add_zero] at p0 p1 p2 p3 p4
  simp only [Ko] at p0 p1 p2 p3 p4
  simp (disch := first | exact xD | fail) [-bind_some, -Aa, -Ab, hf, JR, p0, p1, p2, p3, p4]
  refine Af.bind (I8 hox _) ?_
  rintro ⟨_, w2⟩ ⟨rfl, E2⟩
  try dsimp only at E2
  have zE2 := E2.size
  try simp only [qz] at zE2
  simp (disch := first | exact xD | fail) [-bind_some, -Aa, -Ab, Ba, Az]
  refine Af.mono (ih (k + 1) _ _ Ad xA ?_ xA hf xE) hQ
  have : AP (xs.take (k + 1)) = AP (xs.take k) ++ (Bz x ++ [10]) := by
   rw [List.take_add_one, hx]
   simp [K7, AP]
  rw [this]
  rfl
theorem MD {a : Option Addr} {n c : Nat} {S : Nat → Prop} {xs : List Done} {w : World} (ha : D Bx S w [.slice a n c] xs) :
  Af (EV P 7 #[.slice a n c] w) fun r => r.1 = .string (AZ (BZ xs)) ∧ Ext w r.2 := by
 obtain ⟨rfl, _⟩ := ha.n
 refine Af.post fun Q hQ => ?_
 refine Bw (Ll _ _) ?_
 cases hf : BM xs
 ·have hpu : BZ xs = [] := by rw [BZ, hf]; rfl
  rw [hpu] at hQ
  simp (disch := first | exact xD | fail) [-bind_some, -Aa, -Ab]
  rw [DB]
  by_cases h0 : 0 < xs.length
  ·simp (disch := first | exact xD | fail) [-bind_some, qs, -Aa, -Ab, h0]
   refine Af.bind (ET ha) ?_
   rintro ⟨_, w1⟩ ⟨rfl, E1⟩
   try dsimp only at E1
   have zE1 := E1.size
   try simp only [qz] at zE1
   simp (disch := first | exact xD | fail) [-bind_some, -Aa, -Ab, hf]
   exact hQ _ ⟨rfl, xE⟩
  ·simp (disch := first | exact xD | fail) [-bind_some, qs, -Aa, -Ab, h0]
   exact hQ _ ⟨rfl, xE⟩
 ·have hpu : BZ xs = AP xs := by rw [BZ, hf]; rfl
  rw [hpu] at hQ
  simp (disch := first | exact xD | fail) [-bind_some, -Aa, -Ab]
  exact Af.mono (Mz ha xs.length 0 _ _ Ad rfl rfl rfl hf xE) hQ
theorem UX {g c : Nat} {xs : List (List UInt8)} {s : List UInt8} {w : World} (hA : CT w g 0 xs) (hl : xs.length ≤ 100) : ∀ (d k : Nat) (e : Env), k + d = xs.length → e 0 = .slice (some ⟨g, 0, none⟩) xs.length c → e 1 = .string (AZ s) → e 7 = i64 xs.length → e 8 = i64 k →
  Af (BS e w) fun r => ∃ m, r = (i64 m, w) ∧ ∀ j, k ≤ j → xs[j]? = some s → (∀ i, i < j → xs[i]? ≠ some s) → m = j := by
 intro d
 induction d with
 | zero =>
  intro k e hd e0 e1 e7 e8
  rw [C7]
  obtain rfl : k = xs.length := by omega
  refine Af.post fun Q hQ => ?_
  simp (disch := first | exact xD | fail) [-bind_some, -Aa, -Ab, e7, e8]
  refine hQ _ ⟨-1, rfl, fun j hj h1 => ?_⟩
  rw [List.getElem?_eq_none hj] at h1
  cases h1
 | succ d ih =>
  intro k e hd e0 e1 e7 e8
  rw [C7]
  have hlt : k < xs.length := by omega
  obtain ⟨x, hx, _⟩ := An hlt
  have hc := hA _ _ hx
  rw [Nat.zero_add] at hc
  refine Af.post fun Q hQ => ?_
  by_cases hs : s = x
  ·subst hs
   simp (disch := first | exact xD | fail) [-bind_some, -Aa, -Ab, e0, e1, e7, e8, hlt, Fv, hc, Az]
   refine hQ _ ⟨k, rfl, fun j hj h1 h2 => ?_⟩
   rcases Nat.lt_or_ge k j with h | h
   ·exact absurd hx (h2 k h)
   ·omega
  ·have hs' : (s == x) = false := beq_eq_false_iff_ne.2 hs
   simp (disch := first | exact xD | fail) [-bind_some, qs, -Aa, -Ab, e0, e1, e7, e8, hlt, Fv, hc, Az, hs']
   refine Af.mono (ih (k + 1) _ Ad xA xA xA xA) ?_
   rintro r ⟨m, rfl, h⟩
   refine hQ _ ⟨m, rfl, fun j hj h1 h2 => ?_⟩
   rcases Nat.lt_or_ge k j with h' | h'
   ·exact h j Ad h1 h2
   ·obtain rfl : j = k := by omega
    rw [hx] at h1
    exact absurd (Option.some.inj h1).symm hs
theorem UY {g c : Nat} {s : List UInt8} {w : World} (hA : CT w g 0 JC) : Af (EV P 47 #[.slice (some ⟨g, 0, none⟩) 4 c, .string (AZ s)] w) fun r => ∃ m, r = (i64 m, w) ∧ ∀ k : Int, 1 ≤ k → k ≤ 3 → s = Ct k → m = k := by
 refine Af.post fun Q hQ => ?_
 refine Bw (Hx _ _ _) ?_
 simp (disch := first | exact xD | fail) [-bind_some, -Aa, -Ab]
 refine Af.mono (UX (g := g) (c := c) (xs := JC) (s := s) hA AD 4 0 _ rfl rfl rfl rfl rfl) ?_
 rintro _ ⟨m, rfl, h⟩
 refine hQ _ ⟨m, rfl, fun k h1 h2 h3 => ?_⟩
 have h4 := Kj h1 h2
 rw [← h3] at h4
 have := h k.toNat Ad h4 (fun i hi h5 => ?_)
 ·omega
 ·rw [h3] at h5
  have hk : k = 1 ∨ k = 2 ∨ k = 3 := by omega
  have hi' : i = 0 ∨ i = 1 ∨ i = 2 := by omega
  rcases hk with rfl | rfl | rfl <;> rcases hi' with rfl | rfl | rfl <;> first | omega | (exact absurd h5 AD)
theorem XY {α : Type} {l : List α} (h : l.length = 4) : ∃ a b c d, l = [a, b, c, d] := by
 match l, h with
 | [a, b, c, d], _ => exact ⟨a, b, c, d, rfl⟩
theorem TQ {l : List UInt8} {c : UInt8} (hl : l.length ≤ 100000000) (w : World) : Af (EV P 44 #[.string (AZ l), .string (AZ [c])] w) fun r => ∃ g q, r.1 = .slice (some ⟨g, 0, none⟩) (AV c l).length q ∧ (AV c l).length ≤ q ∧ CT r.2 g 0 (AV c l) ∧ Ext w r.2 :=
 Af.mono (UW hl w) fun r ⟨q, h1, h2, h3, h4⟩ => ⟨_, q, h1, h2, h3, h4⟩
theorem Q1 {l : List UInt8} (hl : l.length ≤ 100000000) {w : World} (G : GlobE w) : Af (EV P 23 #[.string (AZ l)] w) fun r => ∃ d ok, r.1 = .tuple #[.agg #[i64 d.Ay, i64 d.kind, i64 d.key, i64 d.tag.t, i64 d.tag.p], .bool ok] ∧ (∀ d', Dq d' = true → Bz d' = l → ok = true ∧ d = d') ∧ Ext w r.2 := by
 have hsz := O5 32 l
 refine Af.post fun Q hQ => ?_
 refine Bw (Kz _ _) ?_
 simp (disch := first | exact xD | fail) [-bind_some, qs, -Aa, -Ab, Dg]
 refine Af.bind (TQ (c := 32) hl _) ?_
 rintro ⟨_, w1⟩ ⟨g, q, rfl, hq, A1, E1⟩
 have zE1 := E1.size
 try simp only [qz] at zE1
 try dsimp only at A1 E1
 have X1 : hp w1 w.heap.size = some (.cells #[i64 0, i64 0, i64 0, i64 0, i64 0] 41 (0, 0)) := (E1.Ai (by simp)).trans (by first | assumption | rfl | (simp (disch := first | exact xD | fail) [-bind_some, qs, -Aa, -Ab]; done))
 have zE1 := E1.size
 simp only [World.size_alloc] at zE1
 by_cases h4 : (AV 32 l).length = 4
 ·obtain ⟨y0, y1, y2, y3, hy⟩ := XY h4
  rw [hy] at A1 hsz hq
  have hw : ∀ d', Dq d' = true → Bz d' = l → y0 = Bn d'.Ay.toNat ∧ y1 = Ct d'.kind ∧ y2 = Bn d'.key.toNat ∧ y3 = C6 d'.tag := by
   intro d' h1 h2
   have h3 := HH d'
   rw [h2, hy, K8] at h3
   simp only [List.cons.injEq, and_true] at h3
   exact h3
  have s0 := hsz y0 (by simp)
  have s2 := hsz y2 (by simp)
  have s3 := hsz y3 (by simp)
  have c0 := A1 0 y0 rfl
  have c1 := A1 1 y1 rfl
  have c2 := A1 2 y2 rfl
  have c3 := A1 3 y3 rfl
  rw [Nat.zero_add] at c0 c1 c2 c3
  have hg1 := Hr c0
  simp (disch := first | exact xD | fail) [-bind_some, -Aa, -Ab, h4, c0, Fv]
  refine Af.bind (Px (l := y0) Ad (G.ext xE)) ?_
  rintro ⟨_, w2⟩ ⟨E2, m0, er0, rfl, he0, hv0⟩
  try dsimp only at E2 m0 er0 he0 hv0
  have zE2 := E2.size
  try simp only [qz] at zE2
  have c22 := AX E2 c2
  simp (disch := first | exact xD | fail) [-bind_some, qs, -Aa, -Ab, c2, E2.Ai]
  refine Af.bind (Px (l := y2) Ad (G.ext xE)) ?_
  rintro ⟨_, w3⟩ ⟨E3, m2, er2, rfl, he2, hv2⟩
  try dsimp only at E3 m2 er2 he2 hv2
  have zE3 := E3.size
  try simp only [qz] at zE3
  have c33 := AX E3 (AX E2 c3)
  simp (disch := first | exact xD | fail) [-bind_some, qs, -Aa, -Ab, c3, E2.Ai, E3.Ai]
  refine Af.bind (Oc (l := y3) Ad (G.ext xE)) ?_
  rintro ⟨_, w4⟩ ⟨t, okt, rfl, hgt, E4⟩
  try dsimp only at t okt hgt E4
  have zE4 := E4.size
  try simp only [qz] at zE4
  have zE2 := E2.size
  have zE3 := E3.size
  have zE4 := E4.size
  have X4 : hp w4 w.heap.size = some (.cells #[i64 0, i64 0, i64 0, i64 0, i64 0] 41 (0, 0)) := (by first | assumption | rfl | (simp (disch := first | exact xD | fail) [-bind_some, -Aa, -Ab, X1, E2.Ai, E3.Ai, E4.Ai]; done))
  have c14 := AX E4 (AX E3 (AX E2 c1))
  have en : ∀ (n : Nat) (er : Value) (w : World), (er = .nilIface ∨ ∃ u v, er = .iface u v) → bo P .eql 43 (.tmp n) (.const .nilIface) er .nilIface w = some (.bool (La er), w) := fun n er w h => QF 43 _ Tryz.underlying43 n er h w
  have en0' := fun n w => en n er0 w he0
  have en2' := fun n w => en n er2 w he2
  generalize hb0 : La er0 = b0 at en0'
  generalize hb2 : La er2 = b2 at en2'
  simp (disch := first | exact xD | fail) [-bind_some, qs, -Aa, -Ab, qm, c1, en0', E2.Ai, E3.Ai, E4.Ai]
  refine Af.bind (Le _) ?_
  rintro ⟨_, w5⟩ ⟨g5, rfl, A5, E5⟩
  have zE5 := E5.size
  try simp only [qz] at zE5
  try dsimp only at A5 E5
  have zE5 := E5.size
  simp only [Ak, size_setRow, World.size_alloc] at zE5
  have X5 : hp w5 w.heap.size = some (.cells #[i64 0, i64 0, i64 0, i64 0, i64 0] 41 (0, 0)) := (by first | assumption | rfl | (simp (disch := first | exact xD | fail) [-bind_some, qs, -Aa, -Ab, X4, E5.Ai]; done))
  have T5 : hp w5 w4.heap.size = some (.cells #[i64 t.t, i64 t.p] 39 (0, 0)) := (by first | assumption | rfl | (simp (disch := first | exact xD | fail) [-bind_some, qs, -Aa, -Ab, E5.Ai]; done))
  have c15 : AR (hp w5 g) 1 = some (.string (AZ y1)) := AX (Ext.tr xE E5) c14
  simp (disch := first | exact xD | fail) [-bind_some, qs, -Aa, -Ab, c1, T5, E2.Ai, E3.Ai, E4.Ai, E5.Ai]
  refine Af.bind (UY (s := y1) A5) ?_
  rintro _ ⟨mk, rfl, hmk⟩
  have hno : ∀ d', Dq d' = true → Bz d' = l → b0 = true ∧ b2 = true ∧ okt = true ∧ (⟨m0, mk, m2, t⟩ : Done) = d' := by
   intro d' h1 h2
   obtain ⟨k0, k1, k2, k3⟩ := hw d' h1 h2
   obtain ⟨q1, q2, q3, q4, _⟩ := Fh.1 h1
   have r0 := hv0 d'.Ay.toNat Ad k0
   have r2 := hv2 d'.key.toNat Ad k2
   have r1 := hmk d'.kind q2.1 q2.2 k1
   have r3 : okt = true := by
    cases hh : okt
    ·rw [hh] at hgt; exact absurd k3.symm ((hgt.2 rfl).2 _ q4)
    ·rfl
   obtain ⟨h5, h6⟩ := hgt.1 r3
   refine ⟨by rw [← hb0, r0.1]; rfl, by rw [← hb2, r2.1]; rfl, r3, NG (by dsimp only; omega) r1 (by dsimp only; omega) (NJ h5 q4 (h6.trans k3))⟩
  cases b0
  ·simp (disch := first | exact xD | fail) [-bind_some, T5, X5]
   exact hQ _ ⟨⟨m0, mk, m2, t⟩, false, rfl, fun d' h1 h2 => (by have := (hno d' h1 h2).1; cases this), xE⟩
  ·cases b2
   ·simp (disch := first | exact xD | fail) [-bind_some, en2', T5, X5]
    exact hQ _ ⟨⟨m0, mk, m2, t⟩, false, rfl, fun d' h1 h2 => (by have := (hno d' h1 h2).2.1; cases this), xE⟩
   ·simp (disch := first | exact xD | fail) [-bind_some, en2', T5, X5]
    exact hQ _ ⟨⟨m0, mk, m2, t⟩, okt, rfl, fun d' h1 h2 => ⟨(hno d' h1 h2).2.2.1, (hno d' h1 h2).2.2.2⟩, xE⟩
 ·have h4' : (((AV 32 l).length : Int) != 4) = true := by simpa using (by omega : ((AV 32 l).length : Int) ≠ 4)
  simp (disch := first | exact xD | fail) [-bind_some, h4', X1]
  exact hQ _ ⟨⟨0, 0, 0, ⟨0, 0⟩⟩, false, rfl, fun d' h1 h2 => absurd (by rw [← h2, HH]; rfl) h4, xE⟩
theorem SG {l : List Done} (h : AP l = []) : l = [] := by
 cases l with
 | nil => rfl
 | cons d l => have := congrArg List.length h; simp [AP] at this
theorem aA (rest : List UInt8) (hr : rest ≠ []) : ∃ a b f, Qh 10 rest = .tuple #[.string (AZ a), .string (AZ b), .bool f] ∧ a.length ≤ rest.length ∧ b.length < rest.length ∧ ∀ d zs, AP (d :: zs) = rest → a = Bz d ∧ b = AP zs := by
 have hp : 0 < rest.length := List.length_pos_iff.2 hr
 unfold Qh
 cases hc : DI 10 rest with
 | none => exact ⟨rest, [], false, rfl, Nat.le_refl _, by simpa using hp, fun d zs h => by rw [← h, Kk] at hc; cases hc⟩
 | some p =>
  have h1 := (GF hc).1
  have hlen : rest.length = p.1.length + (p.2.length + 1) := by conv => lhs; rw [h1]; simp
  refine ⟨p.1, p.2, true, rfl, by omega, by omega, fun d zs h => ?_⟩
  rw [← h, Kk] at hc
  obtain rfl := Option.some.inj hc
  exact ⟨rfl, rfl⟩
theorem Jt {a : Option Addr} {n c : Nat} {w : World} (h : n ≤ c) (hc : c ≤ 9223372036854775807) : Af (EV P 24 #[.slice a n c] w) fun r => r = (.slice a n n, w) := by
 refine Af.post fun Q hQ => ?_
 refine Bw (IL _ _) ?_
 simp (disch := first | exact xD | fail) [-bind_some, -Aa, -Ab, Yi (P := P) JQ]
 exact hQ _ rfl
theorem SH {l : List UInt8} (hl : l.length ≤ 100000000) {w0 : World} (G : GlobE w0) : ∀ (N : Nat) (rest : List UInt8) (e : Env) (w : World) (acc : List Done) (a : Option Addr) (q : Nat), rest.length ≤ N → rest.length ≤ l.length → acc.length ≤ 81 → e 0 = .string (AZ l) → e 4 = .slice a acc.length q → e 5 = .string (AZ rest) →
   (∀ ys, BM ys = true → AP ys = l → ∃ zs, ys = acc ++ zs ∧ AP zs = rest) → O Bx (In w0.heap.size w.heap.size) w [.slice a acc.length q] acc → Ext w0 w →
   Af (Cy e w) fun r => ∃ xs ok a q, r.1 = .tuple #[.slice a xs.length q, .bool ok] ∧ GD l xs ok ∧ O Bx (In w0.heap.size r.2.heap.size) r.2 [.slice a xs.length q] xs ∧ Ext w0 r.2 := by
 -- the end of the loop
 have fin : ∀ (rest : List UInt8) (e : Env) (w : World) (acc : List Done) (a : Option Addr) (q : Nat), (rest = [] ∨ 80 < acc.length) → acc.length ≤ 81 → e 0 = .string (AZ l) → e 4 = .slice a acc.length q → e 5 = .string (AZ rest) →
   (∀ ys, BM ys = true → AP ys = l → ∃ zs, ys = acc ++ zs ∧ AP zs = rest) → O Bx (In w0.heap.size w.heap.size) w [.slice a acc.length q] acc → Ext w0 w →
   Af (Cy e w) fun r => ∃ xs ok a q, r.1 = .tuple #[.slice a xs.length q, .bool ok] ∧ GD l xs ok ∧ O Bx (In w0.heap.size r.2.heap.size) r.2 [.slice a xs.length q] xs ∧ Ext w0 r.2 := by
  intro rest e w acc a q hend hal e0 e4 e5 hi ho E0
  have zE0 := E0.size
  try simp only [qz] at zE0
  rw [FL]
  have hcl := ho.clip
  have hys : ∀ ys, BM ys = true → AP ys = l → ys = acc := by
   intro ys h1 h2
   obtain ⟨zs, rfl, h3⟩ := hi ys h1 h2
   rcases hend with h | h
   ·rw [h] at h3
    rw [SG h3, List.append_nil]
   ·have := DN h1
    rw [List.length_append] at this
    omega
  refine Af.post fun Q hQ => ?_
  have bad : ∀ w', Ext w0 w' → (∀ ys, BM ys = true → AP ys ≠ l) → Q (.tuple #[.slice none 0 0, .bool false], w') := fun w' h1 h2 => hQ _ ⟨[], false, none, 0, rfl, ⟨by simp, fun _ => ⟨rfl, h2⟩⟩, O.nil, h1⟩
  have go : ∀ (e : Env) (w1 : World), Ext w w1 → e 0 = .string (AZ l) → e 4 = .slice a acc.length q → True := fun _ _ _ _ _ => trivial
  have hne : (rest == []) = decide (rest = []) := by cases rest <;> rfl
  by_cases hr : rest = []
  ·subst hr
   simp (disch := first | exact xD | fail) [-bind_some, -Aa, -Ab, e0, e4, e5, Az]
   refine Af.bind (GY ho.d) ?_
   rintro ⟨_, w1⟩ ⟨rfl, E1⟩
   try dsimp only at E1
   have zE1 := E1.size
   try simp only [qz] at zE1
   cases hf : BM acc
   ·simp (disch := first | exact xD | fail) [-bind_some, -Aa, -Ab]
    exact bad _ xE fun ys h1 h2 => by rw [hys ys h1 h2, hf] at h1; cases h1
   ·simp (disch := first | exact xD | fail) [-bind_some, -Aa, -Ab]
    refine Af.bind (Ie (G.g.ext xE) (ho.d.ext xE)) ?_
    rintro ⟨_, w2⟩ ⟨rfl, E2⟩
    try dsimp only at E2
    have zE2 := E2.size
    try simp only [qz] at zE2
    have hpu : BZ acc = AP acc := by rw [BZ, hf]; rfl
    by_cases hte : AP acc = l
    ·simp (disch := first | exact xD | fail) [-bind_some, -Aa, -Ab, hpu, hte, Az]
     refine Af.bind (Jt hcl.1 hcl.2.1) ?_
     rintro _ rfl
     simp (disch := first | exact xD | fail) [-bind_some, -Aa, -Ab]
     have zE1 := E1.size
     have zE2 := E2.size
     exact hQ _ ⟨acc, true, a, acc.length, rfl, ⟨fun _ => ⟨hf, hte⟩, by simp⟩, ((hcl.2.2.ext E1).ext E2).wide (by intro b hb _; simp only [In] at hb ⊢; omega), xE⟩
    ·have hte' : (AP acc == l) = false := beq_eq_false_iff_ne.2 hte
     simp (disch := first | exact xD | fail) [-bind_some, -Aa, -Ab, hpu, hte', Az]
     exact bad _ xE fun ys h1 h2 => hte (by rw [← hys ys h1 h2]; exact h2)
  ·have hr' : (rest == []) = false := beq_eq_false_iff_ne.2 hr
   have hre : rest.isEmpty = false := by cases rest; exact absurd rfl hr; rfl
   have hgt : 80 < acc.length := hend.resolve_left hr
   simp (disch := first | exact xD | fail) [-bind_some, -Aa, -Ab, e0, e4, e5, Az, hr', show ¬ (acc.length : Int) ≤ 80 by omega]
   refine Af.bind (GY ho.d) ?_
   rintro ⟨_, w1⟩ ⟨rfl, E1⟩
   try dsimp only at E1
   have zE1 := E1.size
   try simp only [qz] at zE1
   have hf : BM acc = false := by
    cases hf : BM acc
    ·rfl
    ·have := DN hf; omega
   simp (disch := first | exact xD | fail) [-bind_some, -Aa, -Ab, hf]
   exact bad _ xE fun ys h1 h2 => by rw [hys ys h1 h2, hf] at h1; cases h1
 intro N
 induction N with
 | zero =>
  intro rest e w acc a q hN hrl hal e0 e4 e5 hi ho E0
  have zE0 := E0.size
  try simp only [qz] at zE0
  exact fin rest e w acc a q (.inl (List.length_eq_zero_iff.1 Ad)) hal e0 e4 e5 hi ho E0
 | succ N ih =>
  intro rest e w acc a q hN hrl hal e0 e4 e5 hi ho E0
  have zE0 := E0.size
  try simp only [qz] at zE0
  by_cases hend : rest = [] ∨ 80 < acc.length
  ·exact fin rest e w acc a q hend hal e0 e4 e5 hi ho E0
  have hr : rest ≠ [] := fun h => hend (.inl h)
  have hle : acc.length ≤ 80 := by omega
  have hr' : (rest == []) = false := beq_eq_false_iff_ne.2 hr
  have hre : rest.isEmpty = false := by cases rest; exact absurd rfl hr; rfl
  obtain ⟨x, y, f, hV, hx, hy, hu⟩ := aA rest hr
  rw [FL]
  have hz := E0.size
  refine Af.post fun Q hQ => ?_
  simp (disch := first | exact xD | fail) [-bind_some, qs, -Aa, -Ab, e0, e4, e5, Az, hr', show (acc.length : Int) ≤ 80 by omega, Dg]
  refine Af.bind (VG (l := rest) Ad 10 _) ?_
  rintro ⟨_, w1⟩ ⟨rfl, E1⟩
  try dsimp only at E1
  have zE1 := E1.size
  try simp only [qz] at zE1
  rw [hV]
  simp (disch := first | exact xD | fail) [-bind_some, qs, -Aa, -Ab]
  refine Af.bind (Q1 (l := x) Ad (G.ext xE)) ?_
  rintro ⟨_, w2⟩ ⟨d, ok, rfl, hd, E2⟩
  try dsimp only at d ok hd E2
  have zE2 := E2.size
  try simp only [qz] at zE2
  have hno : ∀ ys, BM ys = true → AP ys = l → ∃ zs, ys = acc ++ d :: zs ∧ AP zs = y ∧ ok = true := by
   intro ys h1 h2
   obtain ⟨zs, rfl, h3⟩ := hi ys h1 h2
   cases zs with
   | nil => exact absurd h3.symm hr
   | cons d' zs =>
    obtain ⟨h4, h5⟩ := hu d' zs h3
    obtain ⟨h6, h7⟩ := hd d' (C5 h1 d' (by simp)) h4.symm
    exact ⟨zs, by rw [h7], h5.symm, h6⟩
  cases ok
  ·simp (disch := first | exact xD | fail) [-bind_some, qs, -Aa, -Ab, qm]
   refine hQ _ ⟨[], false, none, 0, rfl, ⟨by simp, fun _ => ⟨rfl, fun ys h1 h2 => ?_⟩⟩, O.nil, xE⟩
   obtain ⟨_, _, _, h⟩ := hno ys h1 h2
   cases h
  ·simp (disch := first | exact xD | fail) [-bind_some, qs, -Aa, -Ab, qm]
   refine Af.bind (O.I3 (L := GK) (mx := 3518437208883) O7 JQ OS rfl AD (((ho.ext E1).ext E2).ext xE) (QG (d := d) (g := w2.heap.size + 1) (E := 41) (by first | assumption | rfl | (simp (disch := first | exact xD | fail) [-bind_some, qs, -Aa, -Ab]; done))) (by simp; omega) AD AD) ?_
   rintro ⟨_, w3⟩ ⟨a3, q3, rfl, o3, M3⟩
   have zM3 := M3.size
   try simp only [qz] at zM3
   try dsimp only at o3 M3
   have zM3 := M3.size
   have zE1 := E1.size
   have zE2 := E2.size
   simp only [World.size_alloc, size_setRow] at zM3 o3
   have F3 : Ext w0 w3 := Mod.after (a := w0) xE M3 (by intro y hy h; simp only [In] at h; omega)
   have hal3 : (acc ++ [d]).length = acc.length + [d].length := by simp
   rw [← hal3] at o3
   simp (disch := first | exact xD | fail) [-bind_some, -Aa, -Ab]
   refine Af.mono (ih y _ _ (acc ++ [d]) a3 q3 Ad Ad (by simp; omega) xA (by rw [hal3]; rfl) xA (fun ys h1 h2 => ?_) (o3.wide (by intro b hb hl; simp only [In] at hb ⊢; rcases hb with hb | hb <;> omega)) F3) hQ
   obtain ⟨zs, h3, h4, _⟩ := hno ys h1 h2
   exact ⟨zs, by rw [h3]; simp, h4⟩
theorem ME {l : List UInt8} (hl : l.length ≤ 100000000) {w : World} (G : GlobE w) : Af (EV P 8 #[.string (AZ l)] w) fun r => ∃ xs ok a q, r.1 = .tuple #[.slice a xs.length q, .bool ok] ∧ GD l xs ok ∧ O Bx (In w.heap.size r.2.heap.size) r.2 [.slice a xs.length q] xs ∧ Ext w r.2 := by
 refine Af.post fun Q hQ => ?_
 refine Bw (Lm _ _) ?_
 simp (disch := first | exact xD | fail) [-bind_some, -Aa, -Ab]
 exact Af.mono (SH hl (w0 := w) G l.length l _ _ [] (some ⟨w.heap.size, 0, none⟩) 0 (Nat.le_refl _) (Nat.le_refl _) (by simp) xA xA xA (fun ys h1 h2 => ⟨ys, rfl, h2⟩) ((O.empty (g := w.heap.size) (by first | assumption | rfl | (simp (disch := first | exact xD | fail) [-bind_some, qs, -Aa, -Ab]; done))).wide (by intro b hb hl; have : b = w.heap.size := hb; simp only [In, World.size_alloc] at *; omega)) xE) hQ
theorem MF : ∀ (l : List Done), AP l = ((l.map Bz).map fun x => x ++ [10]).flatten
 | [] => rfl
 | d :: l => by simp only [AP, List.map_cons, List.flatten_cons, MF l, List.append_assoc, List.singleton_append]
theorem OU : ∀ {a b : List Done}, (∀ d ∈ a, Dq d = true) → (∀ d ∈ b, Dq d = true) → a.map Bz = b.map Bz → a = b
 | [], [], _, _, _ => rfl
 | [], _ :: _, _, _, h => by simp at h
 | _ :: _, [], _, _, h => by simp at h
 | x :: a, y :: b, ha, hb, h => by
  simp only [List.map_cons, List.cons.injEq] at h
  rw [QD (ha x List.mem_cons_self) (hb y List.mem_cons_self) h.1, OU (fun t ht => ha t (List.mem_cons_of_mem _ ht)) (fun t ht => hb t (List.mem_cons_of_mem _ ht)) h.2]
structure LinesAt (l : List UInt8) (lines : List (List UInt8)) : Prop where
 len : ∀ x ∈ lines, x.length ≤ 1100000
 n : lines.length ≤ 1100000
 ys : ∀ ys, BM ys = true → AP ys = l → ys.map Bz = lines
 join : (lines.map fun x => x ++ [10]).flatten = l
theorem Q2 {l : List UInt8} {lines : List (List UInt8)} {w0 : World} {g5 o5 q5 g7 o7 q7 i b q : Nat} {x y0 y1 y2 y3 : List UInt8} {m0 m2 : Int} {t : Tag} {acc : List Done} {a : Option Addr} (H : LinesAt l lines) (hi : i < lines.length) (hi81 : i ≤ 80) (hx : lines[i]? = some x) (hb0 : w0.heap.size ≤ b)
  (hacc : acc.length = i) {Q : Value × World → Prop} (hpd : ∀ d', Dq d' = true → Bz d' = x → m0 = d'.Ay ∧ m2 = d'.key ∧ t = d'.tag ∧ y1 = Ct d'.kind)
  (bad : ∀ w', Ext w0 w' → (∀ ys, BM ys = true → AP ys ≠ l) → Q (.tuple #[.slice none 0 0, .bool false], w'))
  (next : ∀ (e : Env) (w : World) (d : Done) (a : Option Addr) (q : Nat), e 4 = .slice a (i + 1) q → e 5 = .slice (some ⟨g5, o5, none⟩) lines.length q5 → e 6 = i64 ((i + 1 : Nat) : Int) → Dq d = true → Bz d = x → O Bx (fun z => In w0.heap.size w.heap.size z ∧ z ≠ g5) w [.slice a (i + 1) q] (acc ++ [d]) → CT w g5 o5 lines → Ext w0 w → Af (Cz e w) Q) :
  ∀ (n k : Nat) (e : Env) (w : World) (kd : Int), k + n = 4 → 1 ≤ k → e 4 = .slice a i q → e 5 = .slice (some ⟨g5, o5, none⟩) lines.length q5 → e 6 = i64 i → e 7 = .slice (some ⟨g7, o7, none⟩) 4 q7 → e 10 = pt b 0 → e 11 = i64 k → CT w g7 o7 [y0, y1, y2, y3] → CT w g5 o5 lines → hp w b = some (.cells #[i64 m0, i64 kd, i64 m2, i64 t.t, i64 t.p] 41 (0, 0)) →
   (∀ K : Int, 1 ≤ K → K < k → y1 = Ct K → kd = K) → O Bx (fun z => In w0.heap.size w.heap.size z ∧ z ≠ b ∧ z ≠ g5) w [.slice a i q] acc → g7 ≠ b → g5 ≠ b → Ext w0 w → Af (Dt e w) Q := by
 intro n
 induction n with
 | zero =>
  intro k e w kd hk h1 e4 e5 e6 e7 e10 e11 A7 A5 X hK ho h7b h5b E0
  have zE0 := E0.size
  try simp only [qz] at zE0
  rw [FN]
  obtain rfl : k = 4 := by omega
  have yb := Aq X
  have hz := E0.size
  have c5 := A5 _ _ hx
  have hg5 := Hr c5
  have hxl := H.len x (List.mem_of_getElem? hx)
  have hd : ∀ d', Dq d' = true → Bz d' = x → (⟨m0, kd, m2, t⟩ : Done) = d' := by
   intro d' h2 h3
   obtain ⟨r1, r2, r3, r4⟩ := hpd d' h2 h3
   obtain ⟨_, q2, _⟩ := Fh.1 h2
   exact NG r1 (hK d'.kind q2.1 Ad r4) r2 r3
  have hno : ∀ ys, BM ys = true → AP ys = l → Dq ⟨m0, kd, m2, t⟩ = true ∧ Bz ⟨m0, kd, m2, t⟩ = x := by
   intro ys h2 h3
   have h4 := H.ys ys h2 h3
   rw [← h4, List.getElem?_map] at hx
   obtain ⟨d', h5, h6⟩ := Option.map_eq_some_iff.1 hx
   have h7 := C5 h2 d' (List.mem_of_getElem? h5)
   rw [hd d' h7 h6]
   exact ⟨h7, h6⟩
  simp (disch := first | exact xD | fail) [-bind_some, qs, -Aa, -Ab, e11, e4, e5, e6, e7, e10]
  refine Af.bind (IF _) ?_
  rintro ⟨_, w1⟩ ⟨g, rfl, A1, E1⟩
  have zE1 := E1.size
  try simp only [] at zE1
  try dsimp only at A1 E1
  have X1 := (E1.Ai yb).trans X
  have c51 := AX E1 c5
  have zE1 := E1.size
  simp (disch := first | exact xD | fail) [-bind_some, -Aa, -Ab, X1]
  refine Af.bind (Je ⟨m0, kd, m2, t⟩ _) ?_
  rintro ⟨_, w2⟩ ⟨rfl, E2⟩
  have zE2 := E2.size
  try simp only [qz] at zE2
  try dsimp only at E2
  have X2 := (E2.Ai (by simp only [Ak]; omega)).trans ((BW _ _).trans X1)
  have zE2 := E2.size
  simp only [Ak] at zE2
  have c52 : AR (hp w2 g5) (o5 + i) = some (.string (AZ x)) := AX (E1.tr (Ext.tr xE E2)) c5
  cases hok : Dq ⟨m0, kd, m2, t⟩
  ·simp (disch := first | exact xD | fail) [-bind_some, -Aa, -Ab, X2]
   exact bad _ xE fun ys h2 h3 => by have := (hno ys h2 h3).1; rw [hok] at this; cases this
  ·simp (disch := first | exact xD | fail) [-bind_some, -Aa, -Ab, X2, Fv, c5, Dg, Ba, Az, E1.Ai, E2.Ai]
   refine Af.bind (I8 hok _) ?_
   rintro ⟨_, w3⟩ ⟨rfl, E3⟩
   have zE3 := E3.size
   try simp only [] at zE3
   try dsimp only at E3
   have X3 := (E3.Ai (Aq X2)).trans X2
   have zE3 := E3.size
   have c53 := AX E3 c52
   by_cases hte : Bz ⟨m0, kd, m2, t⟩ = x
   ·have hte2 : (Bz ⟨m0, kd, m2, t⟩ ++ [10] == x ++ [10]) = true := by rw [hte]; exact beq_self_eq_true _
    generalize hgl : Bz ⟨m0, kd, m2, t⟩ = ll at hte hte2
    have hteq : ll = x := hte
    subst hteq
    simp (disch := first | exact xD | fail) [-bind_some, -Aa, -Ab, X3, c5, Az, E1.Ai, E2.Ai, E3.Ai]
    refine Af.bind (O.I3 (L := GK) (mx := 3518437208883) O7 JQ OS rfl AD ((((ho.ext E1).ext (Cn _)).ext E2).ext (E3.tr xE)) (QG (d := ⟨m0, kd, m2, t⟩) (g := w3.heap.size) (E := 41) (by first | assumption | rfl | (simp (disch := first | exact xD | fail) [-bind_some, qs, -Aa, -Ab]; done))) (by rw [hacc]; simp; omega) AD AD) ?_
    rintro ⟨_, w4⟩ ⟨a4, q4, rfl, o4, M4⟩
    have zM4 := M4.size
    try simp only [qz] at zM4
    try dsimp only at o4 M4
    have zM4 := M4.size
    simp only [World.size_alloc] at zM4 o4
    rw [show acc.length + ([⟨m0, kd, m2, t⟩] : List Done).length = i + 1 by rw [hacc]; rfl] at o4
    have F4 : Ext w0 w4 := Mod.after (a := w0) xE M4 (by intro y hy h; simp only [In] at h; omega)
    simp (disch := first | exact xD | fail) [-bind_some, -Aa, -Ab]
    exact next _ w4 ⟨m0, kd, m2, t⟩ a4 q4 (by rw [hacc]; rfl) xA xA hok hgl (o4.wide (by intro z hz hl; simp only [In] at hz ⊢; rcases hz with hz | hz <;> omega)) ((((((A5.ext E1).ext (Cn _)).ext E2).ext E3).ext (Ext.alloc _ _)).mod M4 (fun h => h.2.2 rfl)) F4
   ·have hte2 : (Bz ⟨m0, kd, m2, t⟩ ++ [10] == x ++ [10]) = false := beq_eq_false_iff_ne.2 fun h => hte (List.append_cancel_right h)
    simp (disch := first | exact xD | fail) [-bind_some, -Aa, -Ab, c5, Az, hte2, E1.Ai, E2.Ai, E3.Ai]
    exact bad _ xE fun ys h2 h3 => hte (hno ys h2 h3).2
 | succ n ih =>
  intro k e w kd hk h1 e4 e5 e6 e7 e10 e11 A7 A5 X hK ho h7b h5b E0
  have zE0 := E0.size
  try simp only [qz] at zE0
  rw [FN]
  have yb := Aq X
  have hz := E0.size
  have hk3 : k ≤ 3 := by omega
  have hkw := Kj (k := (k : Int)) Ad Ad
  rw [Int.toNat_natCast] at hkw
  have c7 := A7 1 y1 rfl
  simp (disch := first | exact xD | fail) [-bind_some, qs, -Aa, -Ab, e11, e4, e5, e6, e7, e10]
  refine Af.bind (IF _) ?_
  rintro ⟨_, w1⟩ ⟨g, rfl, A1, E1⟩
  have zE1 := E1.size
  try simp only [] at zE1
  try dsimp only at A1 E1
  have X1 := (E1.Ai yb).trans X
  have zE1 := E1.size
  have c71 := AX E1 c7
  simp (disch := first | exact xD | fail) [-bind_some, -Aa, -Ab, show (k : Int) < 4 by omega, Fv, c71]
  refine Af.bind (IF _) ?_
  rintro ⟨_, w2⟩ ⟨g', rfl, A2, E2⟩
  have zE2 := E2.size
  try simp only [qz] at zE2
  try dsimp only at A2 E2
  have X2 := (E2.Ai (by simp only [Ak]; omega)).trans ((BW _ _).trans X1)
  have zE2 := E2.size
  simp only [Ak] at zE2
  have c72 : AR (hp w2 g7) (o7 + 1) = some (.string (AZ y1)) := AX (Ext.tr xE E2) c71
  have ck := A2 _ _ hkw
  rw [Nat.zero_add] at ck
  have F2 : Ext w w2 := E1.tr (Ext.tr xE E2)
  have o2 := ho.ext F2
  have A22 := A7.ext F2
  by_cases hm : Ct (k : Int) = y1
  ·simp (disch := first | exact xD | fail) [-bind_some, -Aa, -Ab, qm, Fv, c72, ck, Az, hm, X2]
   rw [FO]
   simp (disch := first | exact xD | fail) [-bind_some, qs, -Aa, -Ab, e11]
   refine ih (k + 1) _ _ k Ad Ad (by exact e4) (by exact e5) (by exact e6) (by exact e7) (by exact e10) (by exact congrArg i64 Ad) (A22.Aj (Ac h7b)) ((A5.ext F2).Aj (Ac h5b)) (by first | assumption | rfl | (simp (disch := first | exact xD | fail) [-bind_some, -Aa, -Ab, X2]; done)) ?_ ((o2.Aj fun z hz hl => Ac hz.2.1).wide ?_) h7b h5b xE
   ·intro K h2 h3 h4
    rw [← hm] at h4
    exact O6 Ad Ad h2 Ad h4
   ·intro z hz hl
    have := hz.1
    simp only [In, size_setRow] at this hl ⊢
    exact ⟨by omega, hz.2⟩
  ·have hm' : (Ct (k : Int) == y1) = false := beq_eq_false_iff_ne.2 hm
   simp (disch := first | exact xD | fail) [-bind_some, -Aa, -Ab, Fv, c72, ck, Az, hm']
   rw [FO]
   simp (disch := first | exact xD | fail) [-bind_some, qs, -Aa, -Ab, e11]
   refine ih (k + 1) _ _ kd Ad Ad (by exact e4) (by exact e5) (by exact e6) (by exact e7) (by exact e10) (by exact congrArg i64 Ad) A22 (A5.ext F2) X2 ?_ (o2.wide ?_) h7b h5b xE
   ·intro K h2 h3 h4
    rcases (by omega : K < k ∨ K = k) with h5 | h5
    ·exact hK K h2 h5 h4
    ·rw [h5] at h4; exact absurd h4.symm hm
   ·intro z hz hl
    have := hz.1
    simp only [In] at this ⊢
    exact ⟨by omega, hz.2⟩
theorem Q3 {l : List UInt8} {lines : List (List UInt8)} {w0 : World} {g5 o5 q5 : Nat} (H : LinesAt l lines) :
  ∀ (d i : Nat) (e : Env) (w : World) (acc : List Done) (a : Option Addr) (q : Nat), i + d = min lines.length 81 → acc.length = i → e 4 = .slice a i q → e 5 = .slice (some ⟨g5, o5, none⟩) lines.length q5 → e 6 = i64 i → (∀ d ∈ acc, Dq d = true) → acc.map Bz = lines.take i → O Bx (fun z => In w0.heap.size w.heap.size z ∧ z ≠ g5) w [.slice a i q] acc → CT w g5 o5 lines → Ext w0 w →
   Af (Cz e w) fun r => ∃ xs ok a q, r.1 = .tuple #[.slice a xs.length q, .bool ok] ∧ GD l xs ok ∧ O Bx (In w0.heap.size r.2.heap.size) r.2 [.slice a xs.length q] xs ∧ Ext w0 r.2 := by
 intro d
 induction d with
 | zero =>
  intro i e w acc a q hd hal e4 e5 e6 hok hm ho A5 E0
  have zE0 := E0.size
  try simp only [qz] at zE0
  rw [FM]
  have hz := E0.size
  refine Af.post fun Q hQ => ?_
  have bad : ∀ w', Ext w0 w' → (∀ ys, BM ys = true → AP ys ≠ l) → Q (.tuple #[.slice none 0 0, .bool false], w') := fun w' h1 h2 => hQ _ ⟨[], false, none, 0, rfl, ⟨by simp, fun _ => ⟨rfl, h2⟩⟩, O.nil, h1⟩
  have hno : BM acc = false → ∀ ys, BM ys = true → AP ys ≠ l := by
   intro hf ys h1 h2
   have h3 := H.ys ys h1 h2
   have h4 := DN h1
   have h5 : lines.length = ys.length := by rw [← h3, List.length_map]
   rw [List.take_of_length_le Ad, ← h3] at hm
   rw [OU hok (C5 h1) hm, h1] at hf
   cases hf
  have step : ∀ (e' : Env) (w' : World), Ext w w' → True := fun _ _ _ => trivial
  subst hal
  by_cases hlt : acc.length < lines.length
  ·have h81 : ¬ acc.length ≤ 80 := by omega
   simp (disch := first | exact xD | fail) [-bind_some, -Aa, -Ab, e4, e5, e6, hlt, show ¬ (acc.length : Int) ≤ 80 by omega]
   refine Af.bind (ET ho.d) ?_
   rintro ⟨_, w1⟩ ⟨rfl, E1⟩
   try dsimp only at E1
   have zE1 := E1.size
   try simp only [qz] at zE1
   have hf : BM acc = false := by
    cases hf : BM acc
    ·rfl
    ·have := DN hf; omega
   simp (disch := first | exact xD | fail) [-bind_some, -Aa, -Ab, hf]
   exact bad _ xE (hno hf)
  ·simp (disch := first | exact xD | fail) [-bind_some, -Aa, -Ab, e4, e5, e6, hlt]
   refine Af.bind (ET ho.d) ?_
   rintro ⟨_, w1⟩ ⟨rfl, E1⟩
   try dsimp only at E1
   have zE1 := E1.size
   try simp only [qz] at zE1
   cases hf : BM acc
   ·simp (disch := first | exact xD | fail) [-bind_some, -Aa, -Ab]
    exact bad _ xE (hno hf)
   ·simp (disch := first | exact xD | fail) [-bind_some, -Aa, -Ab]
    have zE1 := E1.size
    refine hQ _ ⟨acc, true, a, q, rfl, ⟨fun _ => ⟨hf, ?_⟩, by simp⟩, (ho.ext E1).wide (by intro b hb _; have := hb.1; simp only [In] at this ⊢; omega), xE⟩
    rw [MF, hm, List.take_of_length_le Ad]
    exact H.join
 | succ d ih =>
  intro i e w acc a q hd hal e4 e5 e6 hok hm ho A5 E0
  have zE0 := E0.size
  try simp only [qz] at zE0
  rw [FM]
  have hz := E0.size
  have hi : i < lines.length := by omega
  have hi81 : i ≤ 80 := by omega
  obtain ⟨x, hx, _⟩ := An hi
  have hxl := H.len x (List.mem_of_getElem? hx)
  have c5 := A5 _ _ hx
  have hg5 := Hr c5
  have hsz := LJ 32 4 x
  refine Af.post fun Q hQ => ?_
  have bad : ∀ w', Ext w0 w' → (∀ ys, BM ys = true → AP ys ≠ l) → Q (.tuple #[.slice none 0 0, .bool false], w') := fun w' h1 h2 => hQ _ ⟨[], false, none, 0, rfl, ⟨by simp, fun _ => ⟨rfl, h2⟩⟩, O.nil, h1⟩
  have hline : ∀ ys, BM ys = true → AP ys = l → ∃ d', Dq d' = true ∧ Bz d' = x := by
   intro ys h1 h2
   have h3 := H.ys ys h1 h2
   rw [← h3, List.getElem?_map] at hx
   obtain ⟨d', h5, h6⟩ := Option.map_eq_some_iff.1 hx
   exact ⟨d', C5 h1 d' (List.mem_of_getElem? h5), h6⟩
  simp (disch := first | exact xD | fail) [-bind_some, qs, -Aa, -Ab, e5, e6, show (i : Int) < lines.length by omega, show (i : Int) ≤ 80 by omega, Fv, c5]
  refine Af.bind (Py (c := 32) (N := 4) AD Ad _) ?_
  rintro ⟨_, w1⟩ ⟨a7, q7, rfl, o7, E1⟩
  try dsimp only at a7 q7 o7 E1
  have zE1 := E1.size
  try simp only [qz] at zE1
  by_cases h4 : (Cx 32 4 x).length = 4
  ·obtain ⟨y0, y1, y2, y3, hy⟩ := XY h4
   rw [hy] at hsz
   obtain ⟨g7, oo7, rfl, A7⟩ := VC o7 Ad
   rw [hy] at A7
   have hw : ∀ d', Dq d' = true → Bz d' = x → y0 = Bn d'.Ay.toNat ∧ y1 = Ct d'.kind ∧ y2 = Bn d'.key.toNat ∧ y3 = C6 d'.tag := by
    intro d' h1 h2
    have h3 := K9 d' 1
    rw [h2, show (1 + 3 : Nat) = 4 from rfl, hy, K8] at h3
    simp only [List.cons.injEq, and_true] at h3
    exact h3
   have s0 := hsz y0 (by simp)
   have s2 := hsz y2 (by simp)
   have s3 := hsz y3 (by simp)
   have c0 := A7 0 y0 rfl
   have c2 := A7 2 y2 rfl
   have c3 := A7 3 y3 rfl
   rw [Nat.add_zero] at c0
   have hg7 := Hr c0
   simp (disch := first | exact xD | fail) [-bind_some, -Aa, -Ab, h4, c3, Fv]
   refine Af.bind (Od (l := y3) Ad _) ?_
   rintro ⟨_, w2⟩ ⟨t, okt, rfl, hgt, E2⟩
   try dsimp only at t okt hgt E2
   have zE2 := E2.size
   try simp only [qz] at zE2
   have zE1 := E1.size
   have zE2 := E2.size
   have A72 := A7.ext E2
   simp (disch := first | exact xD | fail) [-bind_some, qs, -Aa, -Ab, qm]
   obtain ⟨w3, hw3⟩ : ∃ w3, w3 = w2.alloc (.cells #[i64 t.t, i64 t.p] 39) := ⟨_, rfl⟩
   have fin : ∀ (e' : Env) (w' : World) (m0 m2 : Int), (∀ v : Nat, v ≤ 999999 → y0 = Bn v → m0 = v) → (∀ v : Nat, v ≤ 999999 → y2 = Bn v → m2 = v) → e' 4 = .slice a i q → e' 5 = .slice (some ⟨g5, o5, none⟩) lines.length q5 → e' 6 = i64 i → e' 7 = .slice (some ⟨g7, oo7, none⟩) 4 q7 → e' 10 = pt (w2.heap.size + 1) 0 →
     hp w' (w2.heap.size + 1) = some (.cells #[i64 m0, i64 0, i64 m2, i64 t.t, i64 t.p] 41 (0, 0)) → Ext w2 w' → w'.heap.size = w2.heap.size + 2 → Af (CA e' w') Q := by
    intro e' w' m0 m2 hm0 hm2 e4 e5 e6 e7 e10 X E3 hs'
    have zE3 := E3.size
    try simp only [qz] at zE3
    rw [Jl]
    simp (disch := first | exact xD | fail) [-bind_some, -Aa, -Ab]
    refine Q2 (l := l) (lines := lines) (w0 := w0) (i := i) (x := x) (y0 := y0) (y1 := y1) (y2 := y2) (y3 := y3) (m0 := m0) (m2 := m2) (t := t) (acc := acc) (a := a) (q := q) (b := w2.heap.size + 1) H hi hi81 hx Ad hal ?_ bad ?_ 3 1 _ w' 0 rfl Ad (by exact e4) (by exact e5) (by exact e6) (by exact e7) (by exact e10) (by exact rfl) (A72.ext E3) (((A5.ext E1).ext E2).ext E3) X (fun K h1 h2 => by omega) (((ho.ext E1).ext E2).ext E3 |>.wide (by intro z hz hl; have h1 := hz.1; have h2 := hz.2; simp only [In] at h1 ⊢; omega)) Ad Ad xE
    ·intro d' h1 h2
     obtain ⟨k0, k1, k2, k3⟩ := hw d' h1 h2
     obtain ⟨q1, q2, q3, q4, _⟩ := Fh.1 h1
     have r0 := hm0 d'.Ay.toNat Ad k0
     have r2 := hm2 d'.key.toNat Ad k2
     have r3 : okt = true := by
      cases hh : okt
      ·rw [hh] at hgt; exact absurd k3.symm ((hgt.2 rfl).2 _ q4)
      ·rfl
     obtain ⟨h5, h6⟩ := hgt.1 r3
     exact ⟨by omega, by omega, NJ h5 q4 (h6.trans k3), k1⟩
    ·intro e9 w9 d9 a9 q9 f4 f5 f6 hok9 hte9 o9 A9 E9
     have zE9 := E9.size
     try simp only [qz] at zE9
     refine Af.mono (ih (i + 1) e9 w9 (acc ++ [d9]) a9 q9 Ad (by simp; omega) f4 f5 f6 ?_ ?_ o9 A9 E9) hQ
     ·intro u hu
      rcases List.mem_append.1 hu with h | h
      ·exact hok u h
      ·rw [List.mem_singleton.1 h]; exact hok9
     ·rw [List.map_append, hm, List.take_add_one, hx, List.map_singleton, hte9]; rfl
   have c02 := AX E2 c0
   have c22 := AX E2 c2
   refine IK _ _ ?_
   simp (disch := first | exact xD | fail) [-bind_some, qs, -Aa, -Ab, c0, c2, Fv, E2.Ai]
   constructor
   ·refine Af.mono (EN (l := y0) Ad _) ?_
    rintro _ ⟨m0, rfl, hm0⟩
    simp (disch := first | exact xD | fail) [-bind_some, qs, -Aa, -Ab, c0, c2, E2.Ai]
    constructor
    ·refine Af.mono (EN (l := y2) Ad _) ?_
     rintro _ ⟨m2, rfl, hm2⟩
     simp (disch := first | exact xD | fail) [-bind_some, qs, -Aa, -Ab, qm, c0, c2, E2.Ai]
     exact fin _ _ m0 m2 hm0 hm2 xA xA xA xA xA (by first | assumption | rfl | (simp (disch := first | exact xD | fail) [-bind_some, qs, -Aa, -Ab]; done)) xE (by simp)
    ·refine Af.mono (EN (l := y2) Ad _) ?_
     rintro _ ⟨m2, rfl, hm2⟩
     simp (disch := first | exact xD | fail) [-bind_some, qs, -Aa, -Ab, qm]
     exact fin _ _ m0 m2 hm0 hm2 xA xA xA xA xA (by first | assumption | rfl | (simp (disch := first | exact xD | fail) [-bind_some, qs, -Aa, -Ab]; done)) xE (by simp)
   ·refine Af.mono (EN (l := y0) Ad _) ?_
    rintro _ ⟨m0, rfl, hm0⟩
    simp (disch := first | exact xD | fail) [-bind_some, qs, -Aa, -Ab, c2, E2.Ai]
    refine Af.mono (EN (l := y2) Ad _) ?_
    rintro _ ⟨m2, rfl, hm2⟩
    simp (disch := first | exact xD | fail) [-bind_some, qs, -Aa, -Ab, qm]
    exact fin _ _ m0 m2 hm0 hm2 xA xA xA xA xA (by first | assumption | rfl | (simp (disch := first | exact xD | fail) [-bind_some, qs, -Aa, -Ab]; done)) xE (by simp)
  ·have h4' : (((Cx 32 4 x).length : Int) != 4) = true := by simpa using (by omega : ((Cx 32 4 x).length : Int) ≠ 4)
   simp (disch := first | exact xD | fail) [-bind_some, -Aa, -Ab, h4']
   exact bad _ xE fun ys h1 h2 => by
    obtain ⟨d', h3, h5⟩ := hline ys h1 h2
    exact h4 (by rw [← h5, show (4 : Nat) = 1 + 3 from rfl, K9 d' 1]; rfl)
theorem MG {l : List UInt8} (hl : l.length ≤ 1100000) (w : World) : Af (EV P 11 #[.string (AZ l)] w) fun r => ∃ xs ok a q, r.1 = .tuple #[.slice a xs.length q, .bool ok] ∧ GD l xs ok ∧ O Bx (In w.heap.size r.2.heap.size) r.2 [.slice a xs.length q] xs ∧ Ext w r.2 := by
 refine Af.post fun Q hQ => ?_
 have bad : ∀ w', Ext w w' → (∀ ys, BM ys = true → AP ys ≠ l) → Q (.tuple #[.slice none 0 0, .bool false], w') := fun w' h1 h2 => hQ _ ⟨[], false, none, 0, rfl, ⟨by simp, fun _ => ⟨rfl, h2⟩⟩, O.nil, h1⟩
 refine Bw (Ln _ _) ?_
 by_cases hl0 : l = []
 ·subst hl0
  simp (disch := first | exact xD | fail) [-bind_some, -Aa, -Ab, Az]
  exact hQ _ ⟨[], true, some ⟨w.heap.size, 0, none⟩, 0, rfl, ⟨fun _ => ⟨by decide, rfl⟩, by simp⟩, (O.empty (g := w.heap.size) (by first | assumption | rfl | (simp (disch := first | exact xD | fail) [-bind_some, qs, -Aa, -Ab]; done))).wide (by intro b hb hl; have : b = w.heap.size := hb; simp only [In, World.size_alloc] at *; omega), xE⟩
 ·have hl0' : (l == []) = false := beq_eq_false_iff_ne.2 hl0
  have hem : l.isEmpty = false := by cases l; exact absurd rfl hl0; rfl
  have hpos : 0 < l.length := List.length_pos_iff.2 hl0
  obtain ⟨b, hb, _⟩ := An (l := l) (k := l.length - 1) Ad
  have hw1 : IntKind.i64.wrap ((l.length : Int) - 1) = (l.length : Int) - 1 := HS Ad Ad
  have hix := fun w => HI (P := P) (t := 9) (by kernel_rfl) l (k := .i64) (i := (l.length : Int) - 1) Ad (b := b) (by rw [show ((l.length : Int) - 1).toNat = l.length - 1 by omega]; exact hb) w
  have hlast : l = l.take (l.length - 1) ++ [b] := by
   have h1 := List.take_append_drop (l.length - 1) l
   have h2 : l.drop (l.length - 1) = [b] := by
    obtain ⟨b', h3, h4⟩ := An (l := l) (k := l.length - 1) Ad
    rw [h4, List.drop_of_length_le Ad]
    rw [hb] at h3
    rw [Option.some.inj h3]
   rw [h2] at h1
   exact h1.symm
  have hys0 : ∀ ys, BM ys = true → AP ys = l → b = 10 ∧ ys.map Bz = AV 10 (l.take (l.length - 1)) := by
   intro ys h1 h2
   have hne : ys ≠ [] := by
    rintro rfl
    exact hl0 h2.symm
   obtain ⟨s, h3, h4⟩ := NH ys hne
   rw [h2] at h3
   have h5 := hlast.symm.trans h3
   have h6 := List.append_inj_right' h5 rfl
   have h7 := List.append_inj_left' h5 rfl
   exact ⟨(List.cons.inj h6).1, by rw [h7, h4]⟩
  by_cases hb10 : b = 10
  ·have hb' : ((b.toNat : Int) != 10) = false := by rw [hb10]; rfl
   have hsl := fun w => Hs (P := P) (t := 9) (by kernel_rfl) l (j := (l.length : Int) - 1) Ad Ad w
   rw [show ((l.length : Int) - 1).toNat = l.length - 1 by omega] at hsl
   obtain ⟨s0, hs0⟩ : ∃ s0, s0 = l.take (l.length - 1) := ⟨_, rfl⟩
   rw [← hs0] at hsl hlast hys0
   have hsl0 : s0.length + 1 = l.length := by rw [hs0, List.length_take]; omega
   simp (disch := first | exact xD | fail) [-bind_some, -Aa, -Ab, hl0', Az, AA, hw1, hix, hb', hsl]
   refine Af.bind (Py (l := s0) (c := 10) (N := l.length) Ad Ad _) ?_
   rintro ⟨_, w1⟩ ⟨a, q, rfl, o1, E1⟩
   have zE1 := E1.size
   try simp only [qz] at zE1
   try dsimp only at o1 E1
   have hcut : Cx 10 l.length s0 = AV 10 s0 := NF 10 _ _ _ (by have := List.count_le_length (a := (10 : UInt8)) (l := s0); omega) (Nat.le_refl _)
   rw [hcut] at o1
   have hlen := Dn 10 s0
   have hcl := List.count_le_length (a := (10 : UInt8)) (l := s0)
   obtain ⟨g5, o5, rfl, A5⟩ := VC o1 Ad
   have hsz := O5 10 s0
   have H : LinesAt l (AV 10 s0) := ⟨fun x hx => by have := hsz x hx; omega, by omega, fun ys h1 h2 => (hys0 ys h1 h2).2, by rw [SY s0 s0.length (Nat.le_refl _), hlast, hb10]⟩
   have zE1 := E1.size
   simp only [World.size_alloc] at zE1
   rw [hcut]
   simp (disch := first | exact xD | fail) [-bind_some, -Aa, -Ab]
   have Xo : hp w1 w.heap.size = some (.cells #[] 41 (0, 0)) := (E1.Ai (by simp)).trans (by first | assumption | rfl | (simp (disch := first | exact xD | fail) [-bind_some, qs, -Aa, -Ab]; done))
   have h5 : g5 ≠ w.heap.size := by
    rintro rfl
    obtain ⟨y, hy, _⟩ := An (l := AV 10 s0) (k := 0) Ad
    have := A5 0 y hy
    rw [Xo] at this
    cases this
   exact Af.mono (Q3 (w0 := w) (g5 := g5) (o5 := o5) (q5 := q) H (min (AV 10 s0).length 81) 0 _ w1 [] (some ⟨w.heap.size, 0, none⟩) 0 Ad rfl xA xA xA (by simp) (by simp) ((O.empty (g := w.heap.size) Xo).wide (by intro b hb hl; have h1 : b = w.heap.size := hb; subst h1; exact ⟨⟨Nat.le_refl _, hl⟩, Ne.symm h5⟩)) A5 xE) hQ
  ·have hb' : ((b.toNat : Int) != 10) = true := by
    have : (b.toNat : Int) ≠ 10 := fun h => hb10 (UInt8.toNat_inj.1 (by show b.toNat = 10; omega))
    simpa using this
   simp (disch := first | exact xD | fail) [-bind_some, -Aa, -Ab, hl0', Az, AA, hw1, hix, hb']
   exact bad _ xE fun ys h1 h2 => hb10 (hys0 ys h1 h2).1
theorem UZ : (P.fieldsOf 41).toList = [{ name := "Sess", type := 3, offset := 0, embedded := false, tag := "", pkgPath := "", byteOffset := 0 }, { name := "Kind", type := 3, offset := 1, embedded := false, tag := "", pkgPath := "", byteOffset := 8 }, { name := "Key", type := 3, offset := 2, embedded := false, tag := "", pkgPath := "", byteOffset := 16 }, { name := "Tag", type := 39, offset := 3, embedded := false, tag := "", pkgPath := "", byteOffset := 24 }] := by kernel_rfl
theorem U0 : (P.fieldsOf 39).toList = [{ name := "Time", type := 3, offset := 0, embedded := false, tag := "", pkgPath := "", byteOffset := 0 }, { name := "Place", type := 3, offset := 1, embedded := false, tag := "", pkgPath := "", byteOffset := 8 }] := by kernel_rfl
theorem Qa (x y : Operand) (d : Done) (w : World) : bo P .neq 41 x y (.agg (Cd d).toArray) (.agg (Cd d).toArray) w = some (.bool false, w) := by
 have hi : P.underlying 3 = some (.int .i64) := by kernel_rfl
 have hI : OI P 3 = some false := by kernel_rfl
 have hT : OI P 39 = some true := by kernel_rfl
 have hz : RI P 39 = some 2 := by kernel_rfl
 have hg := run_eqGuard_agg (P := P) w .neq 41 x y (Cd d).toArray (Cd d).toArray (by kernel_rfl)
 have hs := run_equalIn_struct (P := P) w 9999 41 (Cd d).toArray (Cd d).toArray (by kernel_rfl) (by kernel_rfl)
 have ht := run_equalIn_struct (P := P) w 9998 39 #[i64 d.tag.t, i64 d.tag.p] #[i64 d.tag.t, i64 d.tag.p] (by kernel_rfl) (by kernel_rfl)
 have p0 : (part 3 (Cd d).toArray 0).run P w = .ok (i64 d.Ay) w := FY hI _ rfl w
 have p1 : (part 3 (Cd d).toArray 1).run P w = .ok (i64 d.kind) w := FY hI _ rfl w
 have p2 : (part 3 (Cd d).toArray 2).run P w = .ok (i64 d.key) w := FY hI _ rfl w
 have p3 : (part 39 (Cd d).toArray 3).run P w = .ok (.agg #[i64 d.tag.t, i64 d.tag.p]) w := by
  simp [part, FI hT, Bk hz]
 have q0 : (part 3 #[i64 d.tag.t, i64 d.tag.p] 0).run P w = .ok (i64 d.tag.t) w := FY hI _ rfl w
 have q1 : (part 3 #[i64 d.tag.t, i64 d.tag.p] 1).run P w = .ok (i64 d.tag.p) w := FY hI _ rfl w
 have e0 := run_equalIn_int (P := P) w 9998 3 .i64 .i64 d.Ay d.Ay hi
 have e1 := run_equalIn_int (P := P) w 9998 3 .i64 .i64 d.kind d.kind hi
 have e2 := run_equalIn_int (P := P) w 9998 3 .i64 .i64 d.key d.key hi
 have f0 := run_equalIn_int (P := P) w 9997 3 .i64 .i64 d.tag.t d.tag.t hi
 have f1 := run_equalIn_int (P := P) w 9997 3 .i64 .i64 d.tag.p d.tag.p hi
 simp only [bo, Sem.run_bind, hg, Result.andThen_ok, run_neq_struct, hs, UZ]
 simp [Op.eqFields, p0, p1, p2, p3, e0, e1, e2, ht, U0, q0, q1, f0, f1, ro]
theorem Of {a b : Option Addr} {c c' : Nat} {S S' : Nat → Prop} {xs : List Done} {w0 : World} :
  ∀ (d k : Nat) (e : Env) (w : World), k + d = xs.length → e 0 = .slice a xs.length c → e 1 = .slice b xs.length c' → e 5 = i64 k → D Bx S w0 [.slice a xs.length c] xs → D Bx S' w0 [.slice b xs.length c'] xs → Ext w0 w →
  Af (DP e w) fun r => r.1 = .bool true ∧ Ext w0 r.2 := by
 intro d
 induction d with
 | zero =>
  intro k e w hd e0 e1 e5 ha hb E0
  have zE0 := E0.size
  try simp only [qz] at zE0
  rw [Ge]
  obtain rfl : k = xs.length := by omega
  refine Af.post fun Q hQ => ?_
  simp (disch := first | exact xD | fail) [-bind_some, -Aa, -Ab, e0, e5]
  exact hQ _ ⟨rfl, xE⟩
 | succ d ih =>
  intro k e w hd e0 e1 e5 ha hb E0
  have zE0 := E0.size
  try simp only [qz] at zE0
  rw [Ge]
  have hlt : k < xs.length := by omega
  obtain ⟨x, hx, hdx⟩ := An hlt
  have hn := ha.n
  obtain ⟨b1, o1, cs1, rfl, A1, D1, _, l1⟩ := (ha.ext E0).at AD hx
  obtain ⟨b2, o2, cs2, rfl, A2, D2, _, l2⟩ := (hb.ext E0).at AD hx
  obtain rfl := D.done.1 D1
  obtain rfl := D.done.1 D2
  simp only [Ko] at A1 A2
  have p0 := A1 0 _ rfl
  have p1 := A1 1 _ rfl
  have p2 := A1 2 _ rfl
  have p3 := A1 3 _ rfl
  have p4 := A1 4 _ rfl
  simp only [Nat.add_zero] at p0 p1 p2 p3 p4
  have q0 := A2 0 _ rfl
  have q1 := A2 1 _ rfl
  have q2 := A2 2 _ rfl
  have q3 := A2 3 _ rfl
  have q4 := A2 4 _ rfl
  simp only [Nat.add_zero] at q0 q1 q2 q3 q4
  have hneq := fun (u v : Operand) (w : World) => Qa u v x w
  simp only [Cd] at hneq
  refine Af.post fun Q hQ => ?_
  simp (disch := first | exact xD | fail) [-bind_some, qs, -Aa, -Ab, e0, e1, e5, hlt, JR, hneq, p0, p1, p2, p3, p4, q0, q1, q2, q3, q4]
  exact Af.mono (ih (k + 1) _ _ Ad xA xA xA ha hb xE) hQ
theorem I9 {a b : Option Addr} {n m c c' : Nat} {S S' : Nat → Prop} {xs : List Done} {w : World} (ha : D Bx S w [.slice a n c] xs) (hb : D Bx S' w [.slice b m c'] xs) :
  Af (EV P 9 #[.slice a n c, .slice b m c'] w) fun r => r.1 = .bool true ∧ Ext w r.2 := by
 obtain ⟨rfl, hm, _⟩ := ha.n
 obtain ⟨rfl, hm2, _⟩ := hb.n
 refine Af.post fun Q hQ => ?_
 refine Bw (Mf _ _ _) ?_
 simp (disch := first | exact xD | fail) [-bind_some, -Aa, -Ab, bne_self_eq_false]
 refine Af.mono (Of xs.length 0 _ w Ad rfl rfl rfl ha hb Ext.rfl) hQ
end Go.Proofs.YtkhbpmhagpljiaaGreatDoor.X
