/- A part of the proof, without conditions. -/
import Derived.Test.YtkhbpmhagpljiaaGreatDoorT6
import Derived.Test.YtkhbpmhagpljiaaGreatDoorEvLv
import Derived.Test.YtkhbpmhagpljiaaGreatDoorEvL
import Derived.Test.YtkhbpmhagpljiaaGreatDoorEvTa
set_option linter.unusedVariables false
set_option linter.unusedSimpArgs false
set_option linter.deprecated false
set_option maxRecDepth 100000
set_option maxHeartbeats 1000000
namespace Go.Proofs.YtkhbpmhagpljiaaGreatDoor.X
open Go Go.Ev Go.RowKit
theorem O0 : ∀ (k v : Nat), v < 10 ^ (k + 1) → (Bx v).length ≤ k + 1
 | 0, v, h => by rw [Ez (by simpa using h)]; simp
 | k + 1, v, h => by
  by_cases h10 : v < 10
  ·rw [Ez h10]; simp
  ·rw [Fc h10, List.length_append]
   have := O0 k (v / 10) (by rw [Nat.pow_succ] at h; omega)
   simp
   omega
theorem SI {l s0 : List UInt8} {x : UInt8} (hl : l.length ≤ 281474976710656) {e : Env} {w : World} (e0 : e 0 = .string (A8 l)) (e5 : e 5 = .string (A8 (x :: s0))) :
  Ad (Bh e w) fun r => Ext w r.2 ∧ ∃ m q, r.1 = .tuple #[i64 m, Ie q] ∧ (q = 0 ∨ q = 2) ∧ ∀ v, GM 0 l = some v → x ≠ 45 → q = 0 ∧ m = v := by
 rw [E7]
 obtain ⟨c, w1, hcv, E1, hce, hsz⟩ := QU (P := P) (src := 9) (dst := 22) (e := 5) (u := .string) (by kernel_rfl) (by kernel_rfl) (by kernel_rfl) (A8 l) w
 have zE1 := E1.size
 try simp only [qz] at zE1
 rw [AJ] at hcv
 rw [Ay] at hce
 refine Ad.post fun Q hQ => ?_
 simp (disch := first | exact xD | fail) [-Option.bind_some, -Aa, -Ab, e0, hcv]
 refine Ad.mono (Vf (l := l) (x := x) (s0 := s0) hl l.length 0 _ _ 0 (by omega) rfl rfl rfl rfl xA hce) ?_
 rintro ⟨_, w2⟩ ⟨rfl, m, q, rfl, h3, h4⟩
 exact hQ _ ⟨E1, m, q, rfl, h3, h4⟩
theorem SJ : IntKind.u64.wrap (1 * 2 ^ min (64 : Int).toNat IntKind.u64.bits) = 0 := by decide
theorem YL {g c : Nat} {l : List UInt8} (hl : l.length ≤ 281474976710656) : ∀ (d k : Nat) (e : Env) (w : World) (n : Int), k + d = l.length → e 99 = .slice (some ⟨g, 0, none⟩) l.length c → e 100 = i64 l.length → e 101 = i64 k → e 8 = .bool false → e 12 = .bool false → e 1 = i64 10 → e 13 = .int .u64 n → e 10 = .int .u64 1844674407370955162 → e 11 = .int .u64 18446744073709551615 →
  (∀ (j : Nat) b, l[j]? = some b → AP (hp w g) j = some (.int .u8 b.toNat)) →
  Ad (Bb e w) fun r => r.2 = w ∧ ∃ m q, r.1 = .tuple #[.int .u64 m, Ie q] ∧ (q = 0 ∨ q = 1 ∨ q = 2) := by
 intro d
 induction d with
 | zero =>
  intro k e w n hd e99 e100 e101 e8 e12 e1 e13 e10 e11 hc
  rw [BT]
  obtain rfl : k = l.length := by omega
  refine Ad.post fun Q hQ => ?_
  simp (disch := first | exact xD | fail) [-Option.bind_some, -Aa, -Ab, e100, e101, e12, e13]
  exact hQ _ ⟨rfl, n, 0, rfl, Or.inl rfl⟩
 | succ d ih =>
  intro k e w n hd e99 e100 e101 e8 e12 e1 e13 e10 e11 hc
  rw [BT]
  have hlt : k < l.length := by omega
  obtain ⟨b, hb, hdr⟩ := Al hlt
  have p0 : AP (hp w g) k = some (.int .u8 b.toNat) := hc k b hb
  have j4 : ∀ (e : Env) (w : World) (n : Int), e 99 = .slice (some ⟨g, 0, none⟩) l.length c → e 100 = i64 l.length → e 101 = i64 k → e 8 = .bool false → e 12 = .bool false → e 1 = i64 10 → e 13 = .int .u64 n → e 10 = .int .u64 1844674407370955162 → e 11 = .int .u64 18446744073709551615 →
    (∀ (j : Nat) b, l[j]? = some b → AP (hp w g) j = some (.int .u8 b.toNat)) →
    Ad (Bc e w) fun r => r.2 = w ∧ ∃ m q, r.1 = .tuple #[.int .u64 m, Ie q] ∧ (q = 0 ∨ q = 1 ∨ q = 2) := by
   intro e w n e99 e100 e101 e8 e12 e1 e13 e10 e11 hc
   rw [DO]
   refine Ad.post fun Q hQ => ?_
   simp (disch := first | exact xD | fail) [-Option.bind_some, qs, -Aa, -Ab, e101]
   exact Ad.mono (ih (k + 1) _ _ n (by omega) xA xA xA xA xA xA xA xA xA hc) hQ
  have j5 : ∀ (e : Env) (w : World) (y n : Int), e 99 = .slice (some ⟨g, 0, none⟩) l.length c → e 100 = i64 l.length → e 101 = i64 k → e 8 = .bool false → e 12 = .bool false → e 1 = i64 10 → e 13 = .int .u64 n → e 10 = .int .u64 1844674407370955162 → e 11 = .int .u64 18446744073709551615 → e 16 = .int .u8 y →
    (∀ (j : Nat) b, l[j]? = some b → AP (hp w g) j = some (.int .u8 b.toNat)) →
    Ad (Bd e w) fun r => r.2 = w ∧ ∃ m q, r.1 = .tuple #[.int .u64 m, Ie q] ∧ (q = 0 ∨ q = 1 ∨ q = 2) := by
   intro e w y n e99 e100 e101 e8 e12 e1 e13 e10 e11 e16 hc
   rw [DP]
   have h10 : IntKind.u8.wrap 10 = 10 := by decide
   have h10' : IntKind.u64.wrap 10 = 10 := by decide
   refine Ad.post fun Q hQ => ?_
   by_cases hy : 10 ≤ y
   ·simp (disch := first | exact xD | fail) [-Option.bind_some, -Aa, -Ab, e16, e1, h10, hy, BQ]
    exact hQ _ ⟨rfl, 0, 2, rfl, Or.inr (Or.inr rfl)⟩
   by_cases hn : 1844674407370955162 ≤ n
   ·simp (disch := first | exact xD | fail) [-Option.bind_some, -Aa, -Ab, e16, e1, e13, e10, e11, h10, hy, hn, BQ]
    exact hQ _ ⟨rfl, _, 1, rfl, Or.inr (Or.inl rfl)⟩
   obtain ⟨m1, hm1⟩ : ∃ m1, m1 = IntKind.u64.wrap (n * 10) := ⟨_, rfl⟩
   obtain ⟨m2, hm2⟩ : ∃ m2, m2 = IntKind.u64.wrap (m1 + IntKind.u64.wrap y) := ⟨_, rfl⟩
   by_cases h3 : m2 < m1
   ·simp (disch := first | exact xD | fail) [-Option.bind_some, -Aa, -Ab, e16, e1, e13, e10, e11, h10, h10', hy, hn, BQ, IL, ← hm1, ← hm2, h3]
    exact hQ _ ⟨rfl, _, 1, rfl, Or.inr (Or.inl rfl)⟩
   by_cases h4 : (18446744073709551615 : Int) < m2
   ·simp (disch := first | exact xD | fail) [-Option.bind_some, -Aa, -Ab, e16, e1, e13, e10, e11, h10, h10', hy, hn, BQ, IL, ← hm1, ← hm2, h3, h4]
    exact hQ _ ⟨rfl, _, 1, rfl, Or.inr (Or.inl rfl)⟩
   ·simp (disch := first | exact xD | fail) [-Option.bind_some, -Aa, -Ab, e16, e1, e13, e10, e11, h10, h10', hy, hn, IL, ← hm1, ← hm2, h3, h4]
    exact Ad.mono (j4 _ _ m2 xA xA xA xA xA xA xA xA xA hc) hQ
  obtain ⟨z, hz⟩ : ∃ z, ((b.toNat : Int) == 95) = z := ⟨_, rfl⟩
  refine Ad.post fun Q hQ => ?_
  cases z
  ·by_cases h48 : (48 : Int) ≤ b.toNat
   ·by_cases h57 : (b.toNat : Int) ≤ 57
    ·simp (disch := first | exact xD | fail) [-Option.bind_some, -Aa, -Ab, e99, e100, e101, hlt, Hd, p0, e8, hz, h48, h57]
     exact Ad.mono (j5 _ _ _ n xA xA xA xA xA xA xA xA xA rfl hc) hQ
    ·simp (disch := first | exact xD | fail) [-Option.bind_some, -Aa, -Ab, e99, e100, e101, hlt, Hd, p0, e8, hz, h48, h57]
     refine Ad.bind (Df _ _) ?_
     rintro _ ⟨y, rfl⟩
     by_cases h97 : 97 ≤ y
     ·simp (disch := first | exact xD | fail) [-Option.bind_some, -Aa, -Ab, h97]
      refine Ad.bind (Df _ _) ?_
      rintro _ ⟨y2, rfl⟩
      by_cases h122 : y2 ≤ 122
      ·simp (disch := first | exact xD | fail) [-Option.bind_some, -Aa, -Ab, h122]
       refine Ad.bind (Df _ _) ?_
       rintro _ ⟨y3, rfl⟩
       simp (disch := first | exact xD | fail) [-Option.bind_some, -Aa, -Ab]
       exact Ad.mono (j5 _ _ _ n xA xA xA xA xA xA xA xA xA rfl hc) hQ
      ·simp (disch := first | exact xD | fail) [-Option.bind_some, -Aa, -Ab, h122, BQ]
       exact hQ _ ⟨rfl, 0, 2, rfl, Or.inr (Or.inr rfl)⟩
     ·simp (disch := first | exact xD | fail) [-Option.bind_some, -Aa, -Ab, h97, BQ]
      exact hQ _ ⟨rfl, 0, 2, rfl, Or.inr (Or.inr rfl)⟩
   ·simp (disch := first | exact xD | fail) [-Option.bind_some, -Aa, -Ab, e99, e100, e101, hlt, Hd, p0, e8, hz, h48]
    refine Ad.bind (Df _ _) ?_
    rintro _ ⟨y, rfl⟩
    by_cases h97 : 97 ≤ y
    ·simp (disch := first | exact xD | fail) [-Option.bind_some, -Aa, -Ab, h97]
     refine Ad.bind (Df _ _) ?_
     rintro _ ⟨y2, rfl⟩
     by_cases h122 : y2 ≤ 122
     ·simp (disch := first | exact xD | fail) [-Option.bind_some, -Aa, -Ab, h122]
      refine Ad.bind (Df _ _) ?_
      rintro _ ⟨y3, rfl⟩
      simp (disch := first | exact xD | fail) [-Option.bind_some, -Aa, -Ab]
      exact Ad.mono (j5 _ _ _ n xA xA xA xA xA xA xA xA xA rfl hc) hQ
     ·simp (disch := first | exact xD | fail) [-Option.bind_some, -Aa, -Ab, h122, BQ]
      exact hQ _ ⟨rfl, 0, 2, rfl, Or.inr (Or.inr rfl)⟩
    ·simp (disch := first | exact xD | fail) [-Option.bind_some, -Aa, -Ab, h97, BQ]
     exact hQ _ ⟨rfl, 0, 2, rfl, Or.inr (Or.inr rfl)⟩
  ·by_cases h48 : (48 : Int) ≤ b.toNat
   ·by_cases h57 : (b.toNat : Int) ≤ 57
    ·simp (disch := first | exact xD | fail) [-Option.bind_some, -Aa, -Ab, e99, e100, e101, hlt, Hd, p0, e8, hz, h48, h57]
     exact Ad.mono (j5 _ _ _ n xA xA xA xA xA xA xA xA xA rfl hc) hQ
    ·simp (disch := first | exact xD | fail) [-Option.bind_some, -Aa, -Ab, e99, e100, e101, hlt, Hd, p0, e8, hz, h48, h57]
     refine Ad.bind (Df _ _) ?_
     rintro _ ⟨y, rfl⟩
     by_cases h97 : 97 ≤ y
     ·simp (disch := first | exact xD | fail) [-Option.bind_some, -Aa, -Ab, h97]
      refine Ad.bind (Df _ _) ?_
      rintro _ ⟨y2, rfl⟩
      by_cases h122 : y2 ≤ 122
      ·simp (disch := first | exact xD | fail) [-Option.bind_some, -Aa, -Ab, h122]
       refine Ad.bind (Df _ _) ?_
       rintro _ ⟨y3, rfl⟩
       simp (disch := first | exact xD | fail) [-Option.bind_some, -Aa, -Ab]
       exact Ad.mono (j5 _ _ _ n xA xA xA xA xA xA xA xA xA rfl hc) hQ
      ·simp (disch := first | exact xD | fail) [-Option.bind_some, -Aa, -Ab, h122, BQ]
       exact hQ _ ⟨rfl, 0, 2, rfl, Or.inr (Or.inr rfl)⟩
     ·simp (disch := first | exact xD | fail) [-Option.bind_some, -Aa, -Ab, h97, BQ]
      exact hQ _ ⟨rfl, 0, 2, rfl, Or.inr (Or.inr rfl)⟩
   ·simp (disch := first | exact xD | fail) [-Option.bind_some, -Aa, -Ab, e99, e100, e101, hlt, Hd, p0, e8, hz, h48]
    refine Ad.bind (Df _ _) ?_
    rintro _ ⟨y, rfl⟩
    by_cases h97 : 97 ≤ y
    ·simp (disch := first | exact xD | fail) [-Option.bind_some, -Aa, -Ab, h97]
     refine Ad.bind (Df _ _) ?_
     rintro _ ⟨y2, rfl⟩
     by_cases h122 : y2 ≤ 122
     ·simp (disch := first | exact xD | fail) [-Option.bind_some, -Aa, -Ab, h122]
      refine Ad.bind (Df _ _) ?_
      rintro _ ⟨y3, rfl⟩
      simp (disch := first | exact xD | fail) [-Option.bind_some, -Aa, -Ab]
      exact Ad.mono (j5 _ _ _ n xA xA xA xA xA xA xA xA xA rfl hc) hQ
     ·simp (disch := first | exact xD | fail) [-Option.bind_some, -Aa, -Ab, h122, BQ]
      exact hQ _ ⟨rfl, 0, 2, rfl, Or.inr (Or.inr rfl)⟩
    ·simp (disch := first | exact xD | fail) [-Option.bind_some, -Aa, -Ab, h97, BQ]
     exact hQ _ ⟨rfl, 0, 2, rfl, Or.inr (Or.inr rfl)⟩
theorem O1 {l : List UInt8} (hl : l.length ≤ 281474976710656) (w : World) : Ad (EV P 103 #[.string (A8 l), i64 10, i64 0] w) fun r => Ext w r.2 ∧ ∃ m q, r.1 = .tuple #[.int .u64 m, Ie q] ∧ (q = 0 ∨ q = 1 ∨ q = 2) := by
 refine Ad.post fun Q hQ => ?_
 refine Ad.enter plain mixed (EH _ _ _ _) (by kernel_rfl) (n := 3) (by kernel_rfl) rfl ?_
 by_cases h : l = []
 ·subst h
  simp (disch := first | exact xD | fail) [-Option.bind_some, -Aa, -Ab, CJ, Ay, BQ]
  exact hQ _ ⟨xE, 0, 2, rfl, Or.inr (Or.inr rfl)⟩
 ·have h' : (l == ([] : List UInt8)) = false := beq_eq_false_iff_ne.2 h
  obtain ⟨c, w1, hcv, E1, hce, hsz⟩ := QU (P := P) (src := 9) (dst := 22) (e := 5) (u := .string) (by kernel_rfl) (by kernel_rfl) (by kernel_rfl) (A8 l) w
  have zE1 := E1.size
  try simp only [qz] at zE1
  rw [AJ] at hcv
  rw [Ay] at hce
  have h64 : IntKind.u64.wrap (64 : Int) = 64 := by decide
  have hsh : ∀ w, bo P .shl 120 (.const (.int .u64 1)) (.tmp 95) (.int .u64 1) (.int .u64 64) w = some (.int .u64 0, w) := fun w => by
   rw [QV _ _ _ _ _ (by decide), SJ]
  simp (disch := first | exact xD | fail) [-Option.bind_some, qs, -Aa, -Ab, CJ, Ay, h', DL, DM, DN, h64, hsh, hcv]
  refine Ad.mono (YL (l := l) hl l.length 0 _ _ 0 (by omega) xA xA xA xA xA xA xA xA xA hce) ?_
  rintro ⟨_, w2⟩ ⟨rfl, m, q, rfl, h3⟩
  exact hQ _ ⟨E1, m, q, rfl, h3⟩
theorem XJ (n : Nat) (w : World) : bo P .neq 43 (.tmp n) (.const .nilIface) .nilIface .nilIface w = some (.bool false, w) := Mt 43 _ Tryz.underlying43 n .nilIface (Or.inl rfl) w
theorem WX (n : Nat) (u : TypeId) (v : Value) (w : World) : bo P .neq 43 (.tmp n) (.const .nilIface) (.iface u v) .nilIface w = some (.bool true, w) := Mt 43 _ Tryz.underlying43 n (.iface u v) (Or.inr ⟨u, v, rfl⟩) w
theorem nq (x y : Operand) (a b : Int) (w : World) : bo P .neq 43 x y (.iface 128 (.int .i64 a)) (.iface 128 (.int .i64 b)) w = some (.bool (!(a == b)), w) := RK Tryz.underlying43 Tryz.underlying128 (by kernel_rfl) x y a b w
theorem Zy (x y : Operand) (a b : Int) (w : World) : bo P .eql 43 x y (.iface 128 (.int .i64 a)) (.iface 128 (.int .i64 b)) w = some (.bool (a == b), w) := RJ Tryz.underlying43 Tryz.underlying128 (by kernel_rfl) x y a b w
theorem UB : Ie 0 = .nilIface := rfl
theorem UC : Ie 1 = .iface 128 (.int .i64 1) := rfl
theorem UD : Ie 2 = .iface 128 (.int .i64 2) := rfl
theorem SK : IntKind.u64.wrap (1 * 2 ^ min (63 : Int).toNat IntKind.u64.bits) = 9223372036854775808 := by decide
theorem UE {e : Env} {w : World} {b : Bool} {m : Int} (e2 : e 2 = i64 64) (e8 : e 8 = .bool b) (e9 : e 9 = .int .u64 m) :
  Ad (Bk e w) fun r => r.2 = w ∧ ∃ m q, r.1 = .tuple #[i64 m, Ie q] ∧ (q = 0 ∨ q = 1 ∨ q = 2) := by
 rw [Ef]
 have h64 : IntKind.u64.wrap (63 : Int) = 63 := by decide
 have hsh : ∀ w, bo P .shl 120 (.const (.int .u64 1)) (.tmp 44) (.int .u64 1) (.int .u64 63) w = some (.int .u64 9223372036854775808, w) := fun w => by
  rw [QV _ _ _ _ _ (by decide), SK]
 refine Ad.post fun Q hQ => ?_
 cases b
 ·by_cases h1 : (9223372036854775808 : Int) ≤ m
  ·simp (disch := first | exact xD | fail) [-Option.bind_some, qs, -Aa, -Ab, e2, e8, e9, h64, hsh, h1, BQ]
   exact hQ _ ⟨rfl, _, 1, rfl, Or.inr (Or.inl rfl)⟩
  ·simp (disch := first | exact xD | fail) [-Option.bind_some, qs, -Aa, -Ab, e2, e8, e9, h64, hsh, h1, BX]
   exact hQ _ ⟨rfl, _, 0, rfl, Or.inl rfl⟩
 ·by_cases h1 : (9223372036854775808 : Int) < m
  ·simp (disch := first | exact xD | fail) [-Option.bind_some, qs, -Aa, -Ab, e2, e8, e9, h64, hsh, h1, BQ]
   exact hQ _ ⟨rfl, _, 1, rfl, Or.inr (Or.inl rfl)⟩
  ·simp (disch := first | exact xD | fail) [-Option.bind_some, qs, -Aa, -Ab, e2, e8, e9, h64, hsh, h1, BX]
   exact hQ _ ⟨rfl, _, 0, rfl, Or.inl rfl⟩
theorem SL {e : Env} {w : World} {b : Bool} {l : List UInt8} (hl : l.length ≤ 281474976710656) (e0 : e 0 = .string (A8 l)) (e1 : e 1 = i64 10) (e2 : e 2 = i64 0) (e8 : e 8 = .bool b) :
  Ad (AQ e w) fun r => Ext w r.2 ∧ ∃ m q, r.1 = .tuple #[i64 m, Ie q] ∧ (q = 0 ∨ q = 1 ∨ q = 2) := by
 rw [Ee]
 refine Ad.post fun Q hQ => ?_
 simp (disch := first | exact xD | fail) [-Option.bind_some, -Aa, -Ab, e0, e1, e2]
 refine Ad.bind (O1 hl _) ?_
 rintro ⟨_, w1⟩ ⟨E1, m, q, rfl, hq⟩
 try dsimp only at E1 m q hq
 have zE1 := E1.size
 try simp only [qz] at zE1
 rcases hq with rfl | rfl | rfl
 ·simp (disch := first | exact xD | fail) [-Option.bind_some, qs, -Aa, -Ab, UB, XJ]
  refine Ad.mono (UE (b := b) (m := m) xA xA xA) ?_
  rintro ⟨_, w2⟩ ⟨rfl, m, q, rfl, h3⟩
  exact hQ _ ⟨E1, m, q, rfl, h3⟩
 ·simp (disch := first | exact xD | fail) [-Option.bind_some, qs, -Aa, -Ab, UC, WX, nq, BQ]
  refine Ad.mono (UE (b := b) (m := m) xA xA xA) ?_
  rintro ⟨_, w2⟩ ⟨rfl, m, q, rfl, h3⟩
  exact hQ _ ⟨E1, m, q, rfl, h3⟩
 ·simp (disch := first | exact xD | fail) [-Option.bind_some, qs, -Aa, -Ab, UD, WX, nq, BQ]
  exact hQ _ ⟨E1, 0, 2, rfl, Or.inr (Or.inr rfl)⟩
theorem Lv {l : List UInt8} (hl : l.length ≤ 281474976710656) (w : World) : Ad (EV P 80 #[.string (A8 l), i64 10, i64 0] w) fun r => Ext w r.2 ∧ ∃ m q, r.1 = .tuple #[i64 m, Ie q] ∧ (q = 0 ∨ q = 1 ∨ q = 2) := by
 refine Ad.post fun Q hQ => ?_
 refine Ad.enter plain mixed (EM _ _ _ _) (by kernel_rfl) (n := 3) (by kernel_rfl) rfl ?_
 cases l with
 | nil =>
  simp (disch := first | exact xD | fail) [-Option.bind_some, -Aa, -Ab, CJ, Ay, BQ]
  exact hQ _ ⟨xE, 0, 2, rfl, Or.inr (Or.inr rfl)⟩
 | cons x l =>
  have h' : ((x :: l) == ([] : List UInt8)) = false := rfl
  have hix := fun w => Mu (P := P) (t := 9) (by kernel_rfl) (x :: l) (k := .i64) (i := 0) (by decide) (b := x) rfl w
  have hsl := fun w => F8 (P := P) (t := 9) (by kernel_rfl) (x :: l) (i := 1) (by decide) (by rw [List.length_cons]; omega) w
  rw [show (x :: l).drop (1 : Int).toNat = l from rfl] at hsl
  rw [List.length_cons] at hl
  by_cases h43 : (x.toNat : Int) = 43
  ·have h43' : ((x.toNat : Int) == 43) = true := beq_iff_eq.2 h43
   simp (disch := first | exact xD | fail) [-Option.bind_some, -Aa, -Ab, CJ, Ay, h', hix, h43', hsl]
   refine Ad.mono (SL (l := l) (b := false) (by omega) xA xA xA xA) ?_
   rintro r h
   exact hQ _ h
  ·have h43' : ((x.toNat : Int) == 43) = false := beq_eq_false_iff_ne.2 h43
   by_cases h45 : (x.toNat : Int) = 45
   ·have h45' : ((x.toNat : Int) == 45) = true := beq_iff_eq.2 h45
    simp (disch := first | exact xD | fail) [-Option.bind_some, -Aa, -Ab, CJ, Ay, h', hix, h43', h45', hsl]
    refine Ad.mono (SL (l := l) (b := true) (by omega) xA xA xA xA) ?_
    rintro r h
    exact hQ _ h
   ·have h45' : ((x.toNat : Int) == 45) = false := beq_eq_false_iff_ne.2 h45
    simp (disch := first | exact xD | fail) [-Option.bind_some, -Aa, -Ab, CJ, Ay, h', hix, h43', h45']
    refine Ad.mono (SL (l := x :: l) (b := false) (by rw [List.length_cons]; omega) xA xA xA xA) ?_
    rintro r h
    exact hQ _ h
structure GlobE (W : World) : Prop where
 g : Glob W
 r : ∃ v, AP (hp W 3) 0 = some v ∧ ∃ t x, v = .iface t x
 s : ∃ v, AP (hp W 2) 0 = some v ∧ ∃ t x, v = .iface t x
theorem Bz {w w' : World} (k : Ext w w') {b i : Nat} {v : Value} (h : AP (hp w b) i = some v) : AP (hp w' b) i = some v := by
 have : b < w.heap.size := by
  cases hh : hp w b with
  | none => rw [hh] at h; cases h
  | some o => exact Ao hh
 rw [k.Ai this]
 exact h
theorem GlobE.ext {w w' : World} (h : GlobE w) (k : Ext w w') : GlobE w' := ⟨h.g.ext k, h.r.imp fun v hv => ⟨Bz k hv.1, hv.2⟩, h.s.imp fun v hv => ⟨Bz k hv.1, hv.2⟩⟩
theorem SM (a b : ByteArray) (t : TypeId) (x : Value) (w : World) : bd P 152 #[(0, .string a), (1, .string b), (2, .iface t x)] w = some (.agg #[.string a, .string b, .iface t x], w) := CB (by kernel_rfl)
theorem ML {f l : List UInt8} (hl : l.length ≤ 281474976710656) {w : World} (G : GlobE w) : Ad (EV P 81 #[.string (A8 f), .string (A8 l)] w) fun r => ∃ b, r.1 = pt b 0 ∧ Ext w r.2 := by
 obtain ⟨v, hv, t, x, rfl⟩ := G.s
 refine Ad.post fun Q hQ => ?_
 refine Ad.enter plain mixed (GX _ _ _) (by kernel_rfl) (n := 2) (by kernel_rfl) rfl ?_
 simp (disch := first | exact xD | fail) [-Option.bind_some, -Aa, -Ab, hv]
 refine Ad.bind (QE hl _) ?_
 rintro ⟨_, w1⟩ ⟨rfl, E1⟩
 try dsimp only at E1
 have zE1 := E1.size
 try simp only [qz] at zE1
 have hv1 := Bz ((Cs w).tr E1) hv
 simp (disch := first | exact xD | fail) [-Option.bind_some, -Aa, -Ab, hv1, SM]
 exact hQ _ ⟨_, rfl, xE⟩
theorem Ot {f l : List UInt8} (hl : l.length ≤ 281474976710656) {w : World} (G : GlobE w) : Ad (EV P 82 #[.string (A8 f), .string (A8 l)] w) fun r => ∃ b, r.1 = pt b 0 ∧ Ext w r.2 := by
 obtain ⟨v, hv, t, x, rfl⟩ := G.r
 refine Ad.post fun Q hQ => ?_
 refine Ad.enter plain mixed (Hm _ _ _) (by kernel_rfl) (n := 2) (by kernel_rfl) rfl ?_
 simp (disch := first | exact xD | fail) [-Option.bind_some, -Aa, -Ab, hv]
 refine Ad.bind (QE hl _) ?_
 rintro ⟨_, w1⟩ ⟨rfl, E1⟩
 try dsimp only at E1
 have zE1 := E1.size
 try simp only [qz] at zE1
 have hv1 := Bz ((Cs w).tr E1) hv
 simp (disch := first | exact xD | fail) [-Option.bind_some, -Aa, -Ab, hv1, SM]
 exact hQ _ ⟨_, rfl, xE⟩
theorem SN (v : Value) (w : World) : mi P 131 v w = some (.iface 131 v, w) := UQ (by kernel_rfl) v w
theorem Rj {f l : List UInt8} {q : Int} (hq : q = 1 ∨ q = 2) (hl : l.length ≤ 281474976710656) {w : World} (G : GlobE w) : Ad (EV P 63 #[.string (A8 f), .string (A8 l), i64 0, i64 0, Ie q] w) fun r => ∃ u v, r.1 = .iface u v ∧ Ext w r.2 := by
 refine Ad.post fun Q hQ => ?_
 refine Ad.enter plain mixed (IB _ _ _ _ _ _) (by kernel_rfl) (n := 5) (by kernel_rfl) rfl ?_
 rcases hq with rfl | rfl
 ·simp (disch := first | exact xD | fail) [-Option.bind_some, -Aa, -Ab, UC, BQ, Zy]
  refine Ad.bind (Ot hl G) ?_
  rintro ⟨_, w1⟩ ⟨b, rfl, E1⟩
  try dsimp only at b E1
  have zE1 := E1.size
  try simp only [qz] at zE1
  simp (disch := first | exact xD | fail) [-Option.bind_some, -Aa, -Ab, SN]
  exact hQ _ ⟨_, _, rfl, xE⟩
 ·simp (disch := first | exact xD | fail) [-Option.bind_some, -Aa, -Ab, UD, BQ, Zy]
  refine Ad.bind (ML hl G) ?_
  rintro ⟨_, w1⟩ ⟨b, rfl, E1⟩
  try dsimp only at b E1
  have zE1 := E1.size
  try simp only [qz] at zE1
  simp (disch := first | exact xD | fail) [-Option.bind_some, -Aa, -Ab, SN]
  exact hQ _ ⟨_, _, rfl, xE⟩
theorem TV {l : List UInt8} (hl : l.length ≤ 281474976710656) (w : World) : Ad (EV P 62 #[.string (A8 l)] w) fun r => Ext w r.2 ∧ ∃ m q, r.1 = .tuple #[i64 m, Ie q] ∧ (q = 0 ∨ q = 1 ∨ q = 2) ∧ ∀ v : Nat, v ≤ 99999999 → l = Bx v → q = 0 ∧ m = v := by
 have hdig : ∀ v : Nat, v ≤ 99999999 → l = Bx v → 0 < l.length ∧ l.length < 19 := by
  rintro v hv rfl
  have := O0 7 v (by omega)
  have := BL v
  omega
 refine Ad.post fun Q hQ => ?_
 refine Ad.enter plain mixed (Gg _ _) (by kernel_rfl) (n := 1) (by kernel_rfl) rfl ?_
 by_cases hf : 0 < l.length ∧ l.length < 19
 ·obtain ⟨x, s0, rfl⟩ : ∃ x s0, l = x :: s0 := by
   cases l with
   | nil => simp at hf
   | cons x s0 => exact ⟨x, s0, rfl⟩
  have hix := fun w => Mu (P := P) (t := 9) (by kernel_rfl) (x :: s0) (k := .i64) (i := 0) (by decide) (b := x) rfl w
  have hsl := fun w => F8 (P := P) (t := 9) (by kernel_rfl) (x :: s0) (i := 1) (by decide) (by rw [List.length_cons]; omega) w
  rw [show (x :: s0).drop (1 : Int).toNat = s0 from rfl] at hsl
  have hlen : ((x :: s0).length : Int) = (s0.length : Int) + 1 := by rw [List.length_cons]; omega
  rw [List.length_cons] at hf
  have hnd : ∀ v : Nat, v ≤ 99999999 → x :: s0 = Bx v → 48 ≤ x.toNat ∧ x.toNat ≤ 57 := by
   intro v hv he
   obtain ⟨c, l, h1, h2, h3⟩ := RN v
   rw [h1] at he
   rw [(List.cons.inj he).1]
   exact ⟨h2, h3⟩
  by_cases hsg : x.toNat = 45 ∨ x.toNat = 43
  ·have hno : ∀ v : Nat, v ≤ 99999999 → x :: s0 = Bx v → False := fun v hv he => by have := hnd v hv he; omega
   have hj : ∀ (e : Env) (w' : World), e 0 = .string (A8 s0) → e 5 = .string (A8 (x :: s0)) → Ext w w' → Ad (Bh e w') Q := by
    intro e w' e0 e5 E0
    have zE0 := E0.size
    try simp only [qz] at zE0
    refine Ad.mono (SI (l := s0) (by omega) e0 e5) ?_
    rintro ⟨_, w2⟩ ⟨E2, m, q, rfl, h3, h4⟩
    have zE2 := E2.size
    try simp only [] at zE2
    exact hQ _ ⟨E0.tr E2, m, q, rfl, by omega, fun v hv he => (hno v hv he).elim⟩
   have hs0 : s0.length < 1 ∨ ¬ s0.length < 1 := by omega
   rcases hs0 with hs0 | hs0
   ·rcases hsg with h45 | h43
    ·have h45' : ((x.toNat : Int) == 45) = true := beq_iff_eq.2 (by omega)
     simp (disch := first | exact xD | fail) [-Option.bind_some, -Aa, -Ab, AJ, show (s0.length : Int) + 1 < 19 by omega, hix, h45', hsl, show (s0.length : Int) < 1 by omega, BQ]
     exact hQ _ ⟨xE, 0, 2, rfl, by omega, fun v hv he => (hno v hv he).elim⟩
    ·have h45' : ((x.toNat : Int) == 45) = false := beq_eq_false_iff_ne.2 (by omega)
     have h43' : ((x.toNat : Int) == 43) = true := beq_iff_eq.2 (by omega)
     simp (disch := first | exact xD | fail) [-Option.bind_some, -Aa, -Ab, AJ, show (s0.length : Int) + 1 < 19 by omega, hix, h45', h43', hsl, show (s0.length : Int) < 1 by omega, BQ]
     exact hQ _ ⟨xE, 0, 2, rfl, by omega, fun v hv he => (hno v hv he).elim⟩
   ·rcases hsg with h45 | h43
    ·have h45' : ((x.toNat : Int) == 45) = true := beq_iff_eq.2 (by omega)
     simp (disch := first | exact xD | fail) [-Option.bind_some, -Aa, -Ab, AJ, show (s0.length : Int) + 1 < 19 by omega, hix, h45', hsl, show ¬ (s0.length : Int) < 1 by omega]
     exact hj _ _ xA xA xE
    ·have h45' : ((x.toNat : Int) == 45) = false := beq_eq_false_iff_ne.2 (by omega)
     have h43' : ((x.toNat : Int) == 43) = true := beq_iff_eq.2 (by omega)
     simp (disch := first | exact xD | fail) [-Option.bind_some, -Aa, -Ab, AJ, show (s0.length : Int) + 1 < 19 by omega, hix, h45', h43', hsl, show ¬ (s0.length : Int) < 1 by omega]
     exact hj _ _ xA xA xE
  ·have h45' : ((x.toNat : Int) == 45) = false := beq_eq_false_iff_ne.2 (by omega)
   have h43' : ((x.toNat : Int) == 43) = false := beq_eq_false_iff_ne.2 (by omega)
   simp (disch := first | exact xD | fail) [-Option.bind_some, -Aa, -Ab, AJ, show (s0.length : Int) + 1 < 19 by omega, hix, h45', h43']
   refine Ad.mono (SI (l := x :: s0) (x := x) (s0 := s0) hl xA xA) ?_
   rintro ⟨_, w2⟩ ⟨E2, m, q, rfl, h3, h4⟩
   have zE2 := E2.size
   try simp only [] at zE2
   refine hQ _ ⟨E2, m, q, rfl, by omega, fun v hv he => ?_⟩
   exact h4 v (by rw [he]; exact RM v (by omega)) (fun hx => by rw [hx] at hsg; exact hsg (Or.inl rfl))
 ·have hno : ∀ v : Nat, v ≤ 99999999 → l = Bx v → False := fun v hv he => hf (hdig v hv he)
  have hf' : ¬ (0 < l.length) ∨ (0 < l.length ∧ ¬ (l.length : Int) < 19) := by omega
  rcases hf' with h0 | ⟨h0, h19⟩
  ·simp (disch := first | exact xD | fail) [-Option.bind_some, -Aa, -Ab, AJ, h0]
   refine Ad.bind (Lv hl _) ?_
   rintro ⟨_, w1⟩ ⟨E1, m, q, rfl, h3⟩
   try dsimp only at E1 m q h3
   have zE1 := E1.size
   try simp only [qz] at zE1
   simp (disch := first | exact xD | fail) [-Option.bind_some, qs, -Aa, -Ab]
   exact hQ _ ⟨xE, m, q, rfl, h3, fun v hv he => (hno v hv he).elim⟩
  ·simp (disch := first | exact xD | fail) [-Option.bind_some, -Aa, -Ab, AJ, h0, h19]
   refine Ad.bind (Lv hl _) ?_
   rintro ⟨_, w1⟩ ⟨E1, m, q, rfl, h3⟩
   try dsimp only at E1 m q h3
   have zE1 := E1.size
   try simp only [qz] at zE1
   simp (disch := first | exact xD | fail) [-Option.bind_some, qs, -Aa, -Ab]
   exact hQ _ ⟨xE, m, q, rfl, h3, fun v hv he => (hno v hv he).elim⟩
theorem Ou {l : List UInt8} (hl : l.length ≤ 281474976710656) {w : World} (G : GlobE w) : Ad (EV P 45 #[.string (A8 l)] w) fun r => Ext w r.2 ∧ ∃ m er, r.1 = .tuple #[i64 m, er] ∧ (er = .nilIface ∨ ∃ u v, er = .iface u v) ∧ ∀ v : Nat, v ≤ 99999999 → l = Bx v → er = .nilIface ∧ m = v := by
 refine Ad.post fun Q hQ => ?_
 refine Ad.enter plain mixed (KB _ _) (by kernel_rfl) (n := 1) (by kernel_rfl) rfl ?_
 simp (disch := first | exact xD | fail) [-Option.bind_some, -Aa, -Ab]
 refine Ad.bind (TV hl _) ?_
 rintro ⟨_, w1⟩ ⟨E1, m, q, rfl, h3, h4⟩
 try dsimp only at E1 m q h3 h4
 have zE1 := E1.size
 try simp only [qz] at zE1
 by_cases hq0 : q = 0
 ·subst hq0
  simp (disch := first | exact xD | fail) [-Option.bind_some, qs, -Aa, -Ab, UB, XJ]
  exact hQ _ ⟨xE, m, _, rfl, Or.inl rfl, fun v hv he => ⟨rfl, (h4 v hv he).2⟩⟩
 ·have hne : ∀ n w, bo P .neq 43 (.tmp n) (.const .nilIface) (Ie q) .nilIface w = some (.bool true, w) := fun n w => by
   unfold Ie
   rw [if_neg hq0]
   exact WX n _ _ w
  simp (disch := first | exact xD | fail) [-Option.bind_some, qs, -Aa, -Ab, hne]
  refine Ad.bind (Rj (q := q) (by omega) hl (G.ext xE)) ?_
  rintro ⟨_, w2⟩ ⟨u, v, rfl, E2⟩
  try dsimp only at u v E2
  have zE2 := E2.size
  try simp only [qz] at zE2
  simp (disch := first | exact xD | fail) [-Option.bind_some, -Aa, -Ab]
  exact hQ _ ⟨xE, m, _, rfl, Or.inr ⟨u, v, rfl⟩, fun v hv he => absurd (h4 v hv he).1 hq0⟩
abbrev UF : Lay (List ByteArray) := AU 9 8796093021952 NC
def Vb (l : List UInt8) (t : Tag) (ok : Bool) : Prop := (ok = true → Cq t = true ∧ Eo t = l) ∧ (ok = false → t = ⟨0, 0⟩ ∧ ∀ t', Cq t' = true → Eo t' ≠ l)
theorem QC {t : Tag} {l : List UInt8} (h : Eo t = l) : Dw 46 l = some (Bx t.t.toNat, Bx t.p.toNat) := by
 rw [← h, Eo]
 exact Jx (TJ (by decide) _)
theorem Rk (l : List UInt8) : ∃ a b f, Pa 46 l = .tuple #[.string (A8 a), .string (A8 b), .bool f] ∧ a.length ≤ l.length ∧ b.length ≤ l.length ∧ ∀ t', Eo t' = l → a = Bx t'.t.toNat ∧ b = Bx t'.p.toNat := by
 unfold Pa
 cases hc : Dw 46 l with
 | none => exact ⟨l, [], false, rfl, Nat.le_refl _, Nat.zero_le _, fun t' h => by rw [QC h] at hc; cases hc⟩
 | some p =>
  have h1 := (Ha hc).1
  have hlen : l.length = p.1.length + (p.2.length + 1) := by conv => lhs; rw [h1]; simp
  refine ⟨p.1, p.2, true, rfl, by omega, by omega, fun t' h => ?_⟩
  rw [QC h] at hc
  obtain rfl := Option.some.inj hc
  exact ⟨rfl, rfl⟩
theorem MN {l : List UInt8} (hl : l.length ≤ 140737488351232) {w : World} (G : GlobE w) : Ad (EV P 46 #[.string (A8 l)] w) fun r => ∃ t ok, r.1 = .tuple #[t.v, .bool ok] ∧ Vb l t ok ∧ Ext w r.2 := by
 obtain ⟨a, b, f, hV, ha, hb, hu⟩ := Rk l
 refine Ad.post fun Q hQ => ?_
 refine Ad.enter plain mixed (Lm _ _) (by kernel_rfl) (n := 1) (by kernel_rfl) rfl ?_
 simp (disch := first | exact xD | fail) [-Option.bind_some, qs, -Aa, -Ab, CJ]
 refine Ad.bind (UJ (by omega) 46 _) ?_
 rintro ⟨_, w1⟩ ⟨rfl, E1⟩
 try dsimp only at E1
 have zE1 := E1.size
 try simp only [qz] at zE1
 rw [hV]
 simp (disch := first | exact xD | fail) [-Option.bind_some, qs, -Aa, -Ab]
 refine Ad.bind (Ou (by omega) (G.ext xE)) ?_
 rintro ⟨_, w2⟩ ⟨E2, m1, er1, rfl, he1, hv1⟩
 try dsimp only at E2 m1 er1 he1 hv1
 have zE2 := E2.size
 try simp only [qz] at zE2
 simp (disch := first | exact xD | fail) [-Option.bind_some, qs, -Aa, -Ab]
 refine Ad.bind (Ou (by omega) (G.ext xE)) ?_
 rintro ⟨_, w3⟩ ⟨E3, m2, er2, rfl, he2, hv2⟩
 try dsimp only at E3 m2 er2 he2 hv2
 have zE3 := E3.size
 try simp only [qz] at zE3
 have hno : ∀ t', Cq t' = true → Eo t' = l → er1 = .nilIface ∧ er2 = .nilIface ∧ t' = ⟨m1, m2⟩ := by
  intro t' h1 h2
  obtain ⟨h3, h4⟩ := hu t' h2
  have hr := HT h1
  have h5 := hv1 t'.t.toNat (by omega) h3
  have h6 := hv2 t'.p.toNat (by omega) h4
  refine ⟨h5.1, h6.1, ?_⟩
  have q5 : t'.t = m1 := by omega
  have q6 : t'.p = m2 := by omega
  rw [← q5, ← q6]
 have X0 : hp w3 w.heap.size = some (.cells #[i64 0, i64 0] 39 (0, 0)) := (by first | assumption | rfl | (simp (disch := first | exact xD | fail) [-Option.bind_some, qs, -Aa, -Ab, E1.Ai, E2.Ai, E3.Ai]; done))
 rcases he1 with rfl | ⟨u1, x1, rfl⟩
 ·rcases he2 with rfl | ⟨u2, x2, rfl⟩
  ·simp (disch := first | exact xD | fail) [-Option.bind_some, qs, -Aa, -Ab, qm, XJ]
   refine Ad.bind (Jf ⟨m1, m2⟩ _) ?_
   rintro ⟨_, w4⟩ ⟨rfl, E4⟩
   try dsimp only at E4
   have zE4 := E4.size
   try simp only [qz] at zE4
   cases hok : Cq ⟨m1, m2⟩
   ·simp (disch := first | exact xD | fail) [-Option.bind_some, qs, X0, E4.Ai]
    exact hQ _ ⟨⟨0, 0⟩, false, rfl, ⟨by simp, fun _ => ⟨rfl, fun t' h1 h2 => by rw [(hno t' h1 h2).2.2, hok] at h1; cases h1⟩⟩, xE⟩
   ·simp (disch := first | exact xD | fail) [-Option.bind_some, qs, -Aa, -Ab, E4.Ai]
    refine Ad.bind (Hg hok (G.g.ext xE)) ?_
    rintro ⟨_, w5⟩ ⟨rfl, E5⟩
    try dsimp only at E5
    have zE5 := E5.size
    try simp only [qz] at zE5
    by_cases hte : Eo ⟨m1, m2⟩ = l
    ·simp (disch := first | exact xD | fail) [-Option.bind_some, qs, Fp, Ay, hte, X0, E4.Ai, E5.Ai]
     exact hQ _ ⟨⟨m1, m2⟩, true, rfl, ⟨fun _ => ⟨hok, hte⟩, by simp⟩, xE⟩
    ·have hte' : (Eo ⟨m1, m2⟩ == l) = false := beq_eq_false_iff_ne.2 hte
     simp (disch := first | exact xD | fail) [-Option.bind_some, qs, Fp, Ay, hte', X0, E4.Ai, E5.Ai]
     exact hQ _ ⟨⟨0, 0⟩, false, rfl, ⟨by simp, fun _ => ⟨rfl, fun t' h1 h2 => hte (by rw [← (hno t' h1 h2).2.2]; exact h2)⟩⟩, xE⟩
  ·simp (disch := first | exact xD | fail) [-Option.bind_some, qs, XJ, WX, X0]
   exact hQ _ ⟨⟨0, 0⟩, false, rfl, ⟨by simp, fun _ => ⟨rfl, fun t' h1 h2 => by have := (hno t' h1 h2).2.1; cases this⟩⟩, xE⟩
 ·simp (disch := first | exact xD | fail) [-Option.bind_some, qs, WX, X0]
  exact hQ _ ⟨⟨0, 0⟩, false, rfl, ⟨by simp, fun _ => ⟨rfl, fun t' h1 h2 => by have := (hno t' h1 h2).1; cases this⟩⟩, xE⟩
theorem TW : Rd P 22 fun W cs ns => ∃ s, cs = [s] ∧ En W s ns := Tj Tryz.underlying22 (by kernel_rfl) (by kernel_rfl) Tryz.underlying5
abbrev SO := XM 37 5
theorem O2 {b : Nat} {p s : Value} {w : World} (h : hp w b = some (.cells #[p, s] 37 (0, 0))) (hpp : p = .pointer none ∨ p = pt b 0) :
  Ad (EV P 39 #[pt b 0] w) fun r => r.1 = .tuple #[] ∧ hp r.2 b = some (.cells #[pt b 0, s] 37 (0, 0)) ∧ Mod (fun x => x = b) w r.2 := by
 have hlt := Ao h
 have hne : ∀ w, xf P 58 #[pt b 0] w = some (pt b 0, w) := by
  intro w
  unfold xf
  rw [run_callFunc_extern (P := P) Tryz.func58 (by kernel_rfl) (by kernel_rfl) (by kernel_rfl) (e := Extern.AbiNoEscape.same) (by kernel_rfl), Lib.run_noEscape]
  rfl
 have c1 := VK (P := P) (src := 35) (dst := 89) (t := 37) (n := 2) Tryz.underlying35 Tryz.underlying89 (by kernel_rfl) (by decide) h (o := 0) (by simp)
 have c2 := Tk (P := P) (src := 89) (dst := 35) (u := 37) (n := 2) (m := 2) Tryz.underlying89 Tryz.underlying35 (by kernel_rfl) h (o := 0) rfl (by kernel_rfl)
 have hq := Qm (P := P) (t := 35) (te := 37) Tryz.underlying35
 have hn := Ql (P := P) (t := 35) (te := 37) (n := 2) Tryz.underlying35 (by kernel_rfl)
 refine Ad.post fun Q hQ => ?_
 refine Ad.enter plain mixed (EL _ _) (by kernel_rfl) (n := 1) (by kernel_rfl) rfl ?_
 rcases hpp with rfl | rfl
 ·simp (disch := first | exact xD | fail) [-Option.bind_some, qs, -Aa, -Ab, qm, h, hq, c1, hne, c2]
  exact hQ _ ⟨rfl, by simp (disch := first | exact xD | fail) [-Option.bind_some, h], xM⟩
 ·simp (disch := first | exact xD | fail) [-Option.bind_some, qs, -Aa, -Ab, h, hq, hn]
  exact hQ _ ⟨rfl, h, Mod.rfl⟩
theorem MO {B b : Nat} {l m : List UInt8} {w : World} (h : SO B w b l) (hl : l.length + m.length ≤ 140737488355328) (hB : B ≤ w.heap.size) :
  Ad (EV P 15 #[pt b 0, .string (A8 m)] w) fun r => r.1 = .tuple #[i64 m.length, .nilIface] ∧ SO B r.2 b (l ++ m) ∧ Mod (fun x => x = b ∨ B ≤ x) w r.2 := by
 obtain ⟨p, s, h1, h2, h3, h4⟩ := h
 have hlt := Ao h1
 refine Ad.post fun Q hQ => ?_
 refine Ad.enter plain mixed (Ej _ _ _) (by kernel_rfl) (n := 2) (by kernel_rfl) rfl ?_
 simp (disch := first | exact xD | fail) [-Option.bind_some, qs, -Aa, -Ab]
 refine Ad.bind (O2 h1 h2) ?_
 rintro ⟨_, w1⟩ ⟨rfl, H1, M1⟩
 have zM1 := M1.size
 try simp only [] at zM1
 try dsimp only at H1 M1
 have zM1 := M1.size
 have h3' : w1.ownsRow B 5 1 s l.length (Lib.byteCells l) := by
  refine Ke h3 fun g hg => ?_
  have hgb : g ≠ b := fun e => h4 (by rw [hg, e])
  obtain ⟨_, h3⟩ := h3
  rcases h3 with ⟨rfl, _⟩ | ⟨g', cap, cur, rfl, h5, h6, _⟩
  ·cases hg
  ·cases hg
   exact M1.Ai _ (Ao h6) hgb
 obtain ⟨v', w2, k1, k2, k3, va, vn, vc, hv'⟩ := Uo (P := P) (t := 22) (u := 9) (ty := 22) (e := 5) Tryz.underlying22 Tryz.underlying9 (by kernel_rfl) (m := m) h3' hl (by omega)
 subst hv'
 have H2 : hp w2 b = some (.cells #[pt b 0, s] 37 (0, 0)) := (k3.Ai b (by omega) h4).trans H1
 have zk3 := k3.size
 have hno : (Value.slice va vn vc).ownBlock ≠ some b := by
  intro hv
  obtain ⟨_, k2⟩ := k2
  rcases k2 with ⟨k2, _⟩ | ⟨g', cap, cur, k2, h5, h6, _⟩
  ·rw [k2] at hv; cases hv
  ·rw [k2] at hv
   have h6' : hp w2 g' = some (.cells cur 5 (0, 0)) := h6
   rw [show g' = b by simpa [Value.ownBlock] using hv, H2] at h6'
   simp at h6'
 have hsb : ∀ g, s.ownBlock = some g → B ≤ g := by
  intro g hg
  obtain ⟨_, h3⟩ := h3
  rcases h3 with ⟨rfl, _⟩ | ⟨g', cap, cur, rfl, h5, h6, _⟩
  ·cases hg
  ·cases hg; exact h5
 have M2 : Mod (fun x => x = b ∨ B ≤ x) w w2 := (M1.RB fun x _ h => .inl h).tr (k3.RB fun x _ h => .inr (hsb x h))
 have zM2 := M2.size
 try simp only [qz] at zM2
 simp (disch := first | exact xD | fail) [-Option.bind_some, -Aa, -Ab, qm, H1, k1, H2, AJ]
 refine hQ _ ⟨rfl, ⟨pt b 0, .slice va vn vc, by simp (disch := first | exact xD | fail) [-Option.bind_some, H2], .inr rfl, Ke k2 fun g hg => ?_, hno⟩, M2.AM (.inr (.inl rfl)) _⟩
 exact Ac fun e => hno (by rw [hg, e])
theorem Rl {B b : Nat} {l : List UInt8} {w : World} (h : SO B w b l) (hl : l.length ≤ 140737488355328) (hn : l = [] → hp w b = some (.cells #[.pointer none, .slice none 0 0] 37 (0, 0))) :
  Ad (EV P 19 #[pt b 0] w) fun r => r.1 = .string (A8 l) ∧ Mod (fun x => B ≤ x) w r.2 := by
 obtain ⟨p, s, h1, h2, h3, h4⟩ := h
 have hlt := Ao h1
 refine Ad.post fun Q hQ => ?_
 refine Ad.enter plain mixed (Fx _ _) (by kernel_rfl) (n := 1) (by kernel_rfl) rfl ?_
 by_cases hl0 : l = []
 ·subst hl0
  have h1 := hn rfl
  simp (disch := first | exact xD | fail) [-Option.bind_some, qs, -Aa, -Ab, h1, Tl, Uq, OK, Up]
  exact hQ _ ⟨rfl, xM⟩
 ·have hpos : 0 < l.length := List.length_pos_iff.2 hl0
  obtain ⟨k0, h3⟩ := h3
  rcases h3 with ⟨rfl, h0⟩ | ⟨g, cap, cur, rfl, h5, h6, h7, h8, h9, h10⟩
  ·omega
  ·have hg : hp w g = some (.cells cur.toList.toArray 5 (0, 0)) := by show w.heap[g]? = _; rw [h6]
   have hgb : g ≠ b := fun e => h4 (by rw [e]; rfl)
   have hu := fun (w' : World) (hw : hp w' g = hp w g) => Un (P := P) (pt' := 76) (it := 3) (ty := 9) (e := 5) Tryz.underlying76 (by kernel_rfl) (w := w') (g := g) (l := l) (cur := cur.toList) hpos (by omega) (hw.trans hg) (by rw [Nat.mul_one] at h10; exact h10)
   have hu1 := hu (dw w) (BU _ _)
   simp (disch := first | exact xD | fail) [-Option.bind_some, qs, -Aa, -Ab, h1, Tl, Um, OK, hu1]
   refine hQ _ ⟨rfl, ?_⟩
   have hM : Mod (fun x => B ≤ x) w (dw w) := Mod.dw _ _
   refine hM.tr ?_
   have hf : Ext (dw w) (dw w) := Ext.rfl
   have hfz := Lib.below_freeze (B := g) (a := dw w) (w := dw w) ⟨rfl, rfl, rfl, Nat.le_refl _, fun _ _ => rfl⟩ (p := ⟨g, 0, none⟩) (Nat.le_refl _) l.length
   refine ⟨hfz.os, hfz.tape, hfz.output, ?_, ?_⟩
   ·exact hfz.size
   ·intro x hx hnx
    exact hfz.block x (by omega)
theorem TX (l : List UInt8) (c : UInt8) (w : World) : Ad (EV P 78 #[.string (A8 l), .string (A8 [c])] w) fun r => r = (i64 (l.count c), w) := by
 have hx : ∀ w, xf P 102 #[.string (A8 l), .int .u8 c.toNat] w = some (i64 (l.count c), w) := by
  intro w
  unfold xf
  rw [run_callFunc_extern (P := P) Tryz.func102 (by kernel_rfl) (by kernel_rfl) (by kernel_rfl) (e := Extern.BytealgCount.count) (by kernel_rfl), Lib.run_countString]
  rw [show (c.toNat : Int).toNat.toUInt8 = c by simp]
  rfl
 have hix := fun w => Mu (P := P) (t := 9) (by kernel_rfl) [c] (k := .i64) (i := 0) (by decide) (b := c) rfl w
 refine Ad.post fun Q hQ => ?_
 refine Ad.enter plain mixed (JQ _ _ _) (by kernel_rfl) (n := 2) (by kernel_rfl) rfl ?_
 simp (disch := first | exact xD | fail) [-Option.bind_some, -Aa, -Ab, AJ, hix, hx]
 exact hQ _ rfl
theorem SP (l : List UInt8) (c : UInt8) (w : World) : Ad (EV P 79 #[.string (A8 l), .string (A8 [c])] w) fun r => r = (i64 (Lib.indexByte l c), w) := by
 refine Ad.post fun Q hQ => ?_
 refine Ad.enter plain mixed (JR _ _ _) (by kernel_rfl) (n := 2) (by kernel_rfl) rfl ?_
 simp (disch := first | exact xD | fail) [-Option.bind_some, -Aa, -Ab]
 refine Ad.bind (O9 l c _) ?_
 rintro ⟨_, w1⟩ h
 simp only [Prod.mk.injEq] at h
 obtain ⟨rfl, rfl⟩ := h
 simp (disch := first | exact xD | fail) [-Option.bind_some, -Aa, -Ab]
 exact hQ _ rfl
theorem PX {l : List UInt8} {c : UInt8} {g n : Nat} {xs : List (List UInt8)} {w0 : World} (hl : l.length ≤ 100000000) (hxs : xs = A0 c l) (hn : xs.length = n) (hg : w0.heap.size ≤ g) :
  ∀ (d i : Nat) (e : Env) (w : World) (s : List UInt8), i + d + 1 = n → s.length ≤ l.length → A0 c s = xs.drop i → e 0 = .string (A8 s) → e 1 = .string (A8 [c]) → e 2 = i64 0 → e 3 = i64 ((n - 1 : Nat) : Int) → e 9 = .slice (some ⟨g, 0, none⟩) n n → e 10 = i64 i →
   Ext w0 w → O UF (fun b => b = g) w [.slice (some ⟨g, 0, none⟩) n n] (Hk (xs.map A8) (A8 []) i) →
   Ad (B7 e w) fun r => ∃ q, r.1 = .slice (some ⟨g, 0, none⟩) n q ∧ n ≤ q ∧ Ju r.2 g 0 xs ∧ Ext w0 r.2 := by
 have hnl : n ≤ 100000001 := by
  have h1 := Ey c l
  have h2 := List.count_le_length (a := c) (l := l)
  rw [hxs] at hn
  omega
 have fin : ∀ (i : Nat) (e : Env) (w : World) (s : List UInt8), i + 1 = n → xs[i]? = some s → s.length ≤ l.length → e 0 = .string (A8 s) → e 9 = .slice (some ⟨g, 0, none⟩) n n → e 10 = i64 i → Ext w0 w → O UF (fun b => b = g) w [.slice (some ⟨g, 0, none⟩) n n] (Hk (xs.map A8) (A8 []) i) →
   Ad (B8 e w) fun r => ∃ q, r.1 = .slice (some ⟨g, 0, none⟩) n q ∧ n ≤ q ∧ Ju r.2 g 0 xs ∧ Ext w0 r.2 := by
  intro i e w s hi hs hsl e0 e9 e10 E0 ho
  have zE0 := E0.size
  try simp only [qz] at zE0
  rw [GW]
  have hz := E0.size
  have hw1 : IntKind.i64.wrap ((i : Int) + 1) = (n : Int) := by rw [HH (by omega) (by omega)]; omega
  have hsl' := Tb (P := P) (t := 47) So (a := some ⟨g, 0, none⟩) (len := n) (cap := n) (n := (n : Int)) (by omega) (by omega)
  rw [Int.toNat_natCast] at hsl'
  obtain ⟨g', cur, ds, S2, hgg, hSg, hgl, hgc, hle, hx1, hS2, put⟩ := ho.row (i := i) (x := A8 []) (by decide) (NV (by rw [List.length_map]; omega))
  simp only [Option.some.injEq, Addr.mk.injEq, and_true] at hgg
  subst hgg
  obtain ⟨rfl, _⟩ := O.str.1 hx1
  simp only [show NC.n = 1 from rfl, Nat.mul_one] at hgc hle put
  refine Ad.post fun Q hQ => ?_
  simp (disch := first | exact xD | fail) [-Option.bind_some, -Aa, -Ab, qm, e0, e9, e10, Km, hgc, hw1, hsl']
  refine hQ _ ⟨n, rfl, Nat.le_refl _, ?_, xE⟩
  have hO := put (w.setRow g (Bo cur i [.string (A8 s)]).toArray) [.string (A8 s)] (A8 s) (fun _ => False) (O.str.2 ⟨rfl, by rw [AJ]; omega⟩) (by first | assumption | rfl | (simp (disch := first | exact xD | fail) [-Option.bind_some, -Aa, -Ab, hgc]; done)) (by intro b _ _ _ _; first | rfl | (simp (disch := first | exact xF | fail) only [E0.Ai, qk]; done)) (fun _ _ h => h.elim)
  rw [NW (by rw [List.getElem?_map, hs]; rfl)] at hO
  have hfe : Hk (xs.map A8) (A8 []) (i + 1) = xs.map A8 := by rw [show i + 1 = (xs.map A8).length by rw [List.length_map]; omega, RD]
  rw [hfe] at hO
  intro j y hy
  have hyj := hO.d.at (i := j) (x := A8 y) (by decide) (by rw [List.getElem?_map, hy]; rfl)
  obtain ⟨b1, o1, cs1, he, A1, D1, _, _⟩ := hyj
  cases he
  obtain ⟨rfl, _⟩ := D.str.1 D1
  have := A1 0 _ rfl
  simpa only [show NC.n = 1 from rfl, Nat.mul_one, Nat.add_zero] using this
 intro d
 induction d with
 | zero =>
  intro i e w s hd hsl hss e0 e1 e2 e3 e9 e10 E0 ho
  have zE0 := E0.size
  try simp only [qz] at zE0
  rw [DF]
  have hlast : xs[i]? = some s := by
   have h1 : (xs.drop i).length = 1 := by rw [List.length_drop]; omega
   rw [← hss, Ey] at h1
   have h2 := Qn (List.count_eq_zero.1 (show s.count c = 0 by omega))
   rw [h2] at hss
   have := congrArg (fun l => l[0]?) hss
   simpa using this.symm
  simp (disch := first | exact xD | fail) [-Option.bind_some, -Aa, -Ab, e3, e10, show ¬ (i : Int) < ((n - 1 : Nat) : Int) by omega]
  exact fin i _ w s (by omega) hlast hsl xA xA xA E0 ho
 | succ d ih =>
  intro i e w s hd hsl hss e0 e1 e2 e3 e9 e10 E0 ho
  have zE0 := E0.size
  try simp only [qz] at zE0
  rw [DF]
  have hz := E0.size
  have hcount : s.count c = d + 1 := by
   have h1 : (xs.drop i).length = d + 2 := by rw [List.length_drop]; omega
   rw [← hss, Ey] at h1
   omega
  cases hc : Dw c s with
  | none => have := List.count_eq_zero_of_not_mem (Ki hc); omega
  | some p =>
   have hcs := Py hc
   obtain ⟨hq1, hq2⟩ := Ha hc
   have hsz : s.length = p.1.length + (p.2.length + 1) := by conv => lhs; rw [hq1]; simp
   have hpi : xs[i]? = some p.1 := by
    rw [hss] at hcs
    have := congrArg (fun l => l[0]?) hcs
    simpa using this
   have hpd : A0 c p.2 = xs.drop (i + 1) := by
    rw [hss] at hcs
    have := congrArg List.tail hcs
    rw [List.tail_drop] at this
    exact this.symm
   have hix := Mv c s
   rw [hc] at hix
   have hix : Lib.indexByte s c = (p.1.length : Int) := hix
   have hw0 : IntKind.i64.wrap ((p.1.length : Int) + 0) = (p.1.length : Int) := by rw [Int.add_zero]; exact HH (by omega) (by omega)
   have hw1 : IntKind.i64.wrap ((p.1.length : Int) + 1) = (p.1.length : Int) + 1 := HH (by omega) (by omega)
   have hs1 := fun w => NY (P := P) (t := 9) (by kernel_rfl) s (j := (p.1.length : Int)) (by omega) (by omega) w
   have ht1 : s.take p.1.length = p.1 := by conv => lhs; rw [hq1]; simp
   rw [Int.toNat_natCast, ht1] at hs1
   have hs2 := fun w => F8 (P := P) (t := 9) (by kernel_rfl) s (i := (p.1.length : Int) + 1) (by omega) (by omega) w
   have ht2 : s.drop (p.1.length + 1) = p.2 := by conv => lhs; rw [hq1, show p.1.length + 1 = (p.1 ++ [c]).length by simp, show p.1 ++ c :: p.2 = (p.1 ++ [c]) ++ p.2 by simp, List.drop_left]
   rw [show ((p.1.length : Int) + 1).toNat = p.1.length + 1 by omega, ht2] at hs2
   obtain ⟨g', cur, ds, S2, hgg, hSg, hgl, hgc, hle, hx1, hS2, put⟩ := ho.row (i := i) (x := A8 []) (by decide) (NV (by rw [List.length_map]; omega))
   simp only [Option.some.injEq, Addr.mk.injEq, and_true] at hgg
   subst hgg
   obtain ⟨rfl, _⟩ := O.str.1 hx1
   simp only [show NC.n = 1 from rfl, Nat.mul_one] at hgc hle put
   refine Ad.post fun Q hQ => ?_
   simp (disch := first | exact xD | fail) [-Option.bind_some, qs, -Aa, -Ab, e0, e1, e2, e3, e9, e10, show (i : Int) < ((n - 1 : Nat) : Int) by omega]
   refine Ad.bind (SP s c _) ?_
   rintro ⟨_, w1⟩ h
   simp only [Prod.mk.injEq] at h
   obtain ⟨rfl, rfl⟩ := h
   rw [hix]
   simp (disch := first | exact xD | fail) [-Option.bind_some, qs, -Aa, -Ab, qm, show ¬ (p.1.length : Int) < 0 by omega, hs1, Km, hgc, AJ, hw1, hs2]
   refine Ad.mono (ih (i + 1) _ _ p.2 (by omega) (by omega) hpd xA xA xA xA xA xA xE ?_) hQ
   rw [← NW (x := A8 p.1) (by rw [List.getElem?_map, hpi]; rfl)]
   exact (put _ _ (A8 p.1) (fun _ => False) (O.str.2 ⟨rfl, by rw [AJ]; omega⟩) (by first | assumption | rfl | (simp (disch := first | exact xD | fail) [-Option.bind_some, -Aa, -Ab, hgc]; done)) (by intro b _ _ _ _; first | rfl | (simp (disch := first | exact xF | fail) only [E0.Ai, qk]; done)) (fun _ _ h => h.elim)).wide fun b h _ => h.elim id fun h => h.elim
theorem TY {l : List UInt8} {c : UInt8} (hl : l.length ≤ 100000000) (w : World) : Ad (EV P 44 #[.string (A8 l), .string (A8 [c])] w) fun r => ∃ q, r.1 = .slice (some ⟨w.heap.size, 0, none⟩) (A0 c l).length q ∧ (A0 c l).length ≤ q ∧ Ju r.2 w.heap.size 0 (A0 c l) ∧ Ext w r.2 := by
 have hlen := Ey c l
 have hcl := List.count_le_length (a := c) (l := l)
 have hneg : (([c] : List UInt8) == []) = false := rfl
 have hw1 : IntKind.i64.wrap ((l.count c : Int) + 1) = ((A0 c l).length : Int) := by rw [HH (by omega) (by omega)]; omega
 have hw2 : IntKind.i64.wrap ((l.length : Int) + 1) = (l.length : Int) + 1 := HH (by omega) (by omega)
 have hw3 : IntKind.i64.wrap (((A0 c l).length : Int) - 1) = (((A0 c l).length - 1 : Nat) : Int) := by rw [HH (by omega) (by omega)]; omega
 have hmin : ∀ (ts : Array TypeId) (t : TypeId) (w : World), QF P ts t #[i64 ((A0 c l).length : Int), i64 ((l.length : Int) + 1)] w = some (i64 ((A0 c l).length : Int), w) := by
  intro ts t w
  rw [Rq, if_neg (by omega)]
 refine Ad.post fun Q hQ => ?_
 refine Ad.enter plain mixed (JN _ _ _) (by kernel_rfl) (n := 2) (by kernel_rfl) rfl ?_
 simp (disch := first | exact xD | fail) [-Option.bind_some, -Aa, -Ab]
 refine Ad.bind (Q := fun r => ∃ q, r.1 = .slice (some ⟨w.heap.size, 0, none⟩) (A0 c l).length q ∧ (A0 c l).length ≤ q ∧ Ju r.2 w.heap.size 0 (A0 c l) ∧ Ext w r.2) ?_ ?_
 ·refine Ad.post fun Q hQ => ?_
  refine Ad.enter plain mixed (HZ _ _ _ _ _) (by kernel_rfl) (n := 4) (by kernel_rfl) rfl ?_
  simp (disch := first | exact xD | fail) [-Option.bind_some, -Aa, -Ab, Ay]
  refine Ad.bind (TX l c _) ?_
  rintro ⟨_, w1⟩ h
  simp only [Prod.mk.injEq] at h
  obtain ⟨rfl, hw'⟩ := h
  obtain rfl := hw'.symm
  simp (disch := first | exact xD | fail) [-Option.bind_some, -Aa, -Ab, hw1]
  rw [GV]
  simp (disch := first | exact xD | fail) [-Option.bind_some, qs, -Aa, -Ab, AJ, hw2, hmin]
  refine Ad.bind (O.make (L := NC) (mx := 8796093021952) (x0 := (⟨#[]⟩ : ByteArray)) So YE rfl (by decide) (fun w => O.str.2 ⟨rfl, by decide⟩) (n := (A0 c l).length) (by omega) (by decide) (by decide)) ?_
  rintro ⟨_, w1⟩ ⟨rfl, o1, z1, E1⟩
  have zE1 := E1.size
  try simp only [] at zE1
  try dsimp only at o1 z1 E1
  simp (disch := first | exact xD | fail) [-Option.bind_some, -Aa, -Ab]
  refine Ad.mono (PX (l := l) (c := c) (g := w.heap.size) (n := (A0 c l).length) (xs := A0 c l) (w0 := w) hl rfl rfl (Nat.le_refl _) ((A0 c l).length - 1) 0 _ w1 l (by omega) (Nat.le_refl _) (by rw [List.drop_zero]) xA xA xA xA xA xA E1 ?_) hQ
  rw [Qh, List.length_map]
  exact o1
 ·rintro ⟨_, w1⟩ ⟨q, rfl, h1, h2, h3⟩
  simp (disch := first | exact xD | fail) [-Option.bind_some, -Aa, -Ab]
  exact hQ _ ⟨q, rfl, h1, h2, h3⟩
theorem JU {d : Done} (h : FA d = true) : (Da d).length ≤ 2020 := by
 obtain ⟨a1, a2, a3, a4, _⟩ := GO.1 h
 have h1 := BL d.Av.toNat
 have h2 := BL d.key.toNat
 have h3 := LS a4
 have h4 : (C7 d.kind).length ≤ 5 := by unfold C7; split; decide; split <;> decide
 simp only [Da, List.length_append, List.length_cons]
 omega
theorem Gz : ∀ {l : List Done}, (∀ d ∈ l, FA d = true) → (AV l).length ≤ 2021 * l.length
 | [], _ => by simp [AV]
 | d :: l, h => by
  have h1 := JU (h d List.mem_cons_self)
  have h2 := Gz (l := l) fun x hx => h x (List.mem_cons_of_mem _ hx)
  simp only [AV, List.length_append, List.length_cons]
  omega
theorem Kn (w : World) : Ad (EV P 17 #[] w) fun r => ∃ g, r.1 = .slice (some ⟨g, 0, none⟩) 4 4 ∧ Ju r.2 g 0 IM ∧ Ext w r.2 := by
 refine Ad.post fun Q hQ => ?_
 refine Ad.enter plain mixed (IW _) (by kernel_rfl) (n := 0) (by kernel_rfl) rfl ?_
 simp (disch := first | exact xD | fail) [-Option.bind_some, -Aa, -Ab]
 refine hQ _ ⟨_, rfl, fun i x hx => ?_, xE⟩
 exact At.new (w := w) (cs := IM.map fun x => Value.string (A8 x)) (E := 9) i _ (by rw [List.getElem?_map, hx]; rfl)
theorem Rm (w : World) : Ad (EV P 30 #[] w) fun r => ∃ g, r.1 = .slice (some ⟨g, 0, none⟩) 4 4 ∧ Ju r.2 g 0 IM ∧ Ext w r.2 := by
 refine Ad.post fun Q hQ => ?_
 refine Ad.enter plain mixed (KA _) (by kernel_rfl) (n := 0) (by kernel_rfl) rfl ?_
 simp (disch := first | exact xD | fail) [-Option.bind_some, -Aa, -Ab]
 refine hQ _ ⟨_, rfl, fun i x hx => ?_, xE⟩
 exact At.new (w := w) (cs := IM.map fun x => Value.string (A8 x)) (E := 9) i _ (by rw [List.getElem?_map, hx]; rfl)
theorem Rn {a : Option Addr} {c b B : Nat} {S : Nat → Prop} {xs : List Done} {w0 : World} (G : Glob w0) (hok : ∀ d ∈ xs, FA d = true) (hl : xs.length ≤ 80) (hb : w0.heap.size ≤ b) (hBB : b < B) (ha : D BG S w0 [.slice a xs.length c] xs) :
  ∀ (d k : Nat) (e : Env) (w : World), k + d = xs.length → e 3 = pt b 0 → e 9 = .slice a xs.length c → e 10 = i64 xs.length → e 11 = i64 k → Ext w0 w → B ≤ w.heap.size → SO B w b (AV (xs.take k)) → (k = 0 → hp w b = some (.cells #[.pointer none, .slice none 0 0] 37 (0, 0))) →
   Ad (Db e w) fun r => r.1 = .string (A8 (AV xs)) ∧ Ext w0 r.2 := by
 have hn := ha.n
 intro d
 induction d with
 | zero =>
  intro k e w hd e3 e9 e10 e11 E0 hB hbl hnil
  have zE0 := E0.size
  try simp only [qz] at zE0
  rw [Fh]
  obtain rfl : k = xs.length := by omega
  rw [List.take_of_length_le (Nat.le_refl _)] at hbl
  have hlen := Gz hok
  refine Ad.post fun Q hQ => ?_
  simp (disch := first | exact xD | fail) [-Option.bind_some, -Aa, -Ab, e3, e10, e11]
  refine Ad.bind (Rl hbl (by omega) (fun h => hnil ?_)) ?_
  ·cases xs with
   | nil => rfl
   | cons x r => have := congrArg List.length h; simp [AV] at this
  rintro ⟨_, w1⟩ ⟨rfl, M1⟩
  have zM1 := M1.size
  try simp only [] at zM1
  try dsimp only at M1
  simp (disch := first | exact xD | fail) [-Option.bind_some, -Aa, -Ab]
  exact hQ _ ⟨rfl, Mod.after (a := w0) E0 M1 (by intro x hx h; omega)⟩
 | succ d ih =>
  intro k e w hd e3 e9 e10 e11 E0 hB hbl hnil
  have zE0 := E0.size
  try simp only [qz] at zE0
  rw [Fh]
  have hlt : k < xs.length := by omega
  obtain ⟨x, hx, hdx⟩ := Al hlt
  have hox := hok x (List.mem_of_getElem? hx)
  have hzE := E0.size
  obtain ⟨q1, q2, q3, q4, _⟩ := GO.1 hox
  obtain ⟨s, hs⟩ : ∃ s : Nat, x.Av = s := ⟨x.Av.toNat, by omega⟩
  obtain ⟨kd, hkd⟩ : ∃ s : Nat, x.kind = s := ⟨x.kind.toNat, by omega⟩
  obtain ⟨ky, hky⟩ : ∃ s : Nat, x.key = s := ⟨x.key.toNat, by omega⟩
  have hkw := Mp q2.1 q2.2
  rw [show x.kind.toNat = kd by omega] at hkw
  have hll := JU hox
  have e1 : Da x = Bx s ++ [32] ++ C7 x.kind ++ [32] ++ Bx ky ++ [32] ++ Eo x.tag := by
   rw [Da, show x.Av.toNat = s by omega, show x.key.toNat = ky by omega]; simp
  have hal : (AV (xs.take k)).length ≤ 2021 * 80 := by
   have h1 := Gz (l := xs.take k) fun d hd => hok d (List.mem_of_mem_take hd)
   have h2 : (xs.take k).length ≤ 80 := by rw [List.length_take]; omega
   omega
  have d1 := BL s
  have d2 := BL ky
  have d3 := LS q4
  have d4 : (C7 x.kind).length ≤ 5 := by unfold C7; split; decide; split <;> decide
  obtain ⟨b1, o1, cs1, rfl, A1, D1, _, l1⟩ := (ha.ext E0).at (by decide) hx
  obtain rfl := D.done.1 D1
  have p0 := A1 0 _ rfl
  have p1 := A1 1 _ rfl
  have p2 := A1 2 _ rfl
  have p3 := A1 3 _ rfl
  have p4 := A1 4 _ rfl
  simp only [Nat.add_zero] at p0 p1 p2 p3 p4
  simp only [Jz] at p0 p1 p2 p3 p4
  rw [hs] at p0
  rw [hkd] at p1
  rw [hky] at p2
  refine Ad.post fun Q hQ => ?_
  simp (disch := first | exact xD | fail) [-Option.bind_some, qs, -Aa, -Ab, qm, e3, e9, e10, e11, hlt, I4, p0, p1, p2, p3, p4]
  refine Ad.bind (OB (n := s) (by omega) (G.ext xE)) ?_
  rintro ⟨_, w1⟩ ⟨rfl, E1⟩
  try dsimp only at E1
  have zE1 := E1.size
  try simp only [qz] at zE1
  have X1 : hp w1 w.heap.size = some (.cells #[i64 s, i64 kd, i64 ky, i64 x.tag.t, i64 x.tag.p] 41 (0, 0)) := (by first | assumption | rfl | (simp (disch := first | exact xD | fail) [-Option.bind_some, qs, -Aa, -Ab, E1.Ai]; done))
  simp (disch := first | exact xD | fail) [-Option.bind_some, -Aa, -Ab, X1, CJ, Bp, Ay]
  refine Ad.bind (Kn _) ?_
  rintro ⟨_, w2⟩ ⟨g, rfl, A2, E2⟩
  have zE2 := E2.size
  try simp only [] at zE2
  try dsimp only at A2 E2
  have zE2 := E2.size
  have c2 := A2 _ _ hkw
  rw [Nat.zero_add] at c2
  have X2 := (E2.Ai (Ao X1)).trans X1
  simp (disch := first | exact xD | fail) [-Option.bind_some, -Aa, -Ab, X2, Bp, Ay, Km, c2]
  refine Ad.bind (OB (n := ky) (by omega) (G.ext xE)) ?_
  rintro ⟨_, w3⟩ ⟨rfl, E3⟩
  try dsimp only at E3
  have zE3 := E3.size
  try simp only [qz] at zE3
  have X3 := (E3.Ai (Ao X2)).trans X2
  have c3 := Bz E3 c2
  simp (disch := first | exact xD | fail) [-Option.bind_some, -Aa, -Ab, X3, Bp, Ay, c3]
  refine Ad.bind (Hg q4 (G.ext xE)) ?_
  rintro ⟨_, w4⟩ ⟨rfl, E4⟩
  try dsimp only at E4
  have zE4 := E4.size
  try simp only [qz] at zE4
  have X4 := (E4.Ai (Ao X3)).trans X3
  have c4 := Bz E4 c3
  simp (disch := first | exact xD | fail) [-Option.bind_some, -Aa, -Ab, X4, Bp, Ay, c4]
  have F4 : Ext w w4 := xE
  have zF4 := F4.size
  have hb4 : SO B w4 b (AV (xs.take k)) := by
   obtain ⟨p, sl, k1, k2, k3, k4⟩ := hbl
   refine ⟨p, sl, (F4.Ai (Ao k1)).trans k1, k2, Ke k3 fun g hg => ?_, k4⟩
   obtain ⟨_, k3⟩ := k3
   rcases k3 with ⟨rfl, _⟩ | ⟨g', cap, cur, rfl, h5, h6, _⟩
   ·cases hg
   ·cases hg; exact F4.Ai (Ao h6)
  refine Ad.bind (MO (m := Bx s ++ 32 :: (C7 x.kind ++ 32 :: (Bx ky ++ 32 :: (Eo x.tag ++ [10])))) hb4 (by simp only [List.length_append, List.length_cons, List.length_nil]; omega) (by omega)) ?_
  rintro ⟨_, w5⟩ ⟨rfl, hb5, M5⟩
  have zM5 := M5.size
  try simp only [] at zM5
  try dsimp only at hb5 M5
  have zM5 := M5.size
  simp (disch := first | exact xD | fail) [-Option.bind_some, -Aa, -Ab]
  refine Ad.mono (ih (k + 1) _ _ (by omega) xA xA xA xA (Mod.after (a := w0) (E0.tr F4) M5 (by intro x hx h; omega)) (by omega) ?_ (by omega)) hQ
  have : AV (xs.take (k + 1)) = AV (xs.take k) ++ (Bx s ++ 32 :: (C7 x.kind ++ 32 :: (Bx ky ++ 32 :: (Eo x.tag ++ [10])))) := by
   rw [List.take_add_one, hx]
   simp [Kf, AV, e1]
  rw [this]
  exact hb5
theorem Hy {a : Option Addr} {n c : Nat} {S : Nat → Prop} {xs : List Done} {w : World} (G : Glob w) (ha : D BG S w [.slice a n c] xs) :
  Ad (EV P 6 #[.slice a n c] w) fun r => r.1 = .string (A8 (Bw xs)) ∧ Ext w r.2 := by
 obtain ⟨rfl, _⟩ := ha.n
 refine Ad.post fun Q hQ => ?_
 refine Ad.enter plain mixed (Ku _ _) (by kernel_rfl) (n := 1) (by kernel_rfl) rfl ?_
 simp (disch := first | exact xD | fail) [-Option.bind_some, -Aa, -Ab]
 refine Ad.bind (Gm ha) ?_
 rintro ⟨_, w1⟩ ⟨rfl, E1⟩
 try dsimp only at E1
 have zE1 := E1.size
 try simp only [qz] at zE1
 cases hf : CC xs
 ·simp (disch := first | exact xD | fail) [-Option.bind_some, -Aa, -Ab]
  exact hQ _ ⟨by rw [Bw, hf]; rfl, xE⟩
 ·have hpu : Bw xs = AV xs := by rw [Bw, hf]; rfl
  rw [hpu] at hQ
  simp (disch := first | exact xD | fail) [-Option.bind_some, -Aa, -Ab]
  refine Ad.mono (Rn (w0 := w) (b := w1.heap.size) (B := w1.heap.size + 1) G (Ff hf) (GL hf) (by omega) (by omega) ha xs.length 0 _ _ (by omega) xA xA xA xA xE (by simp) (XM.nil (by first | assumption | rfl | (simp (disch := first | exact xD | fail) [-Option.bind_some, qs, -Aa, -Ab]; done))) (fun _ => (by first | assumption | rfl | (simp (disch := first | exact xD | fail) [-Option.bind_some, qs, -Aa, -Ab]; done)))) hQ
theorem MP {d : Done} (h : FA d = true) (w : World) : Ad (EV P 21 #[.agg (B6 d).toArray] w) fun r => r.1 = .string (A8 (Da d ++ [10])) ∧ Ext w r.2 := by
 obtain ⟨q1, q2, q3, q4, _⟩ := GO.1 h
 obtain ⟨s, hs⟩ : ∃ s : Nat, d.Av = s := ⟨d.Av.toNat, by omega⟩
 obtain ⟨kd, hkd⟩ : ∃ s : Nat, d.kind = s := ⟨d.kind.toNat, by omega⟩
 obtain ⟨ky, hky⟩ : ∃ s : Nat, d.key = s := ⟨d.key.toNat, by omega⟩
 have hkw := Mp q2.1 q2.2
 rw [show d.kind.toNat = kd by omega] at hkw
 have e1 : Da d ++ [10] = Bx s ++ [32] ++ C7 d.kind ++ [32] ++ Bx ky ++ [32] ++ Eo d.tag ++ [10] := by
  rw [Da, show d.Av.toNat = s by omega, show d.key.toNat = ky by omega]; simp
 have d1 := BL s
 have d2 := BL ky
 have d3 := LS q4
 have d4 : (C7 d.kind).length ≤ 5 := by unfold C7; split; decide; split <;> decide
 rw [e1]
 generalize hkl : C7 d.kind = kl at *
 simp only [B6]
 rw [hs, hkd, hky]
 refine Ad.post fun Q hQ => ?_
 refine Ad.enter plain mixed (Li _ _) (by kernel_rfl) (n := 1) (by kernel_rfl) rfl ?_
 simp (disch := first | exact xD | fail) [-Option.bind_some, qs, -Aa, -Ab]
 refine Ad.bind (E8 s (by omega) _) ?_
 rintro ⟨_, w1⟩ ⟨rfl, E1⟩
 try dsimp only at E1
 have zE1 := E1.size
 try simp only [qz] at zE1
 have X1 : hp w1 w.heap.size = some (.cells #[i64 s, i64 kd, i64 ky, i64 d.tag.t, i64 d.tag.p] 41 (0, 0)) := (by first | assumption | rfl | (simp (disch := first | exact xD | fail) [-Option.bind_some, qs, -Aa, -Ab, E1.Ai]; done))
 simp (disch := first | exact xD | fail) [-Option.bind_some, -Aa, -Ab, X1, CJ, Bp, Ay]
 refine Ad.bind (Rm _) ?_
 rintro ⟨_, w2⟩ ⟨g, rfl, A2, E2⟩
 have zE2 := E2.size
 try simp only [] at zE2
 try dsimp only at A2 E2
 have zE2 := E2.size
 have c2 := A2 _ _ hkw
 rw [Nat.zero_add] at c2
 have X2 := (E2.Ai (Ao X1)).trans X1
 simp (disch := first | exact xD | fail) [-Option.bind_some, -Aa, -Ab, X2, Bp, Ay, Km, c2]
 refine Ad.bind (E8 ky (by omega) _) ?_
 rintro ⟨_, w3⟩ ⟨rfl, E3⟩
 try dsimp only at E3
 have zE3 := E3.size
 try simp only [qz] at zE3
 have X3 := (E3.Ai (Ao X2)).trans X2
 have c3 := Bz E3 c2
 simp (disch := first | exact xD | fail) [-Option.bind_some, -Aa, -Ab, X3, Bp, Ay, c3]
 refine Ad.bind (Oy q4 _) ?_
 rintro ⟨_, w4⟩ ⟨rfl, E4⟩
 try dsimp only at E4
 have zE4 := E4.size
 try simp only [qz] at zE4
 have X4 := (E4.Ai (Ao X3)).trans X3
 have c4 := Bz E4 c3
 simp (disch := first | exact xD | fail) [-Option.bind_some, -Aa, -Ab, X4, Bp, Ay, c4]
 exact hQ _ ⟨by simp, xE⟩
theorem Lw {a : Option Addr} {c : Nat} {S : Nat → Prop} {xs : List Done} {w0 : World} (ha : D BG S w0 [.slice a xs.length c] xs) :
  ∀ (d k : Nat) (e : Env) (w : World), k + d = xs.length → e 0 = .slice a xs.length c → e 3 = .string (A8 (AV (xs.take k))) → e 4 = i64 k → CC xs = true → Ext w0 w →
   Ad (Dc e w) fun r => r.1 = .string (A8 (AV xs)) ∧ Ext w0 r.2 := by
 have hn := ha.n
 intro d
 induction d with
 | zero =>
  intro k e w hd e0 e3 e4 hf E0
  have zE0 := E0.size
  try simp only [qz] at zE0
  rw [Di]
  obtain rfl : k = xs.length := by omega
  rw [List.take_of_length_le (Nat.le_refl _)] at e3
  refine Ad.post fun Q hQ => ?_
  simp (disch := first | exact xD | fail) [-Option.bind_some, -Aa, -Ab, e0, e3, e4]
  exact hQ _ ⟨rfl, E0⟩
 | succ d ih =>
  intro k e w hd e0 e3 e4 hf E0
  have zE0 := E0.size
  try simp only [qz] at zE0
  rw [Di]
  have hok := Ff hf
  have hl := GL hf
  have hlt : k < xs.length := by omega
  obtain ⟨x, hx, hdx⟩ := Al hlt
  have hox := hok x (List.mem_of_getElem? hx)
  have hll := JU hox
  have hal : (AV (xs.take k)).length ≤ 2021 * 80 := by
   have h1 := Gz (l := xs.take k) fun d hd => hok d (List.mem_of_mem_take hd)
   have h2 : (xs.take k).length ≤ 80 := by rw [List.length_take]; omega
   omega
  refine Ad.post fun Q hQ => ?_
  simp (disch := first | exact xD | fail) [-Option.bind_some, qs, -Aa, -Ab, e0, e3, e4, hlt]
  refine Ad.bind (Ip (ha.ext xE)) ?_
  rintro ⟨_, w1⟩ ⟨rfl, E1⟩
  try dsimp only at E1
  have zE1 := E1.size
  try simp only [qz] at zE1
  obtain ⟨b1, o1, cs1, rfl, A1, D1, _, l1⟩ := (ha.ext (E0.tr E1)).at (by decide) hx
  obtain rfl := D.done.1 D1
  have p0 := A1 0 _ rfl
  have p1 := A1 1 _ rfl
  have p2 := A1 2 _ rfl
  have p3 := A1 3 _ rfl
  have p4 := A1 4 _ rfl
  simp only [Nat.add_zero] at p0 p1 p2 p3 p4
  simp only [Jz] at p0 p1 p2 p3 p4
  simp (disch := first | exact xD | fail) [-Option.bind_some, -Aa, -Ab, hf, I4, p0, p1, p2, p3, p4]
  refine Ad.bind (MP hox _) ?_
  rintro ⟨_, w2⟩ ⟨rfl, E2⟩
  try dsimp only at E2
  have zE2 := E2.size
  try simp only [qz] at zE2
  simp (disch := first | exact xD | fail) [-Option.bind_some, -Aa, -Ab, Bp, Ay]
  refine Ad.mono (ih (k + 1) _ _ (by omega) xA ?_ xA hf xE) hQ
  have : AV (xs.take (k + 1)) = AV (xs.take k) ++ (Da x ++ [10]) := by
   rw [List.take_add_one, hx]
   simp [Kf, AV]
  rw [this]
  rfl
theorem Hz {a : Option Addr} {n c : Nat} {S : Nat → Prop} {xs : List Done} {w : World} (ha : D BG S w [.slice a n c] xs) :
  Ad (EV P 7 #[.slice a n c] w) fun r => r.1 = .string (A8 (Bw xs)) ∧ Ext w r.2 := by
 obtain ⟨rfl, _⟩ := ha.n
 refine Ad.post fun Q hQ => ?_
 refine Ad.enter plain mixed (Kv _ _) (by kernel_rfl) (n := 1) (by kernel_rfl) rfl ?_
 cases hf : CC xs
 ·have hpu : Bw xs = [] := by rw [Bw, hf]; rfl
  rw [hpu] at hQ
  simp (disch := first | exact xD | fail) [-Option.bind_some, -Aa, -Ab]
  rw [Di]
  by_cases h0 : 0 < xs.length
  ·simp (disch := first | exact xD | fail) [-Option.bind_some, qs, -Aa, -Ab, h0]
   refine Ad.bind (Ip ha) ?_
   rintro ⟨_, w1⟩ ⟨rfl, E1⟩
   try dsimp only at E1
   have zE1 := E1.size
   try simp only [qz] at zE1
   simp (disch := first | exact xD | fail) [-Option.bind_some, -Aa, -Ab, hf]
   exact hQ _ ⟨rfl, xE⟩
  ·simp (disch := first | exact xD | fail) [-Option.bind_some, qs, -Aa, -Ab, h0]
   exact hQ _ ⟨rfl, xE⟩
 ·have hpu : Bw xs = AV xs := by rw [Bw, hf]; rfl
  rw [hpu] at hQ
  simp (disch := first | exact xD | fail) [-Option.bind_some, -Aa, -Ab]
  exact Ad.mono (Lw ha xs.length 0 _ _ (by omega) rfl rfl rfl hf xE) hQ
theorem TZ {g c : Nat} {xs : List (List UInt8)} {s : List UInt8} {w : World} (hA : Ju w g 0 xs) (hl : xs.length ≤ 100) : ∀ (d k : Nat) (e : Env), k + d = xs.length → e 0 = .slice (some ⟨g, 0, none⟩) xs.length c → e 1 = .string (A8 s) → e 7 = i64 xs.length → e 8 = i64 k →
  Ad (BN e w) fun r => ∃ m, r = (i64 m, w) ∧ ∀ j, k ≤ j → xs[j]? = some s → (∀ i, i < j → xs[i]? ≠ some s) → m = j := by
 intro d
 induction d with
 | zero =>
  intro k e hd e0 e1 e7 e8
  rw [CQ]
  obtain rfl : k = xs.length := by omega
  refine Ad.post fun Q hQ => ?_
  simp (disch := first | exact xD | fail) [-Option.bind_some, -Aa, -Ab, e7, e8]
  refine hQ _ ⟨-1, rfl, fun j hj h1 => ?_⟩
  rw [List.getElem?_eq_none hj] at h1
  cases h1
 | succ d ih =>
  intro k e hd e0 e1 e7 e8
  rw [CQ]
  have hlt : k < xs.length := by omega
  obtain ⟨x, hx, _⟩ := Al hlt
  have hc := hA _ _ hx
  rw [Nat.zero_add] at hc
  refine Ad.post fun Q hQ => ?_
  by_cases hs : s = x
  ·subst hs
   simp (disch := first | exact xD | fail) [-Option.bind_some, -Aa, -Ab, e0, e1, e7, e8, hlt, Km, hc, Ay]
   refine hQ _ ⟨k, rfl, fun j hj h1 h2 => ?_⟩
   rcases Nat.lt_or_ge k j with h | h
   ·exact absurd hx (h2 k h)
   ·omega
  ·have hs' : (s == x) = false := beq_eq_false_iff_ne.2 hs
   simp (disch := first | exact xD | fail) [-Option.bind_some, qs, -Aa, -Ab, e0, e1, e7, e8, hlt, Km, hc, Ay, hs']
   refine Ad.mono (ih (k + 1) _ (by omega) xA xA xA xA) ?_
   rintro r ⟨m, rfl, h⟩
   refine hQ _ ⟨m, rfl, fun j hj h1 h2 => ?_⟩
   rcases Nat.lt_or_ge k j with h' | h'
   ·exact h j (by omega) h1 h2
   ·obtain rfl : j = k := by omega
    rw [hx] at h1
    exact absurd (Option.some.inj h1).symm hs
theorem T0 {g c : Nat} {s : List UInt8} {w : World} (hA : Ju w g 0 IM) : Ad (EV P 47 #[.slice (some ⟨g, 0, none⟩) 4 c, .string (A8 s)] w) fun r => ∃ m, r = (i64 m, w) ∧ ∀ k : Int, 1 ≤ k → k ≤ 3 → s = C7 k → m = k := by
 refine Ad.post fun Q hQ => ?_
 refine Ad.enter plain mixed (GU _ _ _) (by kernel_rfl) (n := 2) (by kernel_rfl) rfl ?_
 simp (disch := first | exact xD | fail) [-Option.bind_some, -Aa, -Ab]
 refine Ad.mono (TZ (g := g) (c := c) (xs := IM) (s := s) hA (by decide) 4 0 _ rfl rfl rfl rfl rfl) ?_
 rintro _ ⟨m, rfl, h⟩
 refine hQ _ ⟨m, rfl, fun k h1 h2 h3 => ?_⟩
 have h4 := Mp h1 h2
 rw [← h3] at h4
 have := h k.toNat (by omega) h4 (fun i hi h5 => ?_)
 ·omega
 ·rw [h3] at h5
  have hk : k = 1 ∨ k = 2 ∨ k = 3 := by omega
  have hi' : i = 0 ∨ i = 1 ∨ i = 2 := by omega
  rcases hk with rfl | rfl | rfl <;> rcases hi' with rfl | rfl | rfl <;> first | omega | (exact absurd h5 (by decide))
theorem YM {α : Type} {l : List α} (h : l.length = 4) : ∃ a b c d, l = [a, b, c, d] := by
 match l, h with
 | [a, b, c, d], _ => exact ⟨a, b, c, d, rfl⟩
theorem SQ {l : List UInt8} {c : UInt8} (hl : l.length ≤ 100000000) (w : World) : Ad (EV P 44 #[.string (A8 l), .string (A8 [c])] w) fun r => ∃ g q, r.1 = .slice (some ⟨g, 0, none⟩) (A0 c l).length q ∧ (A0 c l).length ≤ q ∧ Ju r.2 g 0 (A0 c l) ∧ Ext w r.2 :=
 Ad.mono (TY hl w) fun r ⟨q, h1, h2, h3, h4⟩ => ⟨_, q, h1, h2, h3, h4⟩
theorem PY {l : List UInt8} (hl : l.length ≤ 100000000) {w : World} (G : GlobE w) : Ad (EV P 23 #[.string (A8 l)] w) fun r => ∃ d ok, r.1 = .tuple #[.agg #[i64 d.Av, i64 d.kind, i64 d.key, i64 d.tag.t, i64 d.tag.p], .bool ok] ∧ (∀ d', FA d' = true → Da d' = l → ok = true ∧ d = d') ∧ Ext w r.2 := by
 have hsz := RE 32 l
 refine Ad.post fun Q hQ => ?_
 refine Ad.enter plain mixed (JK _ _) (by kernel_rfl) (n := 1) (by kernel_rfl) rfl ?_
 simp (disch := first | exact xD | fail) [-Option.bind_some, qs, -Aa, -Ab, CJ]
 refine Ad.bind (SQ (c := 32) hl _) ?_
 rintro ⟨_, w1⟩ ⟨g, q, rfl, hq, A1, E1⟩
 have zE1 := E1.size
 try simp only [qz] at zE1
 try dsimp only at A1 E1
 have X1 : hp w1 w.heap.size = some (.cells #[i64 0, i64 0, i64 0, i64 0, i64 0] 41 (0, 0)) := (E1.Ai (by simp)).trans (by first | assumption | rfl | (simp (disch := first | exact xD | fail) [-Option.bind_some, qs, -Aa, -Ab]; done))
 have zE1 := E1.size
 simp only [World.size_alloc] at zE1
 by_cases h4 : (A0 32 l).length = 4
 ·obtain ⟨y0, y1, y2, y3, hy⟩ := YM h4
  rw [hy] at A1 hsz hq
  have hw : ∀ d', FA d' = true → Da d' = l → y0 = Bx d'.Av.toNat ∧ y1 = C7 d'.kind ∧ y2 = Bx d'.key.toNat ∧ y3 = Eo d'.tag := by
   intro d' h1 h2
   have h3 := G9 d'
   rw [h2, hy, Mq] at h3
   simp only [List.cons.injEq, and_true] at h3
   exact h3
  have s0 := hsz y0 (by simp)
  have s2 := hsz y2 (by simp)
  have s3 := hsz y3 (by simp)
  have c0 := A1 0 y0 rfl
  have c1 := A1 1 y1 rfl
  have c2 := A1 2 y2 rfl
  have c3 := A1 3 y3 rfl
  rw [Nat.zero_add] at c0 c1 c2 c3
  have hg1 := Tm c0
  simp (disch := first | exact xD | fail) [-Option.bind_some, -Aa, -Ab, h4, c0, Km]
  refine Ad.bind (Ou (l := y0) (by omega) (G.ext xE)) ?_
  rintro ⟨_, w2⟩ ⟨E2, m0, er0, rfl, he0, hv0⟩
  try dsimp only at E2 m0 er0 he0 hv0
  have zE2 := E2.size
  try simp only [qz] at zE2
  have c22 := Bz E2 c2
  simp (disch := first | exact xD | fail) [-Option.bind_some, qs, -Aa, -Ab, c2, E2.Ai]
  refine Ad.bind (Ou (l := y2) (by omega) (G.ext xE)) ?_
  rintro ⟨_, w3⟩ ⟨E3, m2, er2, rfl, he2, hv2⟩
  try dsimp only at E3 m2 er2 he2 hv2
  have zE3 := E3.size
  try simp only [qz] at zE3
  have c33 := Bz E3 (Bz E2 c3)
  simp (disch := first | exact xD | fail) [-Option.bind_some, qs, -Aa, -Ab, c3, E2.Ai, E3.Ai]
  refine Ad.bind (MN (l := y3) (by omega) (G.ext xE)) ?_
  rintro ⟨_, w4⟩ ⟨t, okt, rfl, hgt, E4⟩
  try dsimp only at t okt hgt E4
  have zE4 := E4.size
  try simp only [qz] at zE4
  have zE2 := E2.size
  have zE3 := E3.size
  have zE4 := E4.size
  have X4 : hp w4 w.heap.size = some (.cells #[i64 0, i64 0, i64 0, i64 0, i64 0] 41 (0, 0)) := (by first | assumption | rfl | (simp (disch := first | exact xD | fail) [-Option.bind_some, -Aa, -Ab, X1, E2.Ai, E3.Ai, E4.Ai]; done))
  have c14 := Bz E4 (Bz E3 (Bz E2 c1))
  have en : ∀ (n : Nat) (er : Value) (w : World), (er = .nilIface ∨ ∃ u v, er = .iface u v) → bo P .eql 43 (.tmp n) (.const .nilIface) er .nilIface w = some (.bool (Kg er), w) := fun n er w h => PC 43 _ Tryz.underlying43 n er h w
  have en0' := fun n w => en n er0 w he0
  have en2' := fun n w => en n er2 w he2
  generalize hb0 : Kg er0 = b0 at en0'
  generalize hb2 : Kg er2 = b2 at en2'
  simp (disch := first | exact xD | fail) [-Option.bind_some, qs, -Aa, -Ab, qm, c1, en0', E2.Ai, E3.Ai, E4.Ai]
  refine Ad.bind (Kn _) ?_
  rintro ⟨_, w5⟩ ⟨g5, rfl, A5, E5⟩
  have zE5 := E5.size
  try simp only [qz] at zE5
  try dsimp only at A5 E5
  have zE5 := E5.size
  simp only [Ae, size_setRow, World.size_alloc] at zE5
  have X5 : hp w5 w.heap.size = some (.cells #[i64 0, i64 0, i64 0, i64 0, i64 0] 41 (0, 0)) := (by first | assumption | rfl | (simp (disch := first | exact xD | fail) [-Option.bind_some, qs, -Aa, -Ab, X4, E5.Ai]; done))
  have T5 : hp w5 w4.heap.size = some (.cells #[i64 t.t, i64 t.p] 39 (0, 0)) := (by first | assumption | rfl | (simp (disch := first | exact xD | fail) [-Option.bind_some, qs, -Aa, -Ab, E5.Ai]; done))
  have c15 : AP (hp w5 g) 1 = some (.string (A8 y1)) := Bz (Ext.tr xE E5) c14
  simp (disch := first | exact xD | fail) [-Option.bind_some, qs, -Aa, -Ab, c1, T5, E2.Ai, E3.Ai, E4.Ai, E5.Ai]
  refine Ad.bind (T0 (s := y1) A5) ?_
  rintro _ ⟨mk, rfl, hmk⟩
  have hno : ∀ d', FA d' = true → Da d' = l → b0 = true ∧ b2 = true ∧ okt = true ∧ (⟨m0, mk, m2, t⟩ : Done) = d' := by
   intro d' h1 h2
   obtain ⟨k0, k1, k2, k3⟩ := hw d' h1 h2
   obtain ⟨q1, q2, q3, q4, _⟩ := GO.1 h1
   have r0 := hv0 d'.Av.toNat (by omega) k0
   have r2 := hv2 d'.key.toNat (by omega) k2
   have r1 := hmk d'.kind q2.1 q2.2 k1
   have r3 : okt = true := by
    cases hh : okt
    ·rw [hh] at hgt; exact absurd k3.symm ((hgt.2 rfl).2 _ q4)
    ·rfl
   obtain ⟨h5, h6⟩ := hgt.1 r3
   refine ⟨by rw [← hb0, r0.1]; rfl, by rw [← hb2, r2.1]; rfl, r3, PA (by dsimp only; omega) r1 (by dsimp only; omega) (PE h5 q4 (h6.trans k3))⟩
  cases b0
  ·simp (disch := first | exact xD | fail) [-Option.bind_some, T5, X5]
   exact hQ _ ⟨⟨m0, mk, m2, t⟩, false, rfl, fun d' h1 h2 => (by have := (hno d' h1 h2).1; cases this), xE⟩
  ·cases b2
   ·simp (disch := first | exact xD | fail) [-Option.bind_some, en2', T5, X5]
    exact hQ _ ⟨⟨m0, mk, m2, t⟩, false, rfl, fun d' h1 h2 => (by have := (hno d' h1 h2).2.1; cases this), xE⟩
   ·simp (disch := first | exact xD | fail) [-Option.bind_some, en2', T5, X5]
    exact hQ _ ⟨⟨m0, mk, m2, t⟩, okt, rfl, fun d' h1 h2 => ⟨(hno d' h1 h2).2.2.1, (hno d' h1 h2).2.2.2⟩, xE⟩
 ·have h4' : (((A0 32 l).length : Int) != 4) = true := by simpa using (by omega : ((A0 32 l).length : Int) ≠ 4)
  simp (disch := first | exact xD | fail) [-Option.bind_some, h4', X1]
  exact hQ _ ⟨⟨0, 0, 0, ⟨0, 0⟩⟩, false, rfl, fun d' h1 h2 => absurd (by rw [← h2, G9]; rfl) h4, xE⟩
theorem Ro {l : List Done} (h : AV l = []) : l = [] := by
 cases l with
 | nil => rfl
 | cons d l => have := congrArg List.length h; simp [AV] at this
theorem YN (rest : List UInt8) (hr : rest ≠ []) : ∃ a b f, Pa 10 rest = .tuple #[.string (A8 a), .string (A8 b), .bool f] ∧ a.length ≤ rest.length ∧ b.length < rest.length ∧ ∀ d zs, AV (d :: zs) = rest → a = Da d ∧ b = AV zs := by
 have hp : 0 < rest.length := List.length_pos_iff.2 hr
 unfold Pa
 cases hc : Dw 10 rest with
 | none => exact ⟨rest, [], false, rfl, Nat.le_refl _, by simpa using hp, fun d zs h => by rw [← h, Jv] at hc; cases hc⟩
 | some p =>
  have h1 := (Ha hc).1
  have hlen : rest.length = p.1.length + (p.2.length + 1) := by conv => lhs; rw [h1]; simp
  refine ⟨p.1, p.2, true, rfl, by omega, by omega, fun d zs h => ?_⟩
  rw [← h, Jv] at hc
  obtain rfl := Option.some.inj hc
  exact ⟨rfl, rfl⟩
theorem ID {a : Option Addr} {n c : Nat} {w : World} (h : n ≤ c) (hc : c ≤ 9223372036854775807) : Ad (EV P 24 #[.slice a n c] w) fun r => r = (.slice a n n, w) := by
 refine Ad.post fun Q hQ => ?_
 refine Ad.enter plain mixed (HY _ _) (by kernel_rfl) (n := 1) (by kernel_rfl) rfl ?_
 simp (disch := first | exact xD | fail) [-Option.bind_some, -Aa, -Ab, Xa (P := P) Kl]
 exact hQ _ rfl
theorem Rp {l : List UInt8} (hl : l.length ≤ 100000000) {w0 : World} (G : GlobE w0) : ∀ (N : Nat) (rest : List UInt8) (e : Env) (w : World) (acc : List Done) (a : Option Addr) (q : Nat), rest.length ≤ N → rest.length ≤ l.length → acc.length ≤ 81 → e 0 = .string (A8 l) → e 4 = .slice a acc.length q → e 5 = .string (A8 rest) →
   (∀ ys, CC ys = true → AV ys = l → ∃ zs, ys = acc ++ zs ∧ AV zs = rest) → O BG (In w0.heap.size w.heap.size) w [.slice a acc.length q] acc → Ext w0 w →
   Ad (Co e w) fun r => ∃ xs ok a q, r.1 = .tuple #[.slice a xs.length q, .bool ok] ∧ OJ l xs ok ∧ O BG (In w0.heap.size r.2.heap.size) r.2 [.slice a xs.length q] xs ∧ Ext w0 r.2 := by
 -- the end of the loop
 have fin : ∀ (rest : List UInt8) (e : Env) (w : World) (acc : List Done) (a : Option Addr) (q : Nat), (rest = [] ∨ 80 < acc.length) → acc.length ≤ 81 → e 0 = .string (A8 l) → e 4 = .slice a acc.length q → e 5 = .string (A8 rest) →
   (∀ ys, CC ys = true → AV ys = l → ∃ zs, ys = acc ++ zs ∧ AV zs = rest) → O BG (In w0.heap.size w.heap.size) w [.slice a acc.length q] acc → Ext w0 w →
   Ad (Co e w) fun r => ∃ xs ok a q, r.1 = .tuple #[.slice a xs.length q, .bool ok] ∧ OJ l xs ok ∧ O BG (In w0.heap.size r.2.heap.size) r.2 [.slice a xs.length q] xs ∧ Ext w0 r.2 := by
  intro rest e w acc a q hend hal e0 e4 e5 hi ho E0
  have zE0 := E0.size
  try simp only [qz] at zE0
  rw [Fi]
  have hcl := ho.clip
  have hys : ∀ ys, CC ys = true → AV ys = l → ys = acc := by
   intro ys h1 h2
   obtain ⟨zs, rfl, h3⟩ := hi ys h1 h2
   rcases hend with h | h
   ·rw [h] at h3
    rw [Ro h3, List.append_nil]
   ·have := GL h1
    rw [List.length_append] at this
    omega
  refine Ad.post fun Q hQ => ?_
  have bad : ∀ w', Ext w0 w' → (∀ ys, CC ys = true → AV ys ≠ l) → Q (.tuple #[.slice none 0 0, .bool false], w') := fun w' h1 h2 => hQ _ ⟨[], false, none, 0, rfl, ⟨by simp, fun _ => ⟨rfl, h2⟩⟩, O.nil, h1⟩
  have go : ∀ (e : Env) (w1 : World), Ext w w1 → e 0 = .string (A8 l) → e 4 = .slice a acc.length q → True := fun _ _ _ _ _ => trivial
  have hne : (rest == []) = decide (rest = []) := by cases rest <;> rfl
  by_cases hr : rest = []
  ·subst hr
   simp (disch := first | exact xD | fail) [-Option.bind_some, -Aa, -Ab, e0, e4, e5, Ay]
   refine Ad.bind (Gm ho.d) ?_
   rintro ⟨_, w1⟩ ⟨rfl, E1⟩
   try dsimp only at E1
   have zE1 := E1.size
   try simp only [qz] at zE1
   cases hf : CC acc
   ·simp (disch := first | exact xD | fail) [-Option.bind_some, -Aa, -Ab]
    exact bad _ xE fun ys h1 h2 => by rw [hys ys h1 h2, hf] at h1; cases h1
   ·simp (disch := first | exact xD | fail) [-Option.bind_some, -Aa, -Ab]
    refine Ad.bind (Hy (G.g.ext xE) (ho.d.ext xE)) ?_
    rintro ⟨_, w2⟩ ⟨rfl, E2⟩
    try dsimp only at E2
    have zE2 := E2.size
    try simp only [qz] at zE2
    have hpu : Bw acc = AV acc := by rw [Bw, hf]; rfl
    by_cases hte : AV acc = l
    ·simp (disch := first | exact xD | fail) [-Option.bind_some, -Aa, -Ab, hpu, hte, Ay]
     refine Ad.bind (ID hcl.1 hcl.2.1) ?_
     rintro _ rfl
     simp (disch := first | exact xD | fail) [-Option.bind_some, -Aa, -Ab]
     have zE1 := E1.size
     have zE2 := E2.size
     exact hQ _ ⟨acc, true, a, acc.length, rfl, ⟨fun _ => ⟨hf, hte⟩, by simp⟩, ((hcl.2.2.ext E1).ext E2).wide (by intro b hb _; simp only [In] at hb ⊢; omega), xE⟩
    ·have hte' : (AV acc == l) = false := beq_eq_false_iff_ne.2 hte
     simp (disch := first | exact xD | fail) [-Option.bind_some, -Aa, -Ab, hpu, hte', Ay]
     exact bad _ xE fun ys h1 h2 => hte (by rw [← hys ys h1 h2]; exact h2)
  ·have hr' : (rest == []) = false := beq_eq_false_iff_ne.2 hr
   have hre : rest.isEmpty = false := by cases rest; exact absurd rfl hr; rfl
   have hgt : 80 < acc.length := hend.resolve_left hr
   simp (disch := first | exact xD | fail) [-Option.bind_some, -Aa, -Ab, e0, e4, e5, Ay, hr', show ¬ (acc.length : Int) ≤ 80 by omega]
   refine Ad.bind (Gm ho.d) ?_
   rintro ⟨_, w1⟩ ⟨rfl, E1⟩
   try dsimp only at E1
   have zE1 := E1.size
   try simp only [qz] at zE1
   have hf : CC acc = false := by
    cases hf : CC acc
    ·rfl
    ·have := GL hf; omega
   simp (disch := first | exact xD | fail) [-Option.bind_some, -Aa, -Ab, hf]
   exact bad _ xE fun ys h1 h2 => by rw [hys ys h1 h2, hf] at h1; cases h1
 intro N
 induction N with
 | zero =>
  intro rest e w acc a q hN hrl hal e0 e4 e5 hi ho E0
  have zE0 := E0.size
  try simp only [qz] at zE0
  exact fin rest e w acc a q (.inl (List.length_eq_zero_iff.1 (by omega))) hal e0 e4 e5 hi ho E0
 | succ N ih =>
  intro rest e w acc a q hN hrl hal e0 e4 e5 hi ho E0
  have zE0 := E0.size
  try simp only [qz] at zE0
  by_cases hend : rest = [] ∨ 80 < acc.length
  ·exact fin rest e w acc a q hend hal e0 e4 e5 hi ho E0
  have hr : rest ≠ [] := fun h => hend (.inl h)
  have hle : acc.length ≤ 80 := by omega
  have hr' : (rest == []) = false := beq_eq_false_iff_ne.2 hr
  have hre : rest.isEmpty = false := by cases rest; exact absurd rfl hr; rfl
  obtain ⟨x, y, f, hV, hx, hy, hu⟩ := YN rest hr
  rw [Fi]
  have hz := E0.size
  refine Ad.post fun Q hQ => ?_
  simp (disch := first | exact xD | fail) [-Option.bind_some, qs, -Aa, -Ab, e0, e4, e5, Ay, hr', show (acc.length : Int) ≤ 80 by omega, CJ]
  refine Ad.bind (UJ (l := rest) (by omega) 10 _) ?_
  rintro ⟨_, w1⟩ ⟨rfl, E1⟩
  try dsimp only at E1
  have zE1 := E1.size
  try simp only [qz] at zE1
  rw [hV]
  simp (disch := first | exact xD | fail) [-Option.bind_some, qs, -Aa, -Ab]
  refine Ad.bind (PY (l := x) (by omega) (G.ext xE)) ?_
  rintro ⟨_, w2⟩ ⟨d, ok, rfl, hd, E2⟩
  try dsimp only at d ok hd E2
  have zE2 := E2.size
  try simp only [qz] at zE2
  have hno : ∀ ys, CC ys = true → AV ys = l → ∃ zs, ys = acc ++ d :: zs ∧ AV zs = y ∧ ok = true := by
   intro ys h1 h2
   obtain ⟨zs, rfl, h3⟩ := hi ys h1 h2
   cases zs with
   | nil => exact absurd h3.symm hr
   | cons d' zs =>
    obtain ⟨h4, h5⟩ := hu d' zs h3
    obtain ⟨h6, h7⟩ := hd d' (Ff h1 d' (by simp)) h4.symm
    exact ⟨zs, by rw [h7], h5.symm, h6⟩
  cases ok
  ·simp (disch := first | exact xD | fail) [-Option.bind_some, qs, -Aa, -Ab, qm]
   refine hQ _ ⟨[], false, none, 0, rfl, ⟨by simp, fun _ => ⟨rfl, fun ys h1 h2 => ?_⟩⟩, O.nil, xE⟩
   obtain ⟨_, _, _, h⟩ := hno ys h1 h2
   cases h
  ·simp (disch := first | exact xD | fail) [-Option.bind_some, qs, -Aa, -Ab, qm]
   refine Ad.bind (O.Js (L := GN) (mx := 3518437208883) RI Kl OZ rfl (by decide) (((ho.ext E1).ext E2).ext xE) (Tq (d := d) (g := w2.heap.size + 1) (E := 41) (by first | assumption | rfl | (simp (disch := first | exact xD | fail) [-Option.bind_some, qs, -Aa, -Ab]; done))) (by simp; omega) (by decide) (by decide)) ?_
   rintro ⟨_, w3⟩ ⟨a3, q3, rfl, o3, M3⟩
   have zM3 := M3.size
   try simp only [qz] at zM3
   try dsimp only at o3 M3
   have zM3 := M3.size
   have zE1 := E1.size
   have zE2 := E2.size
   simp only [World.size_alloc, size_setRow] at zM3 o3
   have F3 : Ext w0 w3 := Mod.after (a := w0) xE M3 (by intro y hy h; simp only [In] at h; omega)
   have hal3 : (acc ++ [d]).length = acc.length + [d].length := by simp
   rw [← hal3] at o3
   simp (disch := first | exact xD | fail) [-Option.bind_some, -Aa, -Ab]
   refine Ad.mono (ih y _ _ (acc ++ [d]) a3 q3 (by omega) (by omega) (by simp; omega) xA (by rw [hal3]; rfl) xA (fun ys h1 h2 => ?_) (o3.wide (by intro b hb hl; simp only [In] at hb ⊢; rcases hb with hb | hb <;> omega)) F3) hQ
   obtain ⟨zs, h3, h4, _⟩ := hno ys h1 h2
   exact ⟨zs, by rw [h3]; simp, h4⟩
theorem Lx {l : List UInt8} (hl : l.length ≤ 100000000) {w : World} (G : GlobE w) : Ad (EV P 8 #[.string (A8 l)] w) fun r => ∃ xs ok a q, r.1 = .tuple #[.slice a xs.length q, .bool ok] ∧ OJ l xs ok ∧ O BG (In w.heap.size r.2.heap.size) r.2 [.slice a xs.length q] xs ∧ Ext w r.2 := by
 refine Ad.post fun Q hQ => ?_
 refine Ad.enter plain mixed (Kw _ _) (by kernel_rfl) (n := 1) (by kernel_rfl) rfl ?_
 simp (disch := first | exact xD | fail) [-Option.bind_some, -Aa, -Ab]
 exact Ad.mono (Rp hl (w0 := w) G l.length l _ _ [] (some ⟨w.heap.size, 0, none⟩) 0 (Nat.le_refl _) (Nat.le_refl _) (by simp) xA xA xA (fun ys h1 h2 => ⟨ys, rfl, h2⟩) ((O.empty (g := w.heap.size) (by first | assumption | rfl | (simp (disch := first | exact xD | fail) [-Option.bind_some, qs, -Aa, -Ab]; done))).wide (by intro b hb hl; have : b = w.heap.size := hb; simp only [In, World.size_alloc] at *; omega)) xE) hQ
theorem T6 : (P.fieldsOf 41).toList = [{ name := "Sess", type := 3, offset := 0, embedded := false, tag := "", pkgPath := "", byteOffset := 0 }, { name := "Kind", type := 3, offset := 1, embedded := false, tag := "", pkgPath := "", byteOffset := 8 }, { name := "Key", type := 3, offset := 2, embedded := false, tag := "", pkgPath := "", byteOffset := 16 }, { name := "Tag", type := 39, offset := 3, embedded := false, tag := "", pkgPath := "", byteOffset := 24 }] := by kernel_rfl
theorem T7 : (P.fieldsOf 39).toList = [{ name := "Time", type := 3, offset := 0, embedded := false, tag := "", pkgPath := "", byteOffset := 0 }, { name := "Place", type := 3, offset := 1, embedded := false, tag := "", pkgPath := "", byteOffset := 8 }] := by kernel_rfl
theorem O3 (x y : Operand) (d : Done) (w : World) : bo P .neq 41 x y (.agg (B6 d).toArray) (.agg (B6 d).toArray) w = some (.bool false, w) := by
 have hi : P.underlying 3 = some (.int .i64) := by kernel_rfl
 have hI : Ny P 3 = some false := by kernel_rfl
 have hT : Ny P 39 = some true := by kernel_rfl
 have hz : QG P 39 = some 2 := by kernel_rfl
 have hg := run_eqGuard_agg (P := P) w .neq 41 x y (B6 d).toArray (B6 d).toArray (by kernel_rfl)
 have hs := run_equalIn_struct (P := P) w 9999 41 (B6 d).toArray (B6 d).toArray (by kernel_rfl) (by kernel_rfl)
 have ht := run_equalIn_struct (P := P) w 9998 39 #[i64 d.tag.t, i64 d.tag.p] #[i64 d.tag.t, i64 d.tag.p] (by kernel_rfl) (by kernel_rfl)
 have p0 : (part 3 (B6 d).toArray 0).run P w = .ok (i64 d.Av) w := Fq hI _ rfl w
 have p1 : (part 3 (B6 d).toArray 1).run P w = .ok (i64 d.kind) w := Fq hI _ rfl w
 have p2 : (part 3 (B6 d).toArray 2).run P w = .ok (i64 d.key) w := Fq hI _ rfl w
 have p3 : (part 39 (B6 d).toArray 3).run P w = .ok (.agg #[i64 d.tag.t, i64 d.tag.p]) w := by
  simp [part, Fe hT, Be hz]
 have q0 : (part 3 #[i64 d.tag.t, i64 d.tag.p] 0).run P w = .ok (i64 d.tag.t) w := Fq hI _ rfl w
 have q1 : (part 3 #[i64 d.tag.t, i64 d.tag.p] 1).run P w = .ok (i64 d.tag.p) w := Fq hI _ rfl w
 have e0 := run_equalIn_int (P := P) w 9998 3 .i64 .i64 d.Av d.Av hi
 have e1 := run_equalIn_int (P := P) w 9998 3 .i64 .i64 d.kind d.kind hi
 have e2 := run_equalIn_int (P := P) w 9998 3 .i64 .i64 d.key d.key hi
 have f0 := run_equalIn_int (P := P) w 9997 3 .i64 .i64 d.tag.t d.tag.t hi
 have f1 := run_equalIn_int (P := P) w 9997 3 .i64 .i64 d.tag.p d.tag.p hi
 simp only [bo, Sem.run_bind, hg, Result.andThen_ok, run_neq_struct, hs, T6]
 simp [Op.eqFields, p0, p1, p2, p3, e0, e1, e2, ht, T7, q0, q1, f0, f1, ro]
theorem MQ {a b : Option Addr} {c c' : Nat} {S S' : Nat → Prop} {xs : List Done} {w0 : World} :
  ∀ (d k : Nat) (e : Env) (w : World), k + d = xs.length → e 0 = .slice a xs.length c → e 1 = .slice b xs.length c' → e 5 = i64 k → D BG S w0 [.slice a xs.length c] xs → D BG S' w0 [.slice b xs.length c'] xs → Ext w0 w →
  Ad (Dx e w) fun r => r.1 = .bool true ∧ Ext w0 r.2 := by
 intro d
 induction d with
 | zero =>
  intro k e w hd e0 e1 e5 ha hb E0
  have zE0 := E0.size
  try simp only [qz] at zE0
  rw [FD]
  obtain rfl : k = xs.length := by omega
  refine Ad.post fun Q hQ => ?_
  simp (disch := first | exact xD | fail) [-Option.bind_some, -Aa, -Ab, e0, e5]
  exact hQ _ ⟨rfl, xE⟩
 | succ d ih =>
  intro k e w hd e0 e1 e5 ha hb E0
  have zE0 := E0.size
  try simp only [qz] at zE0
  rw [FD]
  have hlt : k < xs.length := by omega
  obtain ⟨x, hx, hdx⟩ := Al hlt
  have hn := ha.n
  obtain ⟨b1, o1, cs1, rfl, A1, D1, _, l1⟩ := (ha.ext E0).at (by decide) hx
  obtain ⟨b2, o2, cs2, rfl, A2, D2, _, l2⟩ := (hb.ext E0).at (by decide) hx
  obtain rfl := D.done.1 D1
  obtain rfl := D.done.1 D2
  simp only [Jz] at A1 A2
  have p0 := A1 0 _ rfl
  have p1 := A1 1 _ rfl
  have p2 := A1 2 _ rfl
  have p3 := A1 3 _ rfl
  have p4 := A1 4 _ rfl
  simp only [Nat.add_zero] at p0 p1 p2 p3 p4
  have q0 := A2 0 _ rfl
  have q1 := A2 1 _ rfl
  have q2 := A2 2 _ rfl
  have q3 := A2 3 _ rfl
  have q4 := A2 4 _ rfl
  simp only [Nat.add_zero] at q0 q1 q2 q3 q4
  have hneq := fun (u v : Operand) (w : World) => O3 u v x w
  simp only [B6] at hneq
  refine Ad.post fun Q hQ => ?_
  simp (disch := first | exact xD | fail) [-Option.bind_some, qs, -Aa, -Ab, e0, e1, e5, hlt, I4, hneq, p0, p1, p2, p3, p4, q0, q1, q2, q3, q4]
  exact Ad.mono (ih (k + 1) _ _ (by omega) xA xA xA ha hb xE) hQ
theorem MR {a b : Option Addr} {n m c c' : Nat} {S S' : Nat → Prop} {xs : List Done} {w : World} (ha : D BG S w [.slice a n c] xs) (hb : D BG S' w [.slice b m c'] xs) :
  Ad (EV P 9 #[.slice a n c, .slice b m c'] w) fun r => r.1 = .bool true ∧ Ext w r.2 := by
 obtain ⟨rfl, hm, _⟩ := ha.n
 obtain ⟨rfl, hm2, _⟩ := hb.n
 refine Ad.post fun Q hQ => ?_
 refine Ad.enter plain mixed (Lf _ _ _) (by kernel_rfl) (n := 2) (by kernel_rfl) rfl ?_
 simp (disch := first | exact xD | fail) [-Option.bind_some, -Aa, -Ab, bne_self_eq_false]
 refine Ad.mono (MQ xs.length 0 _ w (by omega) rfl rfl rfl ha hb Ext.rfl) hQ
end Go.Proofs.YtkhbpmhagpljiaaGreatDoor.X
