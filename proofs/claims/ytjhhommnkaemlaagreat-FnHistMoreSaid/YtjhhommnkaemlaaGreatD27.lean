/- A part of the proof, without conditions. -/
import Derived.Test.YtjhhommnkaemlaaGreatEvWp
import Derived.Test.YtjhhommnkaemlaaGreatD18
set_option linter.unusedVariables false
set_option linter.unusedSimpArgs false
set_option linter.deprecated false
set_option maxRecDepth 100000
set_option maxHeartbeats 1000000
namespace Go.Proofs.YtjhhommnkaemlaaGreat.X
open Go Go.Ev Go.RowKit
attribute [local irreducible] World.alloc World.setRow Go.Ev.dw
def BZ (w0 : World) (B g p : Nat) (r : Value × World) : Prop := ∃ (kind at' num key : Int) (text : ByteArray) (gone : Bool) (p' : Nat), r.1 = .agg #[i64 kind, i64 at', i64 num, i64 key, .string text, .bool gone] ∧ text.size ≤ 1000 ∧ p' ≤ p + 10 ∧ R r.2 B g p' ∧ Mod (fun b => b = g) w0 r.2
theorem BZ.fin {w0 w : World} {B g p0 p' b4 : Nat} {kind at' num key : Int} {text : ByteArray} {gone : Bool} {z : Array Value} (hz : w0.heap.size ≤ w.heap.size) (hb4 : w0.heap.size ≤ b4) (hg0 : g < w0.heap.size) (htx : text.size ≤ 1000) (hp' : p' ≤ p0 + 10) (hR : R w B g p') (hN : Mod (fun b => b = g) w0 w) : BZ w0 B g p0 (.agg #[i64 kind, i64 at', i64 num, i64 key, .string text, .bool gone], w.setRow b4 z) :=
 ⟨kind, at', num, key, text, gone, p', rfl, htx, hp', hR.Aj (fun b h _ => Ac (by have := hR.lt; rcases h with h | h <;> omega)), hN.AL (.inl hb4) _⟩
theorem Sm : ∀ n ∈ Oo, n.size ≤ 1000 := by decide
theorem G9 {w0 w : World} {B g p b3 b4 m a : Nat} {q : Bool} {T : Nat → Prop} {cs : List Value} {st : WorldD} {e : Env} (hst : st.places.length = 3) (hgot : ∀ p ∈ st.places, p.Bu.length = 3) (ho : D tW T w0 cs st) (hT : ∀ b, T b → b ≠ g) (hp0 : p ≤ 800000000000) (ha3 : a < 3) (hb3 : w0.heap.size ≤ b3) (hb4 : w0.heap.size ≤ b4) (h34 : b3 ≠ b4) (hg0 : g < w0.heap.size)
  (R0 : R w B g p) (N0 : Mod (fun b => b = g) w0 w) (e0 : e 0 = pt g 0) (e3 : e 3 = pt b3 0) (e4 : e 4 = pt b4 0) (e5 : e 5 = i64 a) (e10 : e 10 = i64 m) (V3_0 : hp w b3 = some (.cells cs.toArray 77 (0, 0))) (V4_0 : hp w b4 = some (.cells #[i64 0, i64 0, i64 0, i64 0, .string ⟨#[]⟩, .bool false] 137 (0, 0))) (e82 : e 82 = .bool q) : Ae (Cs e w) (BZ w0 B g p) := by
 rw [Hv]
 refine Ae.post fun Q hQ => ?_
 cases q
 ·simp (disch := first | exact xD | fail) [-Option.bind_some, -Aa, -Ab, e0, e4, e82]
  refine Ae.bind (Bg (ints := [11, 11, 11, 12, 13, 0, 14]) (k := 7) (by omega) (by omega) (by omega) rfl (At.nw rfl) (by have := N0.size; omega) (R0.ext xE)) ?_
  rintro ⟨_, w1⟩ ⟨m1, hm1, rfl, R1, K1⟩
  try dsimp only at R1 K1
  have zK1 := K1.size
  try simp only [World.size_alloc] at zK1
  have N1 : Mod (fun b => b = g) w0 w1 := (N0.al _).tr K1
  have V4_1 := (K1.Ai b4 (by have := Aq V4_0; (try simp only [World.size_alloc]); omega) (by omega)).trans ((Ag (Aq V4_0)).trans V4_0)
  simp (disch := first | exact xD | fail) [-Option.bind_some, -Aa, -Ab]
  refine Ae.bind (Am (k := 3) (by omega) (by omega) (by omega) (R1.ext xE)) ?_
  rintro ⟨_, w2⟩ ⟨m2, rfl, hm2, R2, K2⟩
  try dsimp only at R2 K2
  have zK2 := K2.size
  try simp only [World.size_alloc] at zK2
  have N2 : Mod (fun b => b = g) w0 w2 := (N1).tr K2
  have V4_2 := (K2.Ai b4 (by have := Aq V4_1; (try simp only [World.size_alloc]); omega) (by omega)).trans (V4_1)
  simp (disch := first | exact xD | fail) [-Option.bind_some, -Aa, -Ab, qm, V4_2]
  exact hQ _ (BZ.fin (p0 := p) (by have := N2.size; omega) hb4 hg0 (by show ByteArray.size ⟨#[]⟩ ≤ 1000; decide) (by omega) R2 N2)
 ·simp (disch := first | exact xD | fail) [-Option.bind_some, -Aa, -Ab, e0, e4, e5, e82]
  refine Ae.bind (Am (k := 3) (by omega) (by omega) (by omega) (R0.ext xE)) ?_
  rintro ⟨_, w1⟩ ⟨m1, rfl, hm1, R1, K1⟩
  try dsimp only at R1 K1
  have zK1 := K1.size
  try simp only [World.size_alloc] at zK1
  have N1 : Mod (fun b => b = g) w0 w1 := (N0).tr K1
  have V4_1 := (K1.Ai b4 (by have := Aq V4_0; (try simp only [World.size_alloc]); omega) (by omega)).trans (V4_0)
  have V3_1 := (K1.Ai b3 (by have := Aq V3_0; (try simp only [World.size_alloc]); omega) (by omega)).trans (V3_0)
  simp (disch := first | exact xD | fail) [-Option.bind_some, -Aa, -Ab]
  obtain ⟨pa, pc, sa, sc, na, nc, ha, hc, rfl, dp, _, _, _⟩ := D.world.1 ho
  have hk : m1 < st.places.length := by omega
  obtain ⟨pl, hpl, _⟩ := Ak hk
  have hg3 := hgot pl (List.mem_of_getElem? hpl)
  have dp1 : D (Fj 36 49 86 42 84) T w1 [.slice pa st.places.length pc] st.places := dp.Aj fun b hb hbl => N1.Ai b hbl (hT b hb)
  obtain ⟨b5, o5, cs5, rfl, A5, D5, _, _⟩ := dp1.at (by show 0 < 6; decide) hpl
  obtain ⟨ac, cc, al, cl, ag, cg, rfl, _, _, q3⟩ := D.place.1 D5
  obtain ⟨gl, hgl, _⟩ := Ak (l := pl.Bu) (k := a) (by omega)
  obtain ⟨b6, o6, cs6, rfl, A6, D6, _, _⟩ := q3.at (by decide) hgl
  obtain ⟨a7, c7, rfl, _⟩ := D6.Gn
  have t0 := A5 0 _ rfl
  have t1 := A5 1 _ rfl
  have t2 := A5 2 _ rfl
  have t3 := A5 3 _ rfl
  have t4 := A5 4 _ rfl
  have t5 := A5 5 _ rfl
  simp only [Nat.add_zero] at t0 t1 t2 t3 t4 t5
  simp only [Me] at t0 t1 t2 t3 t4 t5
  have u0 := A6 0 _ rfl
  simp only [Nat.add_zero] at u0
  simp only [Gx, Nat.mul_one] at u0
  simp (disch := first | exact xD | fail) [-Option.bind_some, -Aa, -Ab, qm, e3, V4_1, V3_1, CQ, HM, hg3, t4, u0]
  exact hQ _ (BZ.fin (p0 := p) (by have := N1.size; omega) hb4 hg0 (by show ByteArray.size ⟨#[]⟩ ≤ 1000; decide) (by omega) R1 N1)
theorem Ha {w0 w : World} {B g p b3 b4 m a : Nat} {q : Bool} {T : Nat → Prop} {cs : List Value} {st : WorldD} {e : Env} (hst : st.places.length = 3) (hgot : ∀ p ∈ st.places, p.Bu.length = 3) (ho : D tW T w0 cs st) (hT : ∀ b, T b → b ≠ g) (hp0 : p ≤ 800000000000) (ha3 : a < 3) (hb3 : w0.heap.size ≤ b3) (hb4 : w0.heap.size ≤ b4) (h34 : b3 ≠ b4) (hg0 : g < w0.heap.size)
  (R0 : R w B g p) (N0 : Mod (fun b => b = g) w0 w) (e0 : e 0 = pt g 0) (e3 : e 3 = pt b3 0) (e4 : e 4 = pt b4 0) (e5 : e 5 = i64 a) (e10 : e 10 = i64 m) (V3_0 : hp w b3 = some (.cells cs.toArray 77 (0, 0))) (V4_0 : hp w b4 = some (.cells #[i64 0, i64 0, i64 0, i64 0, .string ⟨#[]⟩, .bool false] 137 (0, 0))) (e75 : e 75 = .bool q) : Ae (Cr e w) (BZ w0 B g p) := by
 rw [Hu]
 refine Ae.post fun Q hQ => ?_
 cases q
 ·skip
  cases h17 : ((m : Int) == 17)
  case true =>
   simp (disch := first | exact xD | fail) [-Option.bind_some, -Aa, -Ab, e10, e75, h17]
   exact Ae.mono (G9 (q := true) hst hgot ho hT hp0 ha3 hb3 hb4 h34 hg0 R0 N0 xA xA xA xA xA V3_0 V4_0 xA) hQ
  cases h18 : ((m : Int) == 18)
  case true =>
   simp (disch := first | exact xD | fail) [-Option.bind_some, -Aa, -Ab, e10, e75, h17, h18]
   exact Ae.mono (G9 (q := true) hst hgot ho hT hp0 ha3 hb3 hb4 h34 hg0 R0 N0 xA xA xA xA xA V3_0 V4_0 xA) hQ
  simp (disch := first | exact xD | fail) [-Option.bind_some, -Aa, -Ab, e10, e75, h17, h18]
  exact Ae.mono (G9 (q := false) hst hgot ho hT hp0 ha3 hb3 hb4 h34 hg0 R0 N0 xA xA xA xA xA V3_0 V4_0 xA) hQ
 ·simp (disch := first | exact xD | fail) [-Option.bind_some, -Aa, -Ab, e0, e4, e5, e75]
  refine Ae.bind (Am (k := 3) (by omega) (by omega) (by omega) (R0.ext xE)) ?_
  rintro ⟨_, w1⟩ ⟨m1, rfl, hm1, R1, K1⟩
  try dsimp only at R1 K1
  have zK1 := K1.size
  try simp only [World.size_alloc] at zK1
  have N1 : Mod (fun b => b = g) w0 w1 := (N0).tr K1
  have V4_1 := (K1.Ai b4 (by have := Aq V4_0; (try simp only [World.size_alloc]); omega) (by omega)).trans (V4_0)
  simp (disch := first | exact xD | fail) [-Option.bind_some, -Aa, -Ab, qm, V4_1]
  exact hQ _ (BZ.fin (p0 := p) (by have := N1.size; omega) hb4 hg0 (by show ByteArray.size ⟨#[]⟩ ≤ 1000; decide) (by omega) R1 N1)
theorem Fz {w0 w : World} {B g p b3 b4 m a : Nat} {q : Bool} {T : Nat → Prop} {cs : List Value} {st : WorldD} {e : Env} (hst : st.places.length = 3) (hgot : ∀ p ∈ st.places, p.Bu.length = 3) (ho : D tW T w0 cs st) (hT : ∀ b, T b → b ≠ g) (hp0 : p ≤ 800000000000) (ha3 : a < 3) (hb3 : w0.heap.size ≤ b3) (hb4 : w0.heap.size ≤ b4) (h34 : b3 ≠ b4) (hg0 : g < w0.heap.size)
  (R0 : R w B g p) (N0 : Mod (fun b => b = g) w0 w) (e0 : e 0 = pt g 0) (e3 : e 3 = pt b3 0) (e4 : e 4 = pt b4 0) (e5 : e 5 = i64 a) (e10 : e 10 = i64 m) (V3_0 : hp w b3 = some (.cells cs.toArray 77 (0, 0))) (V4_0 : hp w b4 = some (.cells #[i64 0, i64 0, i64 0, i64 0, .string ⟨#[]⟩, .bool false] 137 (0, 0))) (e57 : e 57 = .bool q) : Ae (BO e w) (BZ w0 B g p) := by
 rw [Ht]
 refine Ae.post fun Q hQ => ?_
 cases q
 ·skip
  cases h14 : ((m : Int) == 14)
  case true =>
   simp (disch := first | exact xD | fail) [-Option.bind_some, -Aa, -Ab, e0, e4, e5, e10, e57, h14]
   refine Ae.bind (Bg (ints := [7, 8]) (k := 2) (by omega) (by omega) (by omega) rfl (At.nw rfl) (by have := N0.size; omega) (R0.ext xE)) ?_
   rintro ⟨_, w1⟩ ⟨m1, hm1, rfl, R1, K1⟩
   try dsimp only at R1 K1
   have zK1 := K1.size
   try simp only [World.size_alloc] at zK1
   have N1 : Mod (fun b => b = g) w0 w1 := (N0.al _).tr K1
   have V4_1 := (K1.Ai b4 (by have := Aq V4_0; (try simp only [World.size_alloc]); omega) (by omega)).trans ((Ag (Aq V4_0)).trans V4_0)
   simp (disch := first | exact xD | fail) [-Option.bind_some, -Aa, -Ab]
   refine Ae.bind (Am (k := 4) (by omega) (by omega) (by omega) (R1.ext xE)) ?_
   rintro ⟨_, w2⟩ ⟨m2, rfl, hm2, R2, K2⟩
   try dsimp only at R2 K2
   have zK2 := K2.size
   try simp only [World.size_alloc] at zK2
   have N2 : Mod (fun b => b = g) w0 w2 := (N1).tr K2
   have V4_2 := (K2.Ai b4 (by have := Aq V4_1; (try simp only [World.size_alloc]); omega) (by omega)).trans (V4_1)
   simp (disch := first | exact xD | fail) [-Option.bind_some, -Aa, -Ab, qm, V4_2]
   exact hQ _ (BZ.fin (p0 := p) (by have := N2.size; omega) hb4 hg0 (by show ByteArray.size ⟨#[]⟩ ≤ 1000; decide) (by omega) R2 N2)
  cases h15 : ((m : Int) == 15)
  case true =>
   simp (disch := first | exact xD | fail) [-Option.bind_some, -Aa, -Ab, e10, e57, h14, h15]
   exact Ae.mono (Ha (q := true) hst hgot ho hT hp0 ha3 hb3 hb4 h34 hg0 R0 N0 xA xA xA xA xA V3_0 V4_0 xA) hQ
  cases h16 : ((m : Int) == 16)
  case true =>
   simp (disch := first | exact xD | fail) [-Option.bind_some, -Aa, -Ab, e10, e57, h14, h15, h16]
   exact Ae.mono (Ha (q := true) hst hgot ho hT hp0 ha3 hb3 hb4 h34 hg0 R0 N0 xA xA xA xA xA V3_0 V4_0 xA) hQ
  simp (disch := first | exact xD | fail) [-Option.bind_some, -Aa, -Ab, e10, e57, h14, h15, h16]
  exact Ae.mono (Ha (q := false) hst hgot ho hT hp0 ha3 hb3 hb4 h34 hg0 R0 N0 xA xA xA xA xA V3_0 V4_0 xA) hQ
 ·simp (disch := first | exact xD | fail) [-Option.bind_some, -Aa, -Ab, e0, e4, e5, e57]
  refine Ae.bind (Bg (ints := [0, 0, 1, 2]) (k := 4) (by omega) (by omega) (by omega) rfl (At.nw rfl) (by have := N0.size; omega) (R0.ext xE)) ?_
  rintro ⟨_, w1⟩ ⟨m1, hm1, rfl, R1, K1⟩
  try dsimp only at R1 K1
  have zK1 := K1.size
  try simp only [World.size_alloc] at zK1
  have N1 : Mod (fun b => b = g) w0 w1 := (N0.al _).tr K1
  have V4_1 := (K1.Ai b4 (by have := Aq V4_0; (try simp only [World.size_alloc]); omega) (by omega)).trans ((Ag (Aq V4_0)).trans V4_0)
  simp (disch := first | exact xD | fail) [-Option.bind_some, -Aa, -Ab, qm, V4_1]
  exact hQ _ (BZ.fin (p0 := p) (by have := N1.size; omega) hb4 hg0 (by show ByteArray.size ⟨#[]⟩ ≤ 1000; decide) (by omega) R1 N1)
theorem FA {w0 w : World} {B g p b3 b4 m a : Nat} {q : Bool} {T : Nat → Prop} {cs : List Value} {st : WorldD} {e : Env} (hst : st.places.length = 3) (hgot : ∀ p ∈ st.places, p.Bu.length = 3) (ho : D tW T w0 cs st) (hT : ∀ b, T b → b ≠ g) (hp0 : p ≤ 800000000000) (ha3 : a < 3) (hb3 : w0.heap.size ≤ b3) (hb4 : w0.heap.size ≤ b4) (h34 : b3 ≠ b4) (hg0 : g < w0.heap.size)
  (R0 : R w B g p) (N0 : Mod (fun b => b = g) w0 w) (e0 : e 0 = pt g 0) (e3 : e 3 = pt b3 0) (e4 : e 4 = pt b4 0) (e5 : e 5 = i64 a) (e10 : e 10 = i64 m) (V3_0 : hp w b3 = some (.cells cs.toArray 77 (0, 0))) (V4_0 : hp w b4 = some (.cells #[i64 0, i64 0, i64 0, i64 0, .string ⟨#[]⟩, .bool false] 137 (0, 0))) (e36 : e 36 = .bool q) : Ae (BN e w) (BZ w0 B g p) := by
 rw [Hs]
 refine Ae.post fun Q hQ => ?_
 cases q
 ·skip
  cases h10 : ((m : Int) == 10)
  case true =>
   simp (disch := first | exact xD | fail) [-Option.bind_some, -Aa, -Ab, e0, e4, e10, e36, h10]
   refine Ae.bind (Bg (ints := [4, 5]) (k := 2) (by omega) (by omega) (by omega) rfl (At.nw rfl) (by have := N0.size; omega) (R0.ext xE)) ?_
   rintro ⟨_, w1⟩ ⟨m1, hm1, rfl, R1, K1⟩
   try dsimp only at R1 K1
   have zK1 := K1.size
   try simp only [World.size_alloc] at zK1
   have N1 : Mod (fun b => b = g) w0 w1 := (N0.al _).tr K1
   have V4_1 := (K1.Ai b4 (by have := Aq V4_0; (try simp only [World.size_alloc]); omega) (by omega)).trans ((Ag (Aq V4_0)).trans V4_0)
   simp (disch := first | exact xD | fail) [-Option.bind_some, -Aa, -Ab]
   refine Ae.bind (Am (k := 4) (by omega) (by omega) (by omega) (R1.ext xE)) ?_
   rintro ⟨_, w2⟩ ⟨m2, rfl, hm2, R2, K2⟩
   try dsimp only at R2 K2
   have zK2 := K2.size
   try simp only [World.size_alloc] at zK2
   have N2 : Mod (fun b => b = g) w0 w2 := (N1).tr K2
   have V4_2 := (K2.Ai b4 (by have := Aq V4_1; (try simp only [World.size_alloc]); omega) (by omega)).trans (V4_1)
   simp (disch := first | exact xD | fail) [-Option.bind_some, -Aa, -Ab]
   refine Ae.bind (Am (k := 3) (by omega) (by omega) (by omega) (R2.ext xE)) ?_
   rintro ⟨_, w3⟩ ⟨m3, rfl, hm3, R3, K3⟩
   try dsimp only at R3 K3
   have zK3 := K3.size
   try simp only [World.size_alloc] at zK3
   have N3 : Mod (fun b => b = g) w0 w3 := (N2).tr K3
   have V4_3 := (K3.Ai b4 (by have := Aq V4_2; (try simp only [World.size_alloc]); omega) (by omega)).trans (V4_2)
   simp (disch := first | exact xD | fail) [-Option.bind_some, -Aa, -Ab, qm, V4_3]
   exact hQ _ (BZ.fin (p0 := p) (by have := N3.size; omega) hb4 hg0 (by show ByteArray.size ⟨#[]⟩ ≤ 1000; decide) (by omega) R3 N3)
  cases h11 : ((m : Int) == 11)
  case true =>
   simp (disch := first | exact xD | fail) [-Option.bind_some, -Aa, -Ab, e10, e36, h10, h11]
   exact Ae.mono (Fz (q := true) hst hgot ho hT hp0 ha3 hb3 hb4 h34 hg0 R0 N0 xA xA xA xA xA V3_0 V4_0 xA) hQ
  cases h12 : ((m : Int) == 12)
  case true =>
   simp (disch := first | exact xD | fail) [-Option.bind_some, -Aa, -Ab, e10, e36, h10, h11, h12]
   exact Ae.mono (Fz (q := true) hst hgot ho hT hp0 ha3 hb3 hb4 h34 hg0 R0 N0 xA xA xA xA xA V3_0 V4_0 xA) hQ
  cases h13 : ((m : Int) == 13)
  case true =>
   simp (disch := first | exact xD | fail) [-Option.bind_some, -Aa, -Ab, e10, e36, h10, h11, h12, h13]
   exact Ae.mono (Fz (q := true) hst hgot ho hT hp0 ha3 hb3 hb4 h34 hg0 R0 N0 xA xA xA xA xA V3_0 V4_0 xA) hQ
  simp (disch := first | exact xD | fail) [-Option.bind_some, -Aa, -Ab, e10, e36, h10, h11, h12, h13]
  exact Ae.mono (Fz (q := false) hst hgot ho hT hp0 ha3 hb3 hb4 h34 hg0 R0 N0 xA xA xA xA xA V3_0 V4_0 xA) hQ
 ·simp (disch := first | exact xD | fail) [-Option.bind_some, -Aa, -Ab, e0, e4, e36]
  refine Ae.bind (Am (k := 4) (by omega) (by omega) (by omega) (R0.ext xE)) ?_
  rintro ⟨_, w1⟩ ⟨m1, rfl, hm1, R1, K1⟩
  try dsimp only at R1 K1
  have zK1 := K1.size
  try simp only [World.size_alloc] at zK1
  have N1 : Mod (fun b => b = g) w0 w1 := (N0).tr K1
  have V4_1 := (K1.Ai b4 (by have := Aq V4_0; (try simp only [World.size_alloc]); omega) (by omega)).trans (V4_0)
  simp (disch := first | exact xD | fail) [-Option.bind_some, -Aa, -Ab]
  refine Ae.bind (Am (k := 4) (by omega) (by omega) (by omega) (R1.ext xE)) ?_
  rintro ⟨_, w2⟩ ⟨m2, rfl, hm2, R2, K2⟩
  try dsimp only at R2 K2
  have zK2 := K2.size
  try simp only [World.size_alloc] at zK2
  have N2 : Mod (fun b => b = g) w0 w2 := (N1).tr K2
  have V4_2 := (K2.Ai b4 (by have := Aq V4_1; (try simp only [World.size_alloc]); omega) (by omega)).trans (V4_1)
  simp (disch := first | exact xD | fail) [-Option.bind_some, -Aa, -Ab]
  refine Ae.bind (Am (k := 4) (by omega) (by omega) (by omega) (R2.ext xE)) ?_
  rintro ⟨_, w3⟩ ⟨m3, rfl, hm3, R3, K3⟩
  try dsimp only at R3 K3
  have zK3 := K3.size
  try simp only [World.size_alloc] at zK3
  have N3 : Mod (fun b => b = g) w0 w3 := (N2).tr K3
  have V4_3 := (K3.Ai b4 (by have := Aq V4_2; (try simp only [World.size_alloc]); omega) (by omega)).trans (V4_2)
  simp (disch := first | exact xD | fail) [-Option.bind_some, -Aa, -Ab, qm, V4_3]
  exact hQ _ (BZ.fin (p0 := p) (by have := N3.size; omega) hb4 hg0 (by show ByteArray.size ⟨#[]⟩ ≤ 1000; decide) (by omega) R3 N3)
theorem FB {w0 w : World} {B g p b3 b4 m a : Nat} {q : Bool} {T : Nat → Prop} {cs : List Value} {st : WorldD} {e : Env} (hst : st.places.length = 3) (hgot : ∀ p ∈ st.places, p.Bu.length = 3) (ho : D tW T w0 cs st) (hT : ∀ b, T b → b ≠ g) (hp0 : p ≤ 800000000000) (ha3 : a < 3) (hb3 : w0.heap.size ≤ b3) (hb4 : w0.heap.size ≤ b4) (h34 : b3 ≠ b4) (hg0 : g < w0.heap.size)
  (R0 : R w B g p) (N0 : Mod (fun b => b = g) w0 w) (e0 : e 0 = pt g 0) (e3 : e 3 = pt b3 0) (e4 : e 4 = pt b4 0) (e5 : e 5 = i64 a) (e10 : e 10 = i64 m) (V3_0 : hp w b3 = some (.cells cs.toArray 77 (0, 0))) (V4_0 : hp w b4 = some (.cells #[i64 0, i64 0, i64 0, i64 0, .string ⟨#[]⟩, .bool false] 137 (0, 0))) (e29 : e 29 = .bool q) : Ae (BM e w) (BZ w0 B g p) := by
 rw [Hr]
 refine Ae.post fun Q hQ => ?_
 cases q
 ·skip
  cases h7 : ((m : Int) == 7)
  case true =>
   simp (disch := first | exact xD | fail) [-Option.bind_some, -Aa, -Ab, e10, e29, h7]
   exact Ae.mono (FA (q := true) hst hgot ho hT hp0 ha3 hb3 hb4 h34 hg0 R0 N0 xA xA xA xA xA V3_0 V4_0 xA) hQ
  cases h8 : ((m : Int) == 8)
  case true =>
   simp (disch := first | exact xD | fail) [-Option.bind_some, -Aa, -Ab, e10, e29, h7, h8]
   exact Ae.mono (FA (q := true) hst hgot ho hT hp0 ha3 hb3 hb4 h34 hg0 R0 N0 xA xA xA xA xA V3_0 V4_0 xA) hQ
  cases h9 : ((m : Int) == 9)
  case true =>
   simp (disch := first | exact xD | fail) [-Option.bind_some, -Aa, -Ab, e10, e29, h7, h8, h9]
   exact Ae.mono (FA (q := true) hst hgot ho hT hp0 ha3 hb3 hb4 h34 hg0 R0 N0 xA xA xA xA xA V3_0 V4_0 xA) hQ
  simp (disch := first | exact xD | fail) [-Option.bind_some, -Aa, -Ab, e10, e29, h7, h8, h9]
  exact Ae.mono (FA (q := false) hst hgot ho hT hp0 ha3 hb3 hb4 h34 hg0 R0 N0 xA xA xA xA xA V3_0 V4_0 xA) hQ
 ·simp (disch := first | exact xD | fail) [-Option.bind_some, -Aa, -Ab, e0, e4, e29]
  refine Ae.bind (Am (k := 4) (by omega) (by omega) (by omega) (R0.ext xE)) ?_
  rintro ⟨_, w1⟩ ⟨m1, rfl, hm1, R1, K1⟩
  try dsimp only at R1 K1
  have zK1 := K1.size
  try simp only [World.size_alloc] at zK1
  have N1 : Mod (fun b => b = g) w0 w1 := (N0).tr K1
  have V4_1 := (K1.Ai b4 (by have := Aq V4_0; (try simp only [World.size_alloc]); omega) (by omega)).trans (V4_0)
  simp (disch := first | exact xD | fail) [-Option.bind_some, -Aa, -Ab, qm, V4_1]
  exact hQ _ (BZ.fin (p0 := p) (by have := N1.size; omega) hb4 hg0 (by show ByteArray.size ⟨#[]⟩ ≤ 1000; decide) (by omega) R1 N1)
theorem O5 {w0 w : World} {B g p b3 b4 m a : Nat} {q : Bool} {T : Nat → Prop} {cs : List Value} {st : WorldD} {e : Env} (hst : st.places.length = 3) (hgot : ∀ p ∈ st.places, p.Bu.length = 3) (ho : D tW T w0 cs st) (hT : ∀ b, T b → b ≠ g) (hp0 : p ≤ 800000000000) (ha3 : a < 3) (hb3 : w0.heap.size ≤ b3) (hb4 : w0.heap.size ≤ b4) (h34 : b3 ≠ b4) (hg0 : g < w0.heap.size)
  (R0 : R w B g p) (N0 : Mod (fun b => b = g) w0 w) (e0 : e 0 = pt g 0) (e3 : e 3 = pt b3 0) (e4 : e 4 = pt b4 0) (e5 : e 5 = i64 a) (e10 : e 10 = i64 m) (V3_0 : hp w b3 = some (.cells cs.toArray 77 (0, 0))) (V4_0 : hp w b4 = some (.cells #[i64 0, i64 0, i64 0, i64 0, .string ⟨#[]⟩, .bool false] 137 (0, 0))) (e11 : e 11 = .bool q) : Ae (Bz e w) (BZ w0 B g p) := by
 rw [Hq]
 refine Ae.post fun Q hQ => ?_
 cases q
 ·skip
  cases h3 : ((m : Int) == 3)
  case true =>
   simp (disch := first | exact xD | fail) [-Option.bind_some, -Aa, -Ab, e0, e4, e10, e11, h3]
   refine Ae.bind (Am (k := 4) (by omega) (by omega) (by omega) (R0.ext xE)) ?_
   rintro ⟨_, w1⟩ ⟨m1, rfl, hm1, R1, K1⟩
   try dsimp only at R1 K1
   have zK1 := K1.size
   try simp only [World.size_alloc] at zK1
   have N1 : Mod (fun b => b = g) w0 w1 := (N0).tr K1
   have V4_1 := (K1.Ai b4 (by have := Aq V4_0; (try simp only [World.size_alloc]); omega) (by omega)).trans (V4_0)
   simp (disch := first | exact xD | fail) [-Option.bind_some, -Aa, -Ab]
   refine Ae.bind (Am (k := 4) (by omega) (by omega) (by omega) (R1.ext xE)) ?_
   rintro ⟨_, w2⟩ ⟨m2, rfl, hm2, R2, K2⟩
   try dsimp only at R2 K2
   have zK2 := K2.size
   try simp only [World.size_alloc] at zK2
   have N2 : Mod (fun b => b = g) w0 w2 := (N1).tr K2
   have V4_2 := (K2.Ai b4 (by have := Aq V4_1; (try simp only [World.size_alloc]); omega) (by omega)).trans (V4_1)
   simp (disch := first | exact xD | fail) [-Option.bind_some, -Aa, -Ab, qm, V4_2]
   exact hQ _ (BZ.fin (p0 := p) (by have := N2.size; omega) hb4 hg0 (by show ByteArray.size ⟨#[]⟩ ≤ 1000; decide) (by omega) R2 N2)
  cases h4 : ((m : Int) == 4)
  case true =>
   simp (disch := first | exact xD | fail) [-Option.bind_some, -Aa, -Ab, e10, e11, h3, h4]
   exact Ae.mono (FB (q := true) hst hgot ho hT hp0 ha3 hb3 hb4 h34 hg0 R0 N0 xA xA xA xA xA V3_0 V4_0 xA) hQ
  cases h5 : ((m : Int) == 5)
  case true =>
   simp (disch := first | exact xD | fail) [-Option.bind_some, -Aa, -Ab, e10, e11, h3, h4, h5]
   exact Ae.mono (FB (q := true) hst hgot ho hT hp0 ha3 hb3 hb4 h34 hg0 R0 N0 xA xA xA xA xA V3_0 V4_0 xA) hQ
  cases h6 : ((m : Int) == 6)
  case true =>
   simp (disch := first | exact xD | fail) [-Option.bind_some, -Aa, -Ab, e10, e11, h3, h4, h5, h6]
   exact Ae.mono (FB (q := true) hst hgot ho hT hp0 ha3 hb3 hb4 h34 hg0 R0 N0 xA xA xA xA xA V3_0 V4_0 xA) hQ
  simp (disch := first | exact xD | fail) [-Option.bind_some, -Aa, -Ab, e10, e11, h3, h4, h5, h6]
  exact Ae.mono (FB (q := false) hst hgot ho hT hp0 ha3 hb3 hb4 h34 hg0 R0 N0 xA xA xA xA xA V3_0 V4_0 xA) hQ
 ·simp (disch := first | exact xD | fail) [-Option.bind_some, -Aa, -Ab, e0, e4, e11]
  refine Ae.bind (Am (k := 4) (by omega) (by omega) (by omega) (R0.ext xE)) ?_
  rintro ⟨_, w1⟩ ⟨m1, rfl, hm1, R1, K1⟩
  try dsimp only at R1 K1
  have zK1 := K1.size
  try simp only [World.size_alloc] at zK1
  have N1 : Mod (fun b => b = g) w0 w1 := (N0).tr K1
  have V4_1 := (K1.Ai b4 (by have := Aq V4_0; (try simp only [World.size_alloc]); omega) (by omega)).trans (V4_0)
  simp (disch := first | exact xD | fail) [-Option.bind_some, -Aa, -Ab]
  refine Ae.bind (Am (k := 4) (by omega) (by omega) (by omega) (R1.ext xE)) ?_
  rintro ⟨_, w2⟩ ⟨m2, rfl, hm2, R2, K2⟩
  try dsimp only at R2 K2
  have zK2 := K2.size
  try simp only [World.size_alloc] at zK2
  have N2 : Mod (fun b => b = g) w0 w2 := (N1).tr K2
  have V4_2 := (K2.Ai b4 (by have := Aq V4_1; (try simp only [World.size_alloc]); omega) (by omega)).trans (V4_1)
  simp (disch := first | exact xD | fail) [-Option.bind_some, -Aa, -Ab]
  refine Ae.bind (Lz (by omega) (R2.ext xE)) ?_
  rintro ⟨_, w3⟩ ⟨m3, hm3, rfl, R3, K3⟩
  try dsimp only at R3 K3
  have zK3 := K3.size
  try simp only [World.size_alloc] at zK3
  have N3 : Mod (fun b => b = g) w0 w3 := (N2).tr K3
  have V4_3 := (K3.Ai b4 (by have := Aq V4_2; (try simp only [World.size_alloc]); omega) (by omega)).trans (V4_2)
  simp (disch := first | exact xD | fail) [-Option.bind_some, -Aa, -Ab, qm, V4_3]
  exact hQ _ (BZ.fin (p0 := p) (by have := N3.size; omega) hb4 hg0 (Sm _ hm3) (by omega) R3 N3)
end Go.Proofs.YtjhhommnkaemlaaGreat.X
namespace Go.Proofs.YtjhhommnkaemlaaGreat.X
open Go Go.Ev Go.RowKit
attribute [local irreducible] World.alloc World.setRow Go.Ev.dw
abbrev LP : Lay (List EventD) := Ta 137
theorem PR {B g p : Nat} {T : Nat → Prop} {cs : List Value} {st : WorldD} {w : World} (hst : st.places.length = 3) (hgot : ∀ p ∈ st.places, p.Bu.length = 3) (ho : D tW T w cs st) (hT : ∀ b, T b → b ≠ g) (hp0 : p ≤ 700000000000) (hr : R w B g p) :
  Ae (EV P 110 #[pt g 0, .agg cs.toArray] w) (BZ w B g (p + 2)) := by
 have ho' := ho
 obtain ⟨pa, pc, sa, sc, na, nc, ha, hc, rfl, _, _, _, _⟩ := D.world.1 ho'
 have hl := hr.lt
 refine Ae.post fun Q hQ => ?_
 refine Ae.enter plain mixed (Jp _ _ _) (by kernel_rfl) (n := 2) (by kernel_rfl) rfl ?_
 simp (disch := first | exact xD | fail) [-Option.bind_some, -Aa, -Ab]
 refine Ae.bind (Am (k := 3) (by omega) (by omega) (by omega) (hr.ext xE)) ?_
 rintro ⟨_, w1⟩ ⟨m1, rfl, hm1, R1, K1⟩
 try dsimp only at R1 K1
 have zK1 := K1.size
 simp only [World.size_alloc] at zK1
 simp (disch := first | exact xD | fail) [-Option.bind_some, -Aa, -Ab]
 refine Ae.bind (Am (k := 20) (by omega) (by omega) (by omega) R1) ?_
 rintro ⟨_, w2⟩ ⟨m2, rfl, hm2, R2, K2⟩
 try dsimp only at R2 K2
 have zK2 := K2.size
 have V3 : hp w2 w.heap.size = some (.cells #[.slice pa st.places.length pc, .slice sa st.Ar.length sc, .slice na st.net.length nc, .slice ha st.AE.length hc] 77 (0, 0)) := (K2.Ai _ (by omega) (by omega)).trans ((K1.Ai _ xB (by omega)).trans (by first | assumption | rfl | (simp (disch := first | exact xD | fail) [-Option.bind_some, qs, -Aa, -Ab]; done)))
 have V4 : hp w2 (w.heap.size + 1) = some (.cells #[i64 0, i64 0, i64 0, i64 0, .string ⟨#[]⟩, .bool false] 137 (0, 0)) := (K2.Ai _ (by omega) (by omega)).trans ((K1.Ai _ xB (by omega)).trans (by first | assumption | rfl | (simp (disch := first | exact xD | fail) [-Option.bind_some, qs, -Aa, -Ab]; done)))
 have N2 : Mod (fun b => b = g) w w2 := (Mod.tr xM K1).tr K2
 have go : ∀ (e' : Env) (q : Bool), e' 0 = pt g 0 → e' 3 = pt w.heap.size 0 → e' 4 = pt (w.heap.size + 1) 0 → e' 5 = i64 m1 → e' 10 = i64 m2 → e' 11 = .bool q → Ae (Bz e' w2) Q := by
  intro e' q g0 g3 g4 g5 g10 g11
  refine Ae.mono (O5 (m := m2) (a := m1) (p := p + 1 + 1) hst hgot ho hT (by omega) hm1 (Nat.le_refl _) (by omega) (by omega) hl.2 R2 N2 g0 g3 g4 g5 g10 V3 V4 g11) hQ
 cases h0 : ((m2 : Int) == 0)
 case true =>
  simp (disch := first | exact xD | fail) [-Option.bind_some, -Aa, -Ab, h0]
  exact go _ _ xA xA xA xA xA rfl
 cases h1 : ((m2 : Int) == 1)
 case true =>
  simp (disch := first | exact xD | fail) [-Option.bind_some, -Aa, -Ab, h0, h1]
  exact go _ _ xA xA xA xA xA rfl
 cases h2 : ((m2 : Int) == 2)
 ·simp (disch := first | exact xD | fail) [-Option.bind_some, -Aa, -Ab, h0, h1, h2]
  exact go _ _ xA xA xA xA xA rfl
 ·simp (disch := first | exact xD | fail) [-Option.bind_some, -Aa, -Ab, h0, h1, h2]
  exact go _ _ xA xA xA xA xA rfl
end Go.Proofs.YtjhhommnkaemlaaGreat.X
namespace Go.Proofs.YtjhhommnkaemlaaGreat.X
open Go Go.Ev Go.RowKit
attribute [local irreducible] World.alloc World.setRow Go.Ev.dw
theorem BF.Bu {M : Nat} {st : WorldD} (h : BF M st) : ∀ p ∈ st.places, p.Bu.length = 3 := fun p hp' => (h.2.1 p hp').2.2.2.1
theorem O6 {B g b9 : Nat} {w0 : World} (hb9 : w0.heap.size ≤ b9) (hg0 : g < w0.heap.size) (n : Nat) (hn : n ≤ 120) :
  ∀ (d k : Nat) (e : Env) (W : World) (p c : Nat) (a : Option Addr) (cs : List Value) (st : WorldD) (evs : List EventD) (T Te : Nat → Prop), k + d = n → e 0 = pt g 0 → e 3 = i64 n → e 9 = pt b9 0 → e 10 = .slice a evs.length c → e 11 = i64 k →
   hp W b9 = some (.cells cs.toArray 77 (0, 0)) → BF (16 * k) st → O tW T W cs st → (∀ b, T b → w0.heap.size ≤ b ∧ b < W.heap.size ∧ b ≠ b9 ∧ ¬ Te b) → O LP Te W [.slice a evs.length c] evs → (∀ b, Te b → w0.heap.size ≤ b ∧ b < W.heap.size ∧ b ≠ b9) → evs.length ≤ k → (∀ x ∈ evs, x.text.size ≤ 1000) →
   p ≤ 600000000000 + 100 * k → R W B g p → Mod (fun b => b = g) w0 W →
   Ae (Ce e W) fun r => ∃ (a' : Option Addr) (c' p' : Nat) (evs' : List EventD), r.1 = .slice a' evs'.length c' ∧ O LP (fun b => w0.heap.size ≤ b) r.2 [.slice a' evs'.length c'] evs' ∧ (∀ x ∈ evs', x.text.size ≤ 1000) ∧ p' ≤ 600000000000 + 100 * n ∧ R r.2 B g p' ∧ Mod (fun b => b = g) w0 r.2 := by
 intro d
 induction d with
 | zero =>
  intro k e W p c a cs st evs T Te hd e0 e3 e9 e10 e11 X9 hf ho hT oe hTe hev hx hp0 hr hM
  rw [DX]
  obtain rfl : k = n := by omega
  refine Ae.post fun Q hQ => ?_
  simp (disch := first | exact xD | fail) [-Option.bind_some, -Aa, -Ab, e3, e10, e11]
  exact hQ _ ⟨a, c, p, evs, rfl, oe.wide (fun b h _ => (hTe b h).1), hx, hp0, hr, hM⟩
 | succ d ih =>
  intro k e W p c a cs st evs T Te hd e0 e3 e9 e10 e11 X9 hf ho hT oe hTe hev hx hp0 hr hM
  rw [DX]
  have hkn : k < n := by omega
  have y9 := Aq X9
  have zM0 := hM.size
  obtain ⟨u1, l1, d1, u2, l2, d2, u3, l3, d3, u4, l4, d4, rfl⟩ := ho.BX
  have jn : ∀ (e' : Env) (W' : World) (p' c' : Nat) (a' : Option Addr) (cs' : List Value) (st' : WorldD) (evs' : List EventD) (T' Te' : Nat → Prop) (Q : Value × World → Prop), e' 0 = pt g 0 → e' 3 = i64 n → e' 9 = pt b9 0 → e' 10 = .slice a' evs'.length c' → e' 11 = i64 k →
    hp W' b9 = some (.cells cs'.toArray 77 (0, 0)) → BF (16 * k + 16) st' → O tW T' W' cs' st' → (∀ b, T' b → w0.heap.size ≤ b ∧ b < W'.heap.size ∧ b ≠ b9 ∧ ¬ Te' b) → O LP Te' W' [.slice a' evs'.length c'] evs' → (∀ b, Te' b → w0.heap.size ≤ b ∧ b < W'.heap.size ∧ b ≠ b9) → evs'.length ≤ k + 1 → (∀ x ∈ evs', x.text.size ≤ 1000) →
    p' ≤ 600000000000 + 100 * k + 100 → R W' B g p' → Mod (fun b => b = g) w0 W' → (∀ r, (∃ (a' : Option Addr) (c' p' : Nat) (evs' : List EventD), r.1 = .slice a' evs'.length c' ∧ O LP (fun b => w0.heap.size ≤ b) r.2 [.slice a' evs'.length c'] evs' ∧ (∀ x ∈ evs', x.text.size ≤ 1000) ∧ p' ≤ 600000000000 + 100 * n ∧ R r.2 B g p' ∧ Mod (fun b => b = g) w0 r.2) → Q r) → Ae (Cf e' W') Q := by
   intro e' W' p' c' a' cs' st' evs' T' Te' Q g0 g3 g9 g10 g11 q1 q2 q3 q4 q5 q6 q7 q8 q9 q10 q11 hQ
   rw [GU]
   simp (disch := first | exact xD | fail) [-Option.bind_some, qs, -Aa, -Ab, g11]
   exact Ae.mono (ih (k + 1) _ W' p' c' a' cs' st' evs' T' Te' (by omega) xA xA xA xA xA q1 (q2.up (by omega)) q3 q4 q5 q6 q7 q8 (by omega) q10 q11) hQ
  refine Ae.post fun Q hQ => ?_
  simp (disch := first | exact xD | fail) [-Option.bind_some, qs, -Aa, -Ab, e0, e3, e9, e10, e11, X9, show (k : Int) < n by omega]
  refine Ae.bind (PR (T := T) hf.1 hf.Bu ho.d (fun b h => by have := hT b h; omega) (by omega) hr) ?_
  rintro ⟨_, w1⟩ ⟨kd, at', nm, ky, tx, gn, p1, rfl, htx, hp1, R1, M1⟩
  have zM1 := M1.size
  try simp only [] at zM1
  try dsimp only at R1 M1
  have zM1 := M1.size
  have N9 := (M1.Ai b9 (by omega) (by omega)).trans X9
  simp (disch := first | exact xD | fail) [-Option.bind_some, qs, -Aa, -Ab, qm, N9]
  have hT1 : ∀ b, T b → b < W.heap.size → b ≠ g := fun b h _ => by have := hT b h; omega
  refine Ae.bind (P4 (S := T) hf (by omega) htx (ho.Aj fun b hb hbl => ?_)) ?_
  ·refine Eq.trans ?_ (M1.Ai b hbl (hT1 b hb hbl))
   simp (disch := (first | omega | (simp only [World.size_alloc, size_setRow]; omega))) only [Ac, Ag]
  rintro ⟨v2, w2⟩ ⟨cs', st', q, hv2, hq, f2, o2, M2⟩
  have zM2 := M2.size
  try simp only [qz] at zM2
  try dsimp only at hv2 o2 M2
  subst hv2
  have zM2 := M2.size
  simp only [World.size_alloc, size_setRow] at zM2 o2
  obtain ⟨u5, l5, d5, u6, l6, d6, u7, l7, d7, u8, l8, d8, rfl⟩ := o2.BX
  have nT : ∀ b, b < w0.heap.size ∨ b = b9 ∨ Te b ∨ W.heap.size ≤ b → ¬ T b := fun b h h' => by
   have := hT b h'
   rcases h with h | h | h | h
   ·omega
   ·exact this.2.2.1 h
   ·exact this.2.2.2 h
   ·omega
  have k2 : ∀ b, b < W.heap.size → b ≠ g → ¬ T b → hp w2 b = hp W b := fun b hb h1 h2 => (M2.Ai b (by simp only [World.size_alloc, size_setRow]; omega) h2).trans ((by simp (disch := (first | omega | (simp only [World.size_alloc, size_setRow]; omega))) only [Ac, Ag] : _ = hp w1 b).trans (M1.Ai b hb h1))
  have k1 : ∀ b, b < w1.heap.size → ¬ T b → hp w2 b = hp w1 b := fun b hb h2 => (M2.Ai b (by simp only [World.size_alloc, size_setRow]; omega) h2).trans (by simp (disch := (first | omega | (simp only [World.size_alloc, size_setRow]; omega))) only [Ac, Ag])
  have C9 := (k1 b9 (by omega) (nT _ (.inr (.inl rfl)))).trans N9
  have CE : hp w2 w1.heap.size = some (.cells #[i64 kd, i64 at', i64 nm, i64 ky, .string tx, .bool gn] 137 (0, 0)) := (M2.Ai _ (by simp only [World.size_alloc, size_setRow]; omega) (nT _ (.inr (.inr (.inr (by omega)))))).trans (by first | assumption | rfl | (simp (disch := first | exact xD | fail) [-Option.bind_some, qs, -Aa, -Ab]; done))
  have R2 : R w2 B g p1 := R1.Aj fun b h hb => k1 b hb (nT _ (.inl (by have := R1.lt; omega)))
  have oe2 : O LP Te w2 [.slice a evs.length c] evs := oe.Aj fun b hb hbl => k2 b hbl (by have := hTe b hb; omega) (nT _ (.inr (.inr (.inl hb))))
  have NM : Mod (fun b => b = g) w0 w2 := Mod.AW (by
   first | exact ((hM.tr M1).al _).AL (.inl (by omega)) _ | exact (hM.tr M1).al _) M2 (fun b hb h => absurd h (nT _ (.inl hb)))
  cases q
  ·have hcs := hq rfl
   simp only [List.cons.injEq, Value.slice.injEq, and_true] at hcs
   obtain ⟨⟨rfl, rfl, rfl⟩, ⟨rfl, rfl, rfl⟩, ⟨rfl, rfl, rfl⟩, rfl, rfl, rfl⟩ := hcs
   simp (disch := first | exact xD | fail) [-Option.bind_some, qs, -Aa, -Ab, qm]
   refine Ae.bind (Am (k := 6) (by omega) (by omega) (by omega) (R2.ext xE)) ?_
   rintro ⟨_, w3⟩ ⟨m, rfl, hm, RR3, K3⟩
   try dsimp only at RR3 K3
   have zK3 := K3.size
   simp only [World.size_alloc, size_setRow] at zK3
   have k3 : ∀ b, b < w2.heap.size → b ≠ g → hp w3 b = hp w2 b := fun b hb h => (K3.Ai b (by simp only [World.size_alloc, size_setRow]; omega) h).trans ((Ac (by omega)).trans (Ag hb))
   have B93 := (k3 b9 (by omega) (by omega)).trans C9
   have BE3 := (k3 w1.heap.size (by omega) (by omega)).trans CE
   have BX3 : hp w3 w2.heap.size = some (.cells #[.slice u5 l5 d5, .slice u6 l6 d6, .slice u7 l7 d7, .slice u8 l8 d8] 77 (0, 0)) := (K3.Ai _ (by simp only [World.size_alloc, size_setRow]; omega) (by omega)).trans (by first | assumption | rfl | (simp (disch := first | exact xD | fail) [-Option.bind_some, qs, -Aa, -Ab]; done))
   have OE3 : O LP Te w3 [.slice a evs.length c] evs := oe2.Aj fun b hb hbl => k3 b hbl (by have := hTe b hb; omega)
   have OW3 : O tW (fun b => T b ∨ In (w1.heap.size + 1) w2.heap.size b) w3 [.slice u5 l5 d5, .slice u6 l6 d6, .slice u7 l7 d7, .slice u8 l8 d8] st' := o2.Aj fun b hb hbl => k3 b hbl (by rcases hb with h | h; have := hT b h; omega; simp only [In] at h; omega)
   have NN3 : Mod (fun b => b = g) w0 w3 := ((NM.al _).AL (.inl (by omega)) _).tr K3
   by_cases hm0 : 0 < m
   ·simp (disch := first | exact xD | fail) [-Option.bind_some, -Aa, -Ab, hm0]
    refine jn _ w3 (p1 + 1) c a [.slice u5 l5 d5, .slice u6 l6 d6, .slice u7 l7 d7, .slice u8 l8 d8] st' evs (fun b => T b ∨ In (w1.heap.size + 1) w2.heap.size b) Te Q xA xA xA xA xA B93 f2 OW3 ?_ OE3 (fun b h => by have := hTe b h; exact ⟨this.1, by omega, this.2.2⟩) (by omega) hx (by omega) RR3 NN3 hQ
    intro b hb
    rcases hb with h | h
    ·have := hT b h
     exact ⟨this.1, by omega, this.2.2⟩
    ·simp only [In] at h
     exact ⟨by omega, by omega, by omega, fun h' => by have := hTe b h'; omega⟩
   ·obtain rfl : m = 0 := by omega
    simp (disch := first | exact xD | fail) [-Option.bind_some, qs, -Aa, -Ab, qm, B93, BE3, BX3]
    have alk3 : ∀ b, b < w3.heap.size → b ≠ b9 → hp ((w3.setRow b9 #[.slice u5 l5 d5, .slice u6 l6 d6, .slice u7 l7 d7, .slice u8 l8 d8]).alloc (.cells #[i64 kd, i64 at', i64 nm, i64 ky, .string tx, .bool gn] 137)) b = hp w3 b := fun b hb hn => (Ag (by simp only [size_setRow]; omega)).trans (Ac hn)
    refine Ae.bind (O.app (L := Gr) (mx := 2513169434916) (xs := evs) (S1 := fun _ => False) (x := ⟨kd, at', nm, ky, tx, gn⟩) (cs := Oh ⟨kd, at', nm, ky, tx, gn⟩) PG RS rfl (by decide) (OE3.Aj fun b hb hbl => alk3 b hbl (hTe b hb).2.2) (O.event (by show tx.size ≤ _; omega)) (fun _ _ _ h => h) (At.nw (by simp)) (by omega) (by decide) (by decide)) ?_
    rintro ⟨_, w9⟩ ⟨a7, c7, rfl, o7, M7⟩
    have zM7 := M7.size
    try simp only [qz] at zM7
    try dsimp only at o7 M7
    have zM7 := M7.size
    simp only [World.size_alloc, size_setRow] at zM7 o7
    have lW3 : W.heap.size ≤ w3.heap.size := by omega
    have nTe : ∀ b, b < w0.heap.size ∨ b = b9 → ¬ Te b := fun b h h' => by have := hTe b h'; omega
    simp (disch := first | exact xD | fail) [-Option.bind_some, -Aa, -Ab]
    refine jn _ w9 (p1 + 1) c7 a7 [.slice u5 l5 d5, .slice u6 l6 d6, .slice u7 l7 d7, .slice u8 l8 d8] st' (evs ++ [⟨kd, at', nm, ky, tx, gn⟩]) (fun b => T b ∨ In (w1.heap.size + 1) w2.heap.size b) (fun b => Te b ∨ In w3.heap.size w9.heap.size b) Q xA xA xA ?_ xA ?_ f2 ?_ ?_ ?_ ?_ (by simp; omega) ?_ (by omega) ?_ ?_ hQ
    ·simp (disch := first | exact xD | fail) [-Option.bind_some, qs, -Aa, -Ab, List.length_append, List.length_cons, List.length_nil]
    ·refine (M7.Ai b9 (by simp only [World.size_alloc, size_setRow]; omega) (nTe _ (.inr rfl))).trans ((Ag (by simp only [size_setRow]; omega)).trans (by first | assumption | rfl | (simp (disch := first | exact xD | fail) [-Option.bind_some, -Aa, -Ab, B93]; done)))
    ·refine OW3.Aj fun b hb hbl => (M7.Ai b (by simp only [World.size_alloc, size_setRow]; omega) ?_).trans (alk3 b hbl ?_)
     ·rcases hb with h | h
      ·exact (hT b h).2.2.2
      ·intro h'
       have := hTe b h'
       simp only [In] at h; omega
     ·rcases hb with h | h
      ·exact (hT b h).2.2.1
      ·simp only [In] at h; omega
    ·intro b hb
     rcases hb with h | h
     ·have := hT b h
      exact ⟨this.1, by omega, this.2.2.1, fun h' => by rcases h' with h' | h'; exact this.2.2.2 h'; simp only [In] at h'; omega⟩
     ·simp only [In] at h
      exact ⟨by omega, by omega, by omega, fun h' => by rcases h' with h' | h'; have := hTe b h'; omega; simp only [In] at h'; omega⟩
    ·have hle : (evs ++ [(⟨kd, at', nm, ky, tx, gn⟩ : EventD)]).length = evs.length + 1 := by simp
     rw [hle]
     refine o7.wide fun b hb hbl => ?_
     rcases hb with h | h | h
     ·exact .inl h
     ·exact h.elim
     ·exact .inr (by simp only [In]; omega)
    ·intro b hb
     rcases hb with h | h
     ·have := hTe b h
      exact ⟨this.1, by omega, this.2.2⟩
     ·simp only [In] at h
      exact ⟨by omega, by omega, by omega⟩
    ·intro x hx'
     rcases List.mem_append.1 hx' with h | h
     ·exact hx x h
     ·rw [List.mem_singleton.1 h]; exact htx
    ·exact RR3.Aj fun b h hb => (M7.Ai b (by simp only [World.size_alloc, size_setRow]; omega) (nTe _ (.inl (by have := RR3.lt; omega)))).trans (alk3 b hb (by have := RR3.lt; omega))
    ·exact Mod.AW ((NN3.AL (.inl hb9) _).al _) M7 (fun b hb h => by have := hTe b h; omega)
  ·simp (disch := first | exact xD | fail) [-Option.bind_some, qs, -Aa, -Ab, qm]
   generalize hW4 : World.setRow _ w2.heap.size _ = W4
   have sW4 : W4.heap.size = w2.heap.size + 1 := by rw [← hW4]; simp
   have k4 : ∀ b, b < w2.heap.size → hp W4 b = hp w2 b := fun b hb => by
    rw [← hW4]
    exact (Ac (by omega)).trans (Ag hb)
   have B94 := (k4 b9 (by omega)).trans C9
   have BE4 := (k4 w1.heap.size (by omega)).trans CE
   have BX4 : hp W4 w2.heap.size = some (.cells #[.slice u5 l5 d5, .slice u6 l6 d6, .slice u7 l7 d7, .slice u8 l8 d8] 77 (0, 0)) := by
    rw [← hW4]
    exact (by first | assumption | rfl | (simp (disch := first | exact xD | fail) [-Option.bind_some, qs, -Aa, -Ab]; done))
   have RR4 : R W4 B g p1 := R2.Aj fun b h hb => k4 b hb
   have OE4 : O LP Te W4 [.slice a evs.length c] evs := oe2.Aj fun b hb hbl => k4 b hbl
   have OW4 : O tW (fun b => T b ∨ In (w1.heap.size + 1) w2.heap.size b) W4 [.slice u5 l5 d5, .slice u6 l6 d6, .slice u7 l7 d7, .slice u8 l8 d8] st' := o2.Aj fun b hb hbl => k4 b hbl
   have NN4 : Mod (fun b => b = g) w0 W4 := by
    rw [← hW4]
    exact (NM.al _).AL (.inl (by omega)) _
   simp (disch := first | exact xD | fail) [-Option.bind_some, qs, -Aa, -Ab, qm, BE4, C9]
   have alk4 : ∀ b, b < W4.heap.size → b ≠ b9 → hp ((W4.setRow b9 #[.slice u5 l5 d5, .slice u6 l6 d6, .slice u7 l7 d7, .slice u8 l8 d8]).alloc (.cells #[i64 kd, i64 at', i64 nm, i64 ky, .string tx, .bool gn] 137)) b = hp W4 b := fun b hb hn => (Ag (by simp only [size_setRow]; omega)).trans (Ac hn)
   refine Ae.bind (O.app (L := Gr) (mx := 2513169434916) (xs := evs) (S1 := fun _ => False) (x := ⟨kd, at', nm, ky, tx, gn⟩) (cs := Oh ⟨kd, at', nm, ky, tx, gn⟩) PG RS rfl (by decide) (OE4.Aj fun b hb hbl => alk4 b hbl (hTe b hb).2.2) (O.event (by show tx.size ≤ _; omega)) (fun _ _ _ h => h) (At.nw (by simp)) (by omega) (by decide) (by decide)) ?_
   rintro ⟨_, w9⟩ ⟨a7, c7, rfl, o7, M7⟩
   have zM7 := M7.size
   try simp only [qz] at zM7
   try dsimp only at o7 M7
   have zM7 := M7.size
   simp only [World.size_alloc, size_setRow] at zM7 o7
   have lW4 : W.heap.size ≤ W4.heap.size := by omega
   have nTe : ∀ b, b < w0.heap.size ∨ b = b9 → ¬ Te b := fun b h h' => by have := hTe b h'; omega
   simp (disch := first | exact xD | fail) [-Option.bind_some, -Aa, -Ab]
   refine jn _ w9 p1 c7 a7 [.slice u5 l5 d5, .slice u6 l6 d6, .slice u7 l7 d7, .slice u8 l8 d8] st' (evs ++ [⟨kd, at', nm, ky, tx, gn⟩]) (fun b => T b ∨ In (w1.heap.size + 1) w2.heap.size b) (fun b => Te b ∨ In W4.heap.size w9.heap.size b) Q xA xA xA ?_ xA ?_ f2 ?_ ?_ ?_ ?_ (by simp; omega) ?_ (by omega) ?_ ?_ hQ
   ·simp (disch := first | exact xD | fail) [-Option.bind_some, qs, -Aa, -Ab, List.length_append, List.length_cons, List.length_nil]
   ·refine (M7.Ai b9 (by simp only [World.size_alloc, size_setRow]; omega) (nTe _ (.inr rfl))).trans ((Ag (by simp only [size_setRow]; omega)).trans (by first | assumption | rfl | (simp (disch := first | exact xD | fail) [-Option.bind_some, -Aa, -Ab, B94]; done)))
   ·refine OW4.Aj fun b hb hbl => (M7.Ai b (by simp only [World.size_alloc, size_setRow]; omega) ?_).trans (alk4 b hbl ?_)
    ·rcases hb with h | h
     ·exact (hT b h).2.2.2
     ·intro h'
      have := hTe b h'
      simp only [In] at h; omega
    ·rcases hb with h | h
     ·exact (hT b h).2.2.1
     ·simp only [In] at h; omega
   ·intro b hb
    rcases hb with h | h
    ·have := hT b h
     exact ⟨this.1, by omega, this.2.2.1, fun h' => by rcases h' with h' | h'; exact this.2.2.2 h'; simp only [In] at h'; omega⟩
    ·simp only [In] at h
     exact ⟨by omega, by omega, by omega, fun h' => by rcases h' with h' | h'; have := hTe b h'; omega; simp only [In] at h'; omega⟩
   ·have hle : (evs ++ [(⟨kd, at', nm, ky, tx, gn⟩ : EventD)]).length = evs.length + 1 := by simp
    rw [hle]
    refine o7.wide fun b hb hbl => ?_
    rcases hb with h | h | h
    ·exact .inl h
    ·exact h.elim
    ·exact .inr (by simp only [In]; omega)
   ·intro b hb
    rcases hb with h | h
    ·have := hTe b h
     exact ⟨this.1, by omega, this.2.2⟩
    ·simp only [In] at h
     exact ⟨by omega, by omega, by omega⟩
   ·intro x hx'
    rcases List.mem_append.1 hx' with h | h
    ·exact hx x h
    ·rw [List.mem_singleton.1 h]; exact htx
   ·exact RR4.Aj fun b h hb => (M7.Ai b (by simp only [World.size_alloc, size_setRow]; omega) (nTe _ (.inl (by have := RR4.lt; omega)))).trans (alk4 b hb (by have := RR4.lt; omega))
   ·exact Mod.AW ((NN4.AL (.inl hb9) _).al _) M7 (fun b hb h => by have := hTe b h; omega)
end Go.Proofs.YtjhhommnkaemlaaGreat.X
namespace Go.Proofs.YtjhhommnkaemlaaGreat.X
open Go Go.Ev Go.RowKit
attribute [local irreducible] World.alloc World.setRow Go.Ev.dw
theorem O7 {B g p m sN n : Nat} (hm : m < 4) (hsN : sN ≤ 4) (hn : n ≤ 120) (hp0 : p ≤ 500000000000) {w : World} (hr : R w B g p) :
  Ae (EV P 96 #[pt g 0, i64 (1 + (m : Int)), i64 sN, i64 n] w) fun r => ∃ (a : Option Addr) (c p' : Nat) (evs : List EventD), r.1 = .slice a evs.length c ∧ O LP (fun b => w.heap.size ≤ b) r.2 [.slice a evs.length c] evs ∧ (∀ x ∈ evs, x.text.size ≤ 1000) ∧ p' ≤ 700000000000 ∧ R r.2 B g p' ∧ Mod (fun b => b = g) w r.2 := by
 have hl := hr.lt
 refine Ae.post fun Q hQ => ?_
 refine Ae.enter plain mixed (IK _ _ _ _ _) (by kernel_rfl) (n := 4) (by kernel_rfl) rfl ?_
 simp (disch := first | exact xD | fail) [-Option.bind_some, qs, -Aa, -Ab]
 refine Ae.bind (Qu hm hsN) ?_
 rintro ⟨_, w1⟩ ⟨cs, st, rfl, f1, o1, E1⟩
 try dsimp only at cs st f1 o1 E1
 have zE1 := E1.size
 try simp only [qz] at zE1
 obtain ⟨u5, l5, d5, u6, l6, d6, u7, l7, d7, u8, l8, d8, rfl⟩ := o1.BX
 simp (disch := first | exact xD | fail) [-Option.bind_some, -Aa, -Ab, qm]
 refine Ae.mono (O6 (b9 := w1.heap.size) (w0 := w) (by omega) hl.2 n hn n 0 _ _ p 0 (some ⟨w1.heap.size + 1, 0, none⟩) _ st [] (In w.heap.size w1.heap.size) (fun b => b = w1.heap.size + 1) (by omega) xA xA xA rfl xA (by first | assumption | rfl | (simp (disch := first | exact xD | fail) [-Option.bind_some, qs, -Aa, -Ab]; done)) f1 (o1.Aj fun b hb hbl => ?_) (fun b h => by simp only [In] at h; simp only [World.size_alloc, size_setRow]; omega) (O.empty (L := Gr) (mx := 2513169434916) (g := w1.heap.size + 1) (by first | assumption | rfl | (simp (disch := first | exact xD | fail) [-Option.bind_some, qs, -Aa, -Ab]; done))) (fun b h => by subst h; simp only [World.size_alloc, size_setRow]; omega) (Nat.le_refl 0) (fun x h => by simp at h) (by omega) (hr.ext xE) xM) ?_
 ·simp (disch := (first | omega | (simp only [World.size_alloc, size_setRow]; omega))) only [Ac, Ag]
 rintro r ⟨a', c', p', evs', h1, h2, h3, h4, h5, h6⟩
 exact hQ _ ⟨a', c', p', evs', h1, h2, h3, by omega, h5, h6⟩
theorem Q0 {B g p : Nat} (hp0 : p ≤ 400000000000) {w : World} (hr : R w B g p) :
  Ae (EV P 74 #[pt g 0] w) fun r => ∃ (m sN : Nat) (a : Option Addr) (c p' : Nat) (evs : List EventD), m < 4 ∧ sN ≤ 4 ∧ r.1 = .tuple #[i64 (1 + (m : Int)), i64 sN, .slice a evs.length c] ∧ O LP (fun b => w.heap.size ≤ b) r.2 [.slice a evs.length c] evs ∧ (∀ x ∈ evs, x.text.size ≤ 1000) ∧ p' ≤ 700000000000 ∧ R r.2 B g p' ∧ Mod (fun b => b = g) w r.2 := by
 have hl := hr.lt
 refine Ae.post fun Q hQ => ?_
 refine Ae.enter plain mixed (Kf _ _) (by kernel_rfl) (n := 1) (by kernel_rfl) rfl ?_
 simp (disch := first | exact xD | fail) [-Option.bind_some, -Aa, -Ab]
 refine Ae.bind (Am (k := 4) (by omega) (by omega) (by omega) hr) ?_
 rintro ⟨_, w1⟩ ⟨m, rfl, hm, R1, K1⟩
 try dsimp only at R1 K1
 have zK1 := K1.size
 simp (disch := first | exact xD | fail) [-Option.bind_some, qs, -Aa, -Ab]
 refine Ae.bind (Am (k := 4) (by omega) (by omega) (by omega) R1) ?_
 rintro ⟨_, w2⟩ ⟨m2, rfl, hm2, R2, K2⟩
 try dsimp only at R2 K2
 have zK2 := K2.size
 simp (disch := first | exact xD | fail) [-Option.bind_some, qs, -Aa, -Ab]
 refine Ae.bind (Bg (ints := [0, 20, 60, 120]) (k := 4) (by omega) (by omega) (by omega) rfl (At.nw rfl) (by omega) (R2.ext xE)) ?_
 rintro ⟨_, w3⟩ ⟨n, hn, rfl, R3, K3⟩
 try dsimp only at R3 K3
 have zK3 := K3.size
 simp only [World.size_alloc] at zK3
 obtain ⟨n', rfl, hn'⟩ : ∃ n' : Nat, n = (n' : Int) ∧ n' ≤ 120 := by
  simp only [List.mem_cons, List.not_mem_nil, or_false] at hn
  rcases hn with rfl | rfl | rfl | rfl
  ·exact ⟨0, rfl, by omega⟩
  ·exact ⟨20, rfl, by omega⟩
  ·exact ⟨60, rfl, by omega⟩
  ·exact ⟨120, rfl, by omega⟩
 have hes : (1 + (m2 : Int)) = ((1 + m2 : Nat) : Int) := by omega
 have N3 : Mod (fun b => b = g) w w3 := ((K1.tr K2).al _).tr K3
 simp (disch := first | exact xD | fail) [-Option.bind_some, -Aa, -Ab]
 rw [hes]
 refine Ae.bind (O7 (sN := 1 + m2) hm (by omega) hn' (by omega) R3) ?_
 rintro ⟨_, w4⟩ ⟨a', c', p', evs', rfl, h2, h3, h4, h5, h6⟩
 try dsimp only at h2 h5 h6
 simp (disch := first | exact xD | fail) [-Option.bind_some, -Aa, -Ab]
 exact hQ _ ⟨m, 1 + m2, a', c', p', evs', hm, by omega, rfl, h2.wide (fun b h _ => by omega), h3, h4, h5, N3.tr h6⟩
end Go.Proofs.YtjhhommnkaemlaaGreat.X
namespace Go.Proofs.YtjhhommnkaemlaaGreat.X
open Go Go.Ev Go.RowKit
attribute [local irreducible] World.alloc World.setRow Go.Ev.dw
theorem Sn {b6 b7 c n : Nat} {a : Option Addr} {Te : Nat → Prop} {evs : List EventD} {w0 : World} (hb6 : w0.heap.size ≤ b6) (hb67 : b6 < b7) (hD : D LP Te w0 [.slice a n c] evs) (hx : ∀ x ∈ evs, x.text.size ≤ 1000) :
  ∀ (d k : Nat) (e : Env) (W : World) (cs : List Value) (st : WorldD) (T : Nat → Prop), k + d = 60 → e 2 = .slice a n c → e 6 = pt b6 0 → e 7 = pt b7 0 → e 8 = i64 k → hp W b7 = some (.cells cs.toArray 77 (0, 0)) → hp W b6 = some (.cells #[.slice none 0 0, .slice none 0 0, .slice none 0 0, .slice none 0 0] 77 (0, 0)) →
   BF (16 * k) st → O tW T W cs st → (∀ b, T b → w0.heap.size ≤ b ∧ b < W.heap.size ∧ b ≠ b6 ∧ b ≠ b7) → Ext w0 W →
   Ae (De e W) fun r => ∃ (cs' : List Value) (st' : WorldD), r.1 = .agg cs'.toArray ∧ BF 1000 st' ∧ O tW (In w0.heap.size r.2.heap.size) r.2 cs' st' ∧ Ext w0 r.2 := by
 obtain ⟨rfl, hmx, _⟩ := hD.n
 intro d
 have out : ∀ (k : Nat) (W : World) (cs : List Value) (st : WorldD) (T : Nat → Prop) (Q : Value × World → Prop), k ≤ 60 → hp W b7 = some (.cells cs.toArray 77 (0, 0)) → BF (16 * k) st → O tW T W cs st → (∀ b, T b → w0.heap.size ≤ b ∧ b < W.heap.size ∧ b ≠ b6 ∧ b ≠ b7) → Ext w0 W →
   (∀ r, (∃ (cs' : List Value) (st' : WorldD), r.1 = .agg cs'.toArray ∧ BF 1000 st' ∧ O tW (In w0.heap.size r.2.heap.size) r.2 cs' st' ∧ Ext w0 r.2) → Q r) → Q (.agg cs.toArray, W.setRow b6 cs.toArray) := by
  intro k W cs st T Q hk X7 hf ho hT E0 hQ
  have zE0 := E0.size
  try simp only [qz] at zE0
  refine hQ _ ⟨_, _, rfl, hf.up (by omega), (ho.Aj fun b hb hbl => Ac (hT b hb).2.2.1).wide ?_, E0.set hb6 _⟩
  intro b hb hbl
  have := hT b hb
  simp only [In, size_setRow]
  omega
 induction d with
 | zero =>
  intro k e W cs st T hd e2 e6 e7 e8 X7 X6 hf ho hT E0
  have zE0 := E0.size
  try simp only [qz] at zE0
  rw [Fs]
  obtain rfl : k = 60 := by omega
  obtain ⟨u1, l1, d1, u2, l2, d2, u3, l3, d3, u4, l4, d4, rfl⟩ := ho.BX
  refine Ae.post fun Q hQ => ?_
  by_cases hl : 60 < evs.length
  ·simp (disch := first | exact xD | fail) [-Option.bind_some, -Aa, -Ab, qm, e2, e6, e7, e8, X6, X7, show (60 : Int) < evs.length by omega]
   exact out 60 W _ st T Q (by omega) X7 hf ho hT E0 hQ
  ·simp (disch := first | exact xD | fail) [-Option.bind_some, -Aa, -Ab, qm, e2, e6, e7, e8, X6, X7, show ¬ (60 : Int) < evs.length by omega]
   exact out 60 W _ st T Q (by omega) X7 hf ho hT E0 hQ
 | succ d ih =>
  intro k e W cs st T hd e2 e6 e7 e8 X7 X6 hf ho hT E0
  have zE0 := E0.size
  try simp only [qz] at zE0
  rw [Fs]
  have hk : k < 60 := by omega
  obtain ⟨u1, l1, d1, u2, l2, d2, u3, l3, d3, u4, l4, d4, rfl⟩ := ho.BX
  have zE0' := E0.size
  have y7 := Aq X7
  have y6 := Aq X6
  by_cases hl : k < evs.length
  ·obtain ⟨v, hv, _⟩ := Ak hl
   have hvx := hx v (List.mem_of_getElem? hv)
   obtain ⟨b5, o5, cs5, rfl, A5, D5, _, _⟩ := hD.at (by decide) hv
   obtain ⟨rfl, _⟩ := D.event.1 D5
   have y5 := A5.lt
   have t0 := A5 0 _ rfl
   have t1 := A5 1 _ rfl
   have t2 := A5 2 _ rfl
   have t3 := A5 3 _ rfl
   have t4 := A5 4 _ rfl
   have t5 := A5 5 _ rfl
   simp only [Nat.add_zero] at t0 t1 t2 t3 t4 t5
   simp only [RA] at t0 t1 t2 t3 t4 t5
   have nT : ∀ b, b < w0.heap.size ∨ b = b6 ∨ b = b7 ∨ W.heap.size ≤ b → ¬ T b := fun b h h' => by have := hT b h'; omega
   refine Ae.post fun Q hQ => ?_
   have jn : ∀ (e' : Env) (W' : World) (xb : Nat) (u5 : Option Addr) (l5 d5 : Nat) (u6 : Option Addr) (l6 d6 : Nat) (u7 : Option Addr) (l7 d7 : Nat) (u8 : Option Addr) (l8 d8 : Nat) (st' : WorldD) (T' : Nat → Prop), e' 2 = .slice (some ⟨b5, o5, none⟩) evs.length c → e' 6 = pt b6 0 → e' 7 = pt b7 0 → e' 8 = i64 k → e' 9 = pt xb 0 →
     hp W' xb = some (.cells #[.slice u5 l5 d5, .slice u6 l6 d6, .slice u7 l7 d7, .slice u8 l8 d8] 77 (0, 0)) → hp W' b7 = some (.cells #[.slice u1 l1 d1, .slice u2 l2 d2, .slice u3 l3 d3, .slice u4 l4 d4] 77 (0, 0)) → hp W' b6 = some (.cells #[.slice none 0 0, .slice none 0 0, .slice none 0 0, .slice none 0 0] 77 (0, 0)) →
     BF (16 * k + 16) st' → O tW T' W' [.slice u5 l5 d5, .slice u6 l6 d6, .slice u7 l7 d7, .slice u8 l8 d8] st' → (∀ b, T' b → w0.heap.size ≤ b ∧ b < W'.heap.size ∧ b ≠ b6 ∧ b ≠ b7) → Ext w0 W' → Ae (Df e' W') Q := by
    intro e' W' xb u5 l5 d5 u6 l6 d6 u7 l7 d7 u8 l8 d8 st' T' g2 g6 g7 g8 g9 Xx X7' X6' q2 q3 q4 q5
    rw [IG]
    simp (disch := first | exact xD | fail) [-Option.bind_some, qs, -Aa, -Ab, qm, g7, g8, g9, Xx, X7']
    exact Ae.mono (ih (k + 1) _ _ _ st' T' (by omega) xA xA xA xA (by first | assumption | rfl | (simp (disch := first | exact xD | fail) [-Option.bind_some, -Aa, -Ab, X7']; done)) ((Ac (by omega)).trans X6') (q2.up (by omega)) (q3.Aj fun b hb hbl => Ac (q4 b hb).2.2.2) (fun b hb => by have := q4 b hb; simp only [size_setRow]; exact this) (q5.set (by omega) _)) hQ
   simp (disch := first | exact xD | fail) [-Option.bind_some, -Aa, -Ab, e2, e8, show (k : Int) < 60 by omega, show (k : Int) < evs.length by omega]
   refine H2 _ _ ?_
   simp (disch := first | exact xD | fail) [-Option.bind_some, qs, -Aa, -Ab, e2, e7, e8, X7, Ua, E0.Ai, t0, t1, t2, t3, t4, t5]
   constructor
   ·refine Ae.mono (P4 (S := T) hf (by omega) hvx (ho.ext xE)) ?_
    rintro ⟨v2, w2⟩ ⟨cs', st', q, hv2, hq, f2, o2, M2⟩
    have zM2 := M2.size
    try simp only [qz] at zM2
    try dsimp only at hv2 o2 M2
    subst hv2
    have zM2 := M2.size
    simp only [Ad] at zM2 o2
    obtain ⟨u5, l5, d5, u6, l6, d6, u7, l7, d7, u8, l8, d8, rfl⟩ := o2.BX
    have K2 : ∀ b, b < W.heap.size → ¬ T b → hp w2 b = hp W b := fun b hb h => (M2.Ai b xB h).trans (BB _ _)
    have N7 := K2 b7 y7 (nT _ (by omega))
    have N6 := K2 b6 y6 (nT _ (by omega))
    have Nb := K2 b5 (by omega) (nT _ (.inl y5))
    have E2 : Ext w0 w2 := Mod.after (E0.tr (BJ W)) M2 (fun b h1 h2 => nT b (.inl h1) h2)
    have zE2 := E2.size
    try simp only [qz] at zE2
    simp (disch := first | exact xD | fail) [-Option.bind_some, qs, -Aa, -Ab, qm, N7, Nb, X7, E0.Ai, t0, t1, t2, t3, t4, t5]
    refine jn _ _ w2.heap.size _ _ _ _ _ _ _ _ _ _ _ _ st' (fun b => T b ∨ In W.heap.size w2.heap.size b) xA xA xA xA xA (by first | assumption | rfl | (simp (disch := first | exact xD | fail) [-Option.bind_some, qs, -Aa, -Ab]; done)) ?_ ?_ f2 (o2.Aj fun b hb hbl => (Ac (by omega)).trans (Ag hbl)) ?_ ((E2.al _).set (by omega) _)
    ·exact (Ac (by omega)).trans ((Ag (by omega)).trans (N7.trans X7))
    ·exact (Ac (by omega)).trans ((Ag (by omega)).trans (N6.trans X6))
    ·intro b hb
     simp only [World.size_alloc, size_setRow]
     rcases hb with h | h
     ·have := hT b h
      exact ⟨this.1, by omega, this.2.2⟩
     ·simp only [In] at h
      omega
   ·refine Ae.mono (P4 (S := T) hf (by omega) hvx (ho.ext xE)) ?_
    rintro ⟨v2, w2⟩ ⟨cs', st', q, hv2, hq, f2, o2, M2⟩
    have zM2 := M2.size
    try simp only [qz] at zM2
    try dsimp only at hv2 o2 M2
    subst hv2
    have zM2 := M2.size
    simp only [Ad, World.size_alloc] at zM2 o2
    obtain ⟨u5, l5, d5, u6, l6, d6, u7, l7, d7, u8, l8, d8, rfl⟩ := o2.BX
    have K2 : ∀ b, b < W.heap.size → ¬ T b → hp w2 b = hp W b := fun b hb h => (M2.Ai b xB h).trans ((Ag (by simp only [Ad]; omega)).trans (BB _ _))
    have N7 := K2 b7 y7 (nT _ (by omega))
    have N6 := K2 b6 y6 (nT _ (by omega))
    have Nb := K2 b5 (by omega) (nT _ (.inl y5))
    have Nx : hp w2 W.heap.size = some (.cells #[.slice none 0 0, .slice none 0 0, .slice none 0 0, .slice none 0 0] 77 (0, 0)) := (M2.Ai _ xB (nT _ (by omega))).trans (by first | assumption | rfl | (simp (disch := first | exact xD | fail) [-Option.bind_some, qs, -Aa, -Ab]; done))
    have E2 : Ext w0 w2 := Mod.after ((E0.tr (BJ W)).al _) M2 (fun b h1 h2 => nT b (.inl h1) h2)
    have zE2 := E2.size
    try simp only [qz] at zE2
    simp (disch := first | exact xD | fail) [-Option.bind_some, qs, -Aa, -Ab, qm, Nx]
    refine jn _ _ W.heap.size _ _ _ _ _ _ _ _ _ _ _ _ st' (fun b => T b ∨ In (W.heap.size + 1) w2.heap.size b) xA xA xA xA xA (by first | assumption | rfl | (simp (disch := first | exact xD | fail) [-Option.bind_some, -Aa, -Ab, Nx]; done)) ?_ ?_ f2 (o2.Aj fun b hb hbl => Ac ?_) ?_ (E2.set (by omega) _)
    ·exact (Ac (by omega)).trans (N7.trans X7)
    ·exact (Ac (by omega)).trans (N6.trans X6)
    ·rcases hb with h | h
     ·have := hT b h; omega
     ·simp only [In] at h; omega
    ·intro b hb
     simp only [size_setRow]
     rcases hb with h | h
     ·have := hT b h
      exact ⟨this.1, by omega, this.2.2⟩
     ·simp only [In] at h
      omega
  ·refine Ae.post fun Q hQ => ?_
   simp (disch := first | exact xD | fail) [-Option.bind_some, -Aa, -Ab, qm, e2, e6, e7, e8, X6, X7, show ¬ (k : Int) < evs.length by omega]
   exact out k W _ st T Q (by omega) X7 hf ho hT E0 hQ
theorem So {m sN n c : Nat} {a : Option Addr} {Te : Nat → Prop} {evs : List EventD} {w : World} (hm : m < 4) (hsN : sN ≤ 4) (hD : D LP Te w [.slice a n c] evs) (hx : ∀ x ∈ evs, x.text.size ≤ 1000) :
  Ae (EV P 76 #[i64 (1 + (m : Int)), i64 sN, .slice a n c] w) fun r => ∃ (cs' : List Value) (st' : WorldD), r.1 = .agg cs'.toArray ∧ BF 1000 st' ∧ O tW (In w.heap.size r.2.heap.size) r.2 cs' st' ∧ Ext w r.2 := by
 refine Ae.post fun Q hQ => ?_
 refine Ae.enter plain mixed (La _ _ _ _) (by kernel_rfl) (n := 3) (by kernel_rfl) rfl ?_
 simp (disch := first | exact xD | fail) [-Option.bind_some, qs, -Aa, -Ab]
 refine Ae.bind (Qu hm hsN) ?_
 rintro ⟨_, w1⟩ ⟨cs, st, rfl, f1, o1, E1⟩
 try dsimp only at cs st f1 o1 E1
 have zE1 := E1.size
 try simp only [qz] at zE1
 obtain ⟨u5, l5, d5, u6, l6, d6, u7, l7, d7, u8, l8, d8, rfl⟩ := o1.BX
 simp only [World.size_alloc] at o1
 have N6 : hp w1 w.heap.size = some (.cells #[.slice none 0 0, .slice none 0 0, .slice none 0 0, .slice none 0 0] 77 (0, 0)) := (E1.Ai xB).trans (by first | assumption | rfl | (simp (disch := first | exact xD | fail) [-Option.bind_some, qs, -Aa, -Ab]; done))
 simp (disch := first | exact xD | fail) [-Option.bind_some, -Aa, -Ab, qm]
 refine Ae.mono (Sn (b6 := w.heap.size) (b7 := w1.heap.size) (w0 := w) (Nat.le_refl _) (by omega) hD hx 60 0 _ _ _ st (In (w.heap.size + 1) w1.heap.size) (by omega) rfl rfl rfl xA (by first | assumption | rfl | (simp (disch := first | exact xD | fail) [-Option.bind_some, qs, -Aa, -Ab]; done)) ((Ac (by omega)).trans ((Ag (by omega)).trans N6)) f1 (o1.Aj fun b hb hbl => (Ac (by omega)).trans (Ag hbl)) (fun b h => by simp only [In] at h; simp only [World.size_alloc, size_setRow]; omega) xE) hQ
end Go.Proofs.YtjhhommnkaemlaaGreat.X
namespace Go.Proofs.YtjhhommnkaemlaaGreat.X
open Go Go.Ev Go.RowKit
theorem Sq {a : Option Addr} {c : Nat} {S : Nat → Prop} {xs : List Ver} {w0 : World} (hD : D AQ S w0 [.slice a xs.length c] xs) :
  ∀ (d k : Nat) (e : Env) (W : World) (a' : Option Addr) (c' : Nat), k + d = xs.length → e 0 = .slice a xs.length c → e 3 = .slice a' k c' → e 4 = i64 k → O AQ (In w0.heap.size W.heap.size) W [.slice a' k c'] (xs.take k) → Ext w0 W →
   Ae (C6 e W) fun r => ∃ (a2 : Option Addr) (c2 : Nat), r.1 = .slice a2 xs.length c2 ∧ O AQ (In w0.heap.size r.2.heap.size) r.2 [.slice a2 xs.length c2] xs ∧ Ext w0 r.2 := by
 have hmx := hD.n.2.1
 intro d
 induction d with
 | zero =>
  intro k e W a' c' hd e0 e3 e4 oo E0
  have zE0 := E0.size
  try simp only [qz] at zE0
  rw [Fh]
  obtain rfl : k = xs.length := by omega
  rw [List.take_length] at oo
  refine Ae.post fun Q hQ => ?_
  simp (disch := first | exact xD | fail) [-Option.bind_some, qs, -Aa, -Ab, qm, e0, e3, e4, E0.Ai]
  exact hQ _ ⟨_, _, rfl, oo, E0⟩
 | succ d ih =>
  intro k e W a' c' hd e0 e3 e4 oo E0
  have zE0 := E0.size
  try simp only [qz] at zE0
  rw [Fh]
  have hlt : k < xs.length := by omega
  obtain ⟨v, hv, _⟩ := Ak hlt
  obtain ⟨b5, o5, cs5, rfl, A5, D5, _, _⟩ := hD.at (by decide) hv
  have D5' := D5
  obtain ⟨av, cv, rfl, _, _⟩ := D.BV.1 D5'
  have t0 := A5 0 _ rfl
  have t1 := A5 1 _ rfl
  have t2 := A5 2 _ rfl
  have t3 := A5 3 _ rfl
  have t4 := A5 4 _ rfl
  have t5 := A5 5 _ rfl
  simp only [Bw, DK, Bd, Nat.add_zero] at t0 t1 t2 t3 t4 t5
  have htk : (xs.take k).length = k := by rw [List.length_take]; omega
  refine Ae.post fun Q hQ => ?_
  simp (disch := first | exact xD | fail) [-Option.bind_some, qs, -Aa, -Ab, qm, e0, e3, e4, hlt, BP, E0.Ai, t0, t1, t2, t3, t4, t5]
  refine Ae.bind (AX (D5.ext xE)) ?_
  rintro ⟨_, w1⟩ ⟨ds, rfl, o2, E1⟩
  try dsimp only at ds o2 E1
  have zE1 := E1.size
  try simp only [qz] at zE1
  have zo2 := O.BV.1 o2
  obtain ⟨a5, c5, rfl, _, _⟩ := zo2
  have zE0' := E0.size
  simp (disch := first | exact xD | fail) [-Option.bind_some, qs, -Aa, -Ab, qm, e0, e3, e4, E0.Ai, hlt, t0, t1, t2, t3, t4, t5, E1.Ai]
  refine Ae.bind (O.app (L := BW) (mx := 1954687338211) (xs := xs.take k) (x := v) (cs := [i64 v.key, i64 v.tag.t, i64 v.tag.p, .slice a5 v.past.length c5, .string v.text, .bool v.gone]) CP Fw rfl (by decide) (oo.ext (E1.al _)) (o2.Aj fun b hb hbl => Ag hbl) (fun b hb h1 h2 => by simp only [In] at h1 h2; omega) (At.nw rfl) (by omega) (by decide) (by decide)) ?_
  rintro ⟨_, w3⟩ ⟨a8, c8, rfl, o8, M8⟩
  have zM8 := M8.size
  try simp only [qz] at zM8
  try dsimp only at o8 M8
  have zM8 := M8.size
  simp only [World.size_alloc] at zM8 o8
  have F3 : Ext w0 w3 := Mod.after ((E0.tr E1).al _) M8 (fun b h1 h2 => by simp only [In] at h2; omega)
  have hts : xs.take k ++ [v] = xs.take (k + 1) := by rw [List.take_add_one, hv]; rfl
  rw [htk, hts] at o8
  rw [htk]
  simp (disch := first | exact xD | fail) [-Option.bind_some, qs, -Aa, -Ab, qm, e4, e0, e3, E0.Ai, hlt, t0, t1, t2, t3, t4, t5, E1.Ai, M8.Ai]
  exact Ae.mono (ih (k + 1) _ w3 a8 c8 (by omega) xA xA xA (o8.wide fun b hb hbl => by simp only [In] at hb ⊢; omega) F3) hQ
theorem I8 {a : Option Addr} {n c : Nat} {S : Nat → Prop} {xs : List Ver} {w : World} (hD : D AQ S w [.slice a n c] xs) :
  Ae (EV P 112 #[.slice a n c] w) fun r => ∃ (a2 : Option Addr) (c2 : Nat), r.1 = .slice a2 xs.length c2 ∧ O AQ (In w.heap.size r.2.heap.size) r.2 [.slice a2 xs.length c2] xs ∧ Ext w r.2 := by
 obtain ⟨rfl, _⟩ := hD.n
 refine Ae.post fun Q hQ => ?_
 refine Ae.enter plain mixed (KO _ _) (by kernel_rfl) (n := 1) (by kernel_rfl) rfl ?_
 simp (disch := first | exact xD | fail) [-Option.bind_some, -Aa, -Ab]
 exact Ae.mono (Sq hD xs.length 0 _ _ _ _ (by omega) rfl rfl rfl ((O.empty (L := BW) (mx := 1954687338211) (g := w.heap.size) (by first | assumption | rfl | (simp (disch := first | exact xD | fail) [-Option.bind_some, qs, -Aa, -Ab]; done))).wide fun b hb hbl => by subst hb; simp only [In, World.size_alloc]; omega) xE) hQ
theorem Sr {a2 : Option Addr} {c2 g1 g2 g3 : Nat} {S : Nat → Prop} {p : PlaceD} {acl al0 : Value} {a0 al1 : Option Addr} {c0 cl1 : Nat} {v0 v1 v2 v3 v5 : Value} {w0 w1 : World} {T : Nat → Prop} (hD : D PD S w0 [.slice a2 p.Bu.length c2] p.Bu) (hg : w0.heap.size ≤ g1 ∧ w0.heap.size ≤ g2 ∧ w0.heap.size ≤ g3) (hne : g1 ≠ g2 ∧ g1 ≠ g3 ∧ g2 ≠ g3) (hz : g1 < w1.heap.size ∧ g2 < w1.heap.size ∧ g3 < w1.heap.size) (E01 : Ext w0 w1) (hc4 : p.chain.length ≤ 1000) :
  ∀ (d k : Nat) (e : Env) (W : World) (a' : Option Addr) (c' : Nat), k + d = p.Bu.length → e 1 = pt g1 0 → e 2 = pt g2 0 → e 3 = pt g3 0 → e 4 = i64 k →
   hp W g1 = some (.cells #[i64 p.me, i64 p.clock, .slice a0 p.chain.length c0, .slice al1 p.log.length cl1, .slice a2 p.Bu.length c2, .bool p.fell] 84 (0, 0)) → hp W g2 = some (.cells #[i64 0, i64 0, .slice none 0 0, .slice none 0 0, .slice none 0 0, .bool false] 84 (0, 0)) →
   (∃ (a5 : Option Addr) (c5 : Nat) (a6 : Option Addr) (c6 : Nat) (S1 S2 : Nat → Prop), hp W g3 = some (.cells #[i64 p.me, i64 p.clock, .slice a5 p.chain.length c5, .slice a6 p.log.length c6, .slice a' k c', .bool p.fell] 84 (0, 0)) ∧ O AV S1 W [.slice a5 p.chain.length c5] p.chain ∧ O AQ S2 W [.slice a6 p.log.length c6] p.log ∧
    (∀ b, S1 b → w0.heap.size ≤ b ∧ b < w1.heap.size ∧ b ≠ g1 ∧ b ≠ g2 ∧ b ≠ g3) ∧ (∀ b, S2 b → w0.heap.size ≤ b ∧ b < w1.heap.size ∧ b ≠ g1 ∧ b ≠ g2 ∧ b ≠ g3) ∧ (∀ b, S1 b → ¬ S2 b)) →
   O PD (In w1.heap.size W.heap.size) W [.slice a' k c'] (p.Bu.take k) → Ext w0 W → w1.heap.size ≤ W.heap.size →
   Ae (Di e W) fun r => ∃ cs', r.1 = .agg cs'.toArray ∧ O Jf (In w0.heap.size r.2.heap.size) r.2 cs' p ∧ Ext w0 r.2 := by
 have hmx := hD.n.2.1
 intro d
 induction d with
 | zero =>
  intro k e W a' c' hd e1 e2 e3 e4 X1 X2 hx oo E0 hzW
  have zE0 := E0.size
  try simp only [qz] at zE0
  obtain ⟨a5, c5, a6, c6, S1, S2, X3, o1, o2, k1, k2, k12⟩ := hx
  rw [Fu]
  obtain rfl : k = p.Bu.length := by omega
  rw [List.take_length] at oo
  refine Ae.post fun Q hQ => ?_
  simp (disch := first | exact xD | fail) [-Option.bind_some, qs, -Aa, -Ab, qm, e1, e2, e3, e4, X1, X2, X3, E0.Ai]
  refine hQ _ ⟨_, rfl, (O.DY (p := p) (S1 := S1) (S2 := S2) (S3 := In w1.heap.size W.heap.size) (o1.Aj fun b hb hbl => Ac (k1 b hb).2.2.2.1) (o2.Aj fun b hb hbl => Ac (k2 b hb).2.2.2.1) (oo.Aj fun b hb hbl => Ac (by simp only [In] at hb; omega)) (fun b _ h => k12 b h) (fun b _ h h' => by have := k1 b h; simp only [In] at h'; omega) (fun b _ h h' => by have := k2 b h; simp only [In] at h'; omega)).wide ?_, E0.set hg.2.1 _⟩
  intro b hb hbl
  simp only [In, size_setRow] at hbl ⊢
  rcases hb with h | h | h
  ·have := k1 b h; omega
  ·have := k2 b h; omega
  ·simp only [In] at h; have := E01.size; omega
 | succ d ih =>
  intro k e W a' c' hd e1 e2 e3 e4 X1 X2 hx oo E0 hzW
  have zE0 := E0.size
  try simp only [qz] at zE0
  obtain ⟨a5, c5, a6, c6, S1, S2, X3, o1, o2, k1, k2, k12⟩ := hx
  rw [Fu]
  have hlt : k < p.Bu.length := by omega
  obtain ⟨l, hl, _⟩ := Ak hlt
  obtain ⟨b5, o5, cs5, rfl, A5, D5, _, _⟩ := hD.at (by decide) hl
  obtain ⟨av, cv, rfl, D6⟩ := D5.Gn
  have t0 := A5 0 _ rfl
  simp only [Bw, DK, Bd, Nat.add_zero] at t0
  simp only [Gx, Nat.mul_one] at t0
  have htk : (p.Bu.take k).length = k := by rw [List.length_take]; omega
  have y1 := Aq X1
  have y2 := Aq X2
  have y3 := Aq X3
  refine Ae.post fun Q hQ => ?_
  simp (disch := first | exact xD | fail) [-Option.bind_some, qs, -Aa, -Ab, qm, e1, e2, e3, e4, X1, X2, X3, hlt, HM, E0.Ai, t0]
  refine Ae.bind (I8 (D6.ext xE)) ?_
  rintro ⟨_, w2⟩ ⟨a9, c9, rfl, o9, E1⟩
  try dsimp only at a9 c9 o9 E1
  have zE1 := E1.size
  try simp only [qz] at zE1
  simp only [Ad] at zE1 o9
  have F1 : Ext W w2 := xE
  have N1 := (F1.Ai y1).trans X1
  have N2 := (F1.Ai y2).trans X2
  have N3 := (F1.Ai y3).trans X3
  simp (disch := first | exact xD | fail) [-Option.bind_some, qs, -Aa, -Ab, qm, N1, N2, N3, e1, e2, e3, e4, X1, X2, E0.Ai, X3, hlt, t0, E1.Ai]
  refine Ae.bind (O.app (L := AQ) (mx := 5864062014805) (xs := p.Bu.take k) (x := l) (cs := [.slice a9 l.length c9]) Ql RR rfl (by decide) (oo.ext (F1.al _)) (o9.Aj fun b hb hbl => Ag hbl) (fun b hb h1 h2 => by simp only [In] at h1 h2; omega) (At.nw rfl) (by omega) (by decide) (by decide)) ?_
  rintro ⟨_, w3⟩ ⟨a8, c8, rfl, o8, M8⟩
  have zM8 := M8.size
  try simp only [qz] at zM8
  try dsimp only at o8 M8
  have zM8 := M8.size
  simp only [World.size_alloc] at zM8 o8
  have k8 : ∀ b, b < w1.heap.size → hp w3 b = hp W b := fun b hb => (M8.Ai b xB (fun h => by simp only [In] at h; omega)).trans ((Ag (by omega)).trans (F1.Ai (by omega)))
  have hz01 := E01.size
  have F3 : Ext w0 w3 := Mod.after ((E0.tr F1).al _) M8 (fun b h1 h2 => by simp only [In] at h2; omega)
  have hts : p.Bu.take k ++ [l] = p.Bu.take (k + 1) := by rw [List.take_add_one, hl]; rfl
  rw [htk, hts] at o8
  rw [htk]
  have L1 := (k8 g1 hz.1).trans X1
  have L2 := (k8 g2 hz.2.1).trans X2
  have L3 := (k8 g3 hz.2.2).trans X3
  simp (disch := first | exact xD | fail) [-Option.bind_some, qs, -Aa, -Ab, qm, L3, e4, e1, e2, e3, X1, X2, E0.Ai, X3, hlt, t0, E1.Ai, M8.Ai]
  refine Ae.mono (ih (k + 1) _ _ a8 c8 (by omega) xA xA xA xA ((Ac hne.2.1).trans L1) ((Ac hne.2.2).trans L2) ⟨a5, c5, a6, c6, S1, S2, (by first | assumption | rfl | (simp (disch := first | exact xD | fail) [-Option.bind_some, qs, -Aa, -Ab, qm, L3, e1, e2, e3, e4, X1, X2, E0.Ai, X3, hlt, t0, E1.Ai, M8.Ai]; done)), o1.Aj fun b hb _ => (Ac (k1 b hb).2.2.2.2).trans (k8 b (k1 b hb).2.1), o2.Aj fun b hb _ => (Ac (k2 b hb).2.2.2.2).trans (k8 b (k2 b hb).2.1), k1, k2, k12⟩ ((o8.Aj fun b hb hbl => Ac ?_).wide ?_) (F3.set hg.2.2 _) (by simp only [size_setRow]; omega)) hQ
  ·rcases hb with h | h | h
   ·simp only [In] at h; omega
   ·simp only [In] at h; omega
   ·omega
  ·intro b hb hbl
   simp only [In, size_setRow] at hb hbl ⊢
   omega
theorem Su {M : Nat} {S : Nat → Prop} {cs : List Value} {p : PlaceD} {w : World} (hD : D Jf S w cs p) (hc4 : p.chain.length ≤ 1000) :
  Ae (EV P 97 #[.agg cs.toArray] w) fun r => ∃ cs', r.1 = .agg cs'.toArray ∧ O Jf (In w.heap.size r.2.heap.size) r.2 cs' p ∧ Ext w r.2 := by
 obtain ⟨a0, c0, al1, cl1, a2, c2, rfl, q1, q2, q3⟩ := D.place.1 hD
 have hgn := q3.n
 refine Ae.post fun Q hQ => ?_
 refine Ae.enter plain mixed (Ld _ _) (by kernel_rfl) (n := 1) (by kernel_rfl) rfl ?_
 simp (disch := first | exact xD | fail) [-Option.bind_some, -Aa, -Ab]
 refine H4 _ _ ?_
 simp (disch := first | exact xD | fail) [-Option.bind_some, qs, -Aa, -Ab]
 have J : ∀ (e' : Env) (W : World) (a5 : Option Addr) (c5 : Nat) (a6 : Option Addr) (c6 g3 : Nat) (S1 S2 : Nat → Prop), e' 1 = pt w.heap.size 0 → e' 2 = pt (w.heap.size + 1) 0 → e' 3 = pt g3 0 → w.heap.size + 2 ≤ g3 → hp W w.heap.size = some (.cells #[i64 p.me, i64 p.clock, .slice a0 p.chain.length c0, .slice al1 p.log.length cl1, .slice a2 p.Bu.length c2, .bool p.fell] 84 (0, 0)) → hp W (w.heap.size + 1) = some (.cells #[i64 0, i64 0, .slice none 0 0, .slice none 0 0, .slice none 0 0, .bool false] 84 (0, 0)) →
   hp W g3 = some (.cells #[i64 p.me, i64 p.clock, .slice a5 p.chain.length c5, .slice a6 p.log.length c6, .slice none 0 0, .bool p.fell] 84 (0, 0)) → O AV S1 W [.slice a5 p.chain.length c5] p.chain → O AQ S2 W [.slice a6 p.log.length c6] p.log → (∀ b, S1 b → w.heap.size + 2 ≤ b ∧ b < W.heap.size ∧ b ≠ g3) → (∀ b, S2 b → w.heap.size + 2 ≤ b ∧ b < W.heap.size ∧ b ≠ g3) → (∀ b, S1 b → ¬ S2 b) → Ext w W → Ae (Cm e' W) Q := by
  intro e' W a5 c5 a6 c6 g3 S1 S2 e1 e2 e3 hg3 X1 X2 X3 o1 o2 k1 k2 k12 E0
  have zE0 := E0.size
  try simp only [qz] at zE0
  have y1 := Aq X1
  have y2 := Aq X2
  have y3 := Aq X3
  rw [IL]
  simp (disch := first | exact xD | fail) [-Option.bind_some, -Aa, -Ab]
  exact Ae.mono (Sr (w0 := w) (w1 := W) (g1 := w.heap.size) (g2 := w.heap.size + 1) (g3 := g3) (T := S1) (acl := i64 0) (al0 := i64 0) (v0 := i64 0) (v1 := i64 0) (v2 := i64 0) (v3 := i64 0) (v5 := i64 0) (a0 := a0) (c0 := c0) (al1 := al1) (cl1 := cl1) q3 (by omega) (by omega) ⟨y1, y2, y3⟩ E0 hc4 p.Bu.length 0 _ W none 0 (by omega) xA xA xA rfl X1 X2 ⟨a5, c5, a6, c6, S1, S2, X3, o1, o2, fun b h => by have := k1 b h; omega, fun b h => by have := k2 b h; omega, k12⟩ O.nil E0 (Nat.le_refl _)) hQ
 refine ⟨?_, ?_⟩
 ·skip
  refine Ae.mono (HO (q1.ext xE)) ?_
  rintro ⟨_, w1⟩ ⟨a5, c5, rfl, o1, E1⟩
  try dsimp only at a5 c5 o1 E1
  have zE1 := E1.size
  try simp only [qz] at zE1
  try simp only [Ad, World.size_alloc] at zE1 o1
  simp (disch := first | exact xD | fail) [-Option.bind_some, qs, -Aa, -Ab, E1.Ai]
  refine ⟨?_, ?_⟩
  ·skip
   refine Ae.mono (I8 (q2.ext xE)) ?_
   rintro ⟨_, w2⟩ ⟨a6, c6, rfl, o2, E2⟩
   try dsimp only at a6 c6 o2 E2
   have zE2 := E2.size
   try simp only [qz] at zE2
   try simp only [Ad, World.size_alloc] at zE2 o2
   have F2 : Ext w w2 := xE
   simp (disch := first | exact xD | fail) [-Option.bind_some, qs, -Aa, -Ab, qm, E1.Ai, E2.Ai]
   refine J _ _ a5 c5 a6 c6 (w2.heap.size) (In (w.heap.size + 1 + 1) w1.heap.size) (In (w1.heap.size) w2.heap.size) xA xA xA (by omega) (by first | assumption | rfl | (simp (disch := first | exact xD | fail) [-Option.bind_some, qs, -Aa, -Ab, E1.Ai, E2.Ai]; done)) (by first | assumption | rfl | (simp (disch := first | exact xD | fail) [-Option.bind_some, qs, -Aa, -Ab, E1.Ai, E2.Ai]; done)) (by first | assumption | rfl | (simp (disch := first | exact xD | fail) [-Option.bind_some, qs, -Aa, -Ab]; done)) ?_ ?_ ?_ ?_ (fun b h h' => by simp only [In] at h h'; omega) xE
   ·exact (o1.Aj fun b hb hbl => by simp only [In] at hb; exact ((Ac (by omega)).trans (Ag (by omega))).trans (E2.Ai (by omega))).wide fun b h _ => h
   ·exact (o2.Aj fun b hb hbl => by simp only [In] at hb; exact (Ac (by omega)).trans (Ag (by omega))).wide fun b h _ => h
   ·intro b h
    simp only [In] at h
    (try simp only [World.size_alloc, size_setRow]); omega
   ·intro b h
    simp only [In] at h
    (try simp only [World.size_alloc, size_setRow]); omega
  ·skip
   refine Ae.mono (I8 (q2.ext xE)) ?_
   rintro ⟨_, w2⟩ ⟨a6, c6, rfl, o2, E2⟩
   try dsimp only at a6 c6 o2 E2
   have zE2 := E2.size
   try simp only [qz] at zE2
   try simp only [World.size_alloc] at zE2 o2
   have F2 : Ext w w2 := xE
   have N3 : hp w2 (w1.heap.size) = some (.cells #[i64 0, i64 0, .slice none 0 0, .slice none 0 0, .slice none 0 0, .bool false] 84 (0, 0)) := (by first | assumption | rfl | (simp (disch := first | exact xD | fail) [-Option.bind_some, qs, -Aa, -Ab, E2.Ai]; done))
   simp (disch := first | exact xD | fail) [-Option.bind_some, qs, -Aa, -Ab, qm, N3, E1.Ai, E2.Ai]
   refine J _ _ a5 c5 a6 c6 (w1.heap.size) (In (w.heap.size + 1 + 1) w1.heap.size) (In (w1.heap.size + 1) w2.heap.size) xA xA xA (by omega) (by first | assumption | rfl | (simp (disch := first | exact xD | fail) [-Option.bind_some, qs, -Aa, -Ab, E1.Ai, E2.Ai]; done)) (by first | assumption | rfl | (simp (disch := first | exact xD | fail) [-Option.bind_some, qs, -Aa, -Ab, E1.Ai, E2.Ai]; done)) (by first | assumption | rfl | (simp (disch := first | exact xD | fail) [-Option.bind_some, -Aa, -Ab, N3]; done)) ?_ ?_ ?_ ?_ (fun b h h' => by simp only [In] at h h'; omega) xE
   ·exact (o1.Aj fun b hb hbl => by simp only [In] at hb; exact (Ac (by omega)).trans ((E2.Ai (by simp only [World.size_alloc]; omega)).trans (Ag (by omega)))).wide fun b h _ => h
   ·exact (o2.Aj fun b hb hbl => by simp only [In] at hb; exact Ac (by omega)).wide fun b h _ => h
   ·intro b h
    simp only [In] at h
    (try simp only [size_setRow]); omega
   ·intro b h
    simp only [In] at h
    (try simp only [size_setRow]); omega
 ·skip
  refine Ae.mono (HO (q1.ext xE)) ?_
  rintro ⟨_, w1⟩ ⟨a5, c5, rfl, o1, E1⟩
  try dsimp only at a5 c5 o1 E1
  have zE1 := E1.size
  try simp only [qz] at zE1
  try simp only [Ad, World.size_alloc] at zE1 o1
  simp (disch := first | exact xD | fail) [-Option.bind_some, qs, -Aa, -Ab, E1.Ai]
  refine Ae.mono (I8 (q2.ext xE)) ?_
  rintro ⟨_, w2⟩ ⟨a6, c6, rfl, o2, E2⟩
  try dsimp only at a6 c6 o2 E2
  have zE2 := E2.size
  try simp only [qz] at zE2
  try simp only [Ad, World.size_alloc] at zE2 o2
  have F2 : Ext w w2 := xE
  have N3 : hp w2 (w.heap.size + 1 + 1) = some (.cells #[i64 0, i64 0, .slice none 0 0, .slice none 0 0, .slice none 0 0, .bool false] 84 (0, 0)) := (by first | assumption | rfl | (simp (disch := first | exact xD | fail) [-Option.bind_some, qs, -Aa, -Ab, E1.Ai, E2.Ai]; done))
  simp (disch := first | exact xD | fail) [-Option.bind_some, qs, -Aa, -Ab, qm, N3, E1.Ai, E2.Ai]
  refine J _ _ a5 c5 a6 c6 (w.heap.size + 1 + 1) (In (w.heap.size + 1 + 1 + 1) w1.heap.size) (In (w1.heap.size) w2.heap.size) xA xA xA (by omega) (by first | assumption | rfl | (simp (disch := first | exact xD | fail) [-Option.bind_some, qs, -Aa, -Ab, E1.Ai, E2.Ai]; done)) (by first | assumption | rfl | (simp (disch := first | exact xD | fail) [-Option.bind_some, qs, -Aa, -Ab, E1.Ai, E2.Ai]; done)) (by first | assumption | rfl | (simp (disch := first | exact xD | fail) [-Option.bind_some, -Aa, -Ab, N3]; done)) ?_ ?_ ?_ ?_ (fun b h h' => by simp only [In] at h h'; omega) xE
  ·exact (o1.Aj fun b hb hbl => by simp only [In] at hb; exact (Ac (by omega)).trans (E2.Ai (by omega))).wide fun b h _ => h
  ·exact (o2.Aj fun b hb hbl => by simp only [In] at hb; exact Ac (by omega)).wide fun b h _ => h
  ·intro b h
   simp only [In] at h
   (try simp only [size_setRow]); omega
  ·intro b h
   simp only [In] at h
   (try simp only [size_setRow]); omega
theorem Sy {g1 g2 g3 : Nat} {a1 a2 a3 a4 b1 b2 b4 : Option Addr} {c1 c2 c3 c4 n1 n2 n4 d1 d2 d4 m1 m2 m4 : Nat} {S T1 T2 T4 : Nat → Prop} {st : WorldD} {w0 W3 : World} (hD : D (Er 36 131) S w0 [.slice a3 st.net.length c3] st.net) (hg : w0.heap.size ≤ g1 ∧ w0.heap.size ≤ g2 ∧ w0.heap.size ≤ g3) (hne : g1 ≠ g2 ∧ g1 ≠ g3 ∧ g2 ≠ g3) (hz : g1 < W3.heap.size ∧ g2 < W3.heap.size ∧ g3 < W3.heap.size) (E03 : Ext w0 W3)
  (Pt : Tt W3 ⟨st.places, st.Ar, [], st.AE⟩ (.slice b1 m1 d1) (.slice b2 m2 d2) (.slice none 0 0) (.slice b4 m4 d4) T1 T2 (fun _ => False) T4) (hT : ∀ b, T1 b ∨ T2 b ∨ T4 b → w0.heap.size ≤ b ∧ b < W3.heap.size ∧ b ≠ g2 ∧ b ≠ g3) :
  ∀ (d k : Nat) (e : Env) (W : World) (a' : Option Addr) (c' : Nat), k + d = st.net.length → e 1 = pt g1 0 → e 2 = pt g2 0 → e 3 = pt g3 0 → e 7 = i64 k →
   hp W g1 = some (.cells #[.slice a1 n1 c1, .slice a2 n2 c2, .slice a3 st.net.length c3, .slice a4 n4 c4] 77 (0, 0)) → hp W g2 = some (.cells #[.slice none 0 0, .slice none 0 0, .slice none 0 0, .slice none 0 0] 77 (0, 0)) → hp W g3 = some (.cells #[.slice b1 m1 d1, .slice b2 m2 d2, .slice a' k c', .slice b4 m4 d4] 77 (0, 0)) →
   (∀ b, b < W3.heap.size → b ≠ g3 → hp W b = hp W3 b) → O (Er 36 131) (In W3.heap.size W.heap.size) W [.slice a' k c'] (st.net.take k) → Ext w0 W → W3.heap.size ≤ W.heap.size →
   Ae (Dd e W) fun r => ∃ cs', r.1 = .agg cs'.toArray ∧ O tW (In w0.heap.size r.2.heap.size) r.2 cs' st ∧ Ext w0 r.2 := by
 have hmx := hD.n.2.1
 intro d
 induction d with
 | zero =>
  intro k e W a' c' hd e1 e2 e3 e7 X1 X2 X3 hk oo E0 hzW
  have zE0 := E0.size
  try simp only [qz] at zE0
  rw [Fq]
  obtain rfl : k = st.net.length := by omega
  rw [List.take_length] at oo
  refine Ae.post fun Q hQ => ?_
  simp (disch := first | exact xD | fail) [-Option.bind_some, qs, -Aa, -Ab, qm, e1, e2, e3, e7, X1, X2, X3, E0.Ai]
  have P2 : Tt W st (.slice b1 m1 d1) (.slice b2 m2 d2) (.slice a' st.net.length c') (.slice b4 m4 d4) T1 T2 (In W3.heap.size W.heap.size) T4 :=
   ⟨Pt.o1.Aj fun b hb _ => hk b (hT b (.inl hb)).2.1 (hT b (.inl hb)).2.2.2, Pt.o2.Aj fun b hb _ => hk b (hT b (.inr (.inl hb))).2.1 (hT b (.inr (.inl hb))).2.2.2, oo, Pt.o4.Aj fun b hb _ => hk b (hT b (.inr (.inr hb))).2.1 (hT b (.inr (.inr hb))).2.2.2,
    fun b _ q q' => Pt.d12 b (hT b (.inl q)).2.1 q q', fun b _ q q' => by have := hT b (.inl q); simp only [In] at q'; omega, fun b _ q q' => Pt.d14 b (hT b (.inl q)).2.1 q q',
    fun b _ q q' => by have := hT b (.inr (.inl q)); simp only [In] at q'; omega, fun b _ q q' => Pt.d24 b (hT b (.inr (.inl q))).2.1 q q', fun b _ q q' => by have := hT b (.inr (.inr q')); simp only [In] at q; omega⟩
  refine hQ _ ⟨_, rfl, (P2.mk'.Aj fun b hb hbl => Ac ?_).wide ?_, E0.set hg.2.1 _⟩
  ·rcases hb with h | h | h | h
   ·exact (hT b (.inl h)).2.2.1
   ·exact (hT b (.inr (.inl h))).2.2.1
   ·simp only [In] at h; omega
   ·exact (hT b (.inr (.inr h))).2.2.1
  ·intro b hb hbl
   have := E03.size
   simp only [In, size_setRow] at hbl ⊢
   rcases hb with h | h | h | h
   ·have := hT b (.inl h); omega
   ·have := hT b (.inr (.inl h)); omega
   ·simp only [In] at h; omega
   ·have := hT b (.inr (.inr h)); omega
 | succ d ih =>
  intro k e W a' c' hd e1 e2 e3 e7 X1 X2 X3 hk oo E0 hzW
  have zE0 := E0.size
  try simp only [qz] at zE0
  rw [Fq]
  have hlt : k < st.net.length := by omega
  obtain ⟨f, hf, _⟩ := Ak hlt
  obtain ⟨b5, o5, cs5, rfl, A5, D5, _, _⟩ := hD.at (by decide) hf
  obtain ⟨ds, rfl, D6⟩ := D.frame.1 D5
  have D6' := D6
  obtain ⟨av, cv, rfl, _, _⟩ := D.BV.1 D6'
  have t0 := A5 0 _ rfl
  have t1 := A5 1 _ rfl
  have t2 := A5 2 _ rfl
  have t3 := A5 3 _ rfl
  have t4 := A5 4 _ rfl
  have t5 := A5 5 _ rfl
  have t6 := A5 6 _ rfl
  have t7 := A5 7 _ rfl
  have t8 := A5 8 _ rfl
  simp only [Bw, DK, Bd, Nat.add_zero] at t0 t1 t2 t3 t4 t5 t6 t7 t8
  simp only [ON] at t0 t1 t2 t3 t4 t5 t6 t7 t8
  have htk : (st.net.take k).length = k := by rw [List.length_take]; omega
  have y1 := Aq X1
  have y2 := Aq X2
  have y3 := Aq X3
  refine Ae.post fun Q hQ => ?_
  simp (disch := first | exact xD | fail) [-Option.bind_some, qs, -Aa, -Ab, qm, e1, e2, e3, e7, X1, X2, X3, hlt, RO, E0.Ai, t0, t1, t2, t3, t4, t5, t6, t7, t8]
  refine Ae.bind (AX (D6.ext xE)) ?_
  rintro ⟨_, w2⟩ ⟨ds, rfl, o9, E1⟩
  try dsimp only at ds o9 E1
  have zE1 := E1.size
  try simp only [qz] at zE1
  have zo9 := O.BV.1 o9
  obtain ⟨a9, c9, rfl, _, _⟩ := zo9
  simp only [World.size_alloc, size_setRow] at o9
  have F1 : Ext W w2 := xE
  have N1 := (F1.Ai y1).trans X1
  have N2 := (F1.Ai y2).trans X2
  have N3 := (F1.Ai y3).trans X3
  have NB : hp w2 W.heap.size = some (.cells #[i64 f.src, i64 f.dst, i64 f.idx, i64 f.BV.key, i64 f.BV.tag.t, i64 f.BV.tag.p, .slice av f.BV.past.length cv, .string f.BV.text, .bool f.BV.gone] 131 (0, 0)) := (E1.Ai xB).trans (by first | assumption | rfl | (simp (disch := first | exact xD | fail) [-Option.bind_some, qs, -Aa, -Ab, qm, e1, e2, e3, e7, X1, X2, X3, E0.Ai, hlt, t0, t1, t2, t3, t4, t5, t6, t7, t8, E1.Ai]; done))
  simp (disch := first | exact xD | fail) [-Option.bind_some, qs, -Aa, -Ab, qm, N1, N2, N3, NB, e1, e2, e3, e7, X1, X2, X3, E0.Ai, hlt, t0, t1, t2, t3, t4, t5, t6, t7, t8, E1.Ai]
  generalize hWa : World.setRow _ W.heap.size _ = Wa
  have sWa : Wa.heap.size = w2.heap.size := by rw [← hWa]; simp
  have kWa : ∀ b, b ≠ W.heap.size → hp Wa b = hp w2 b := fun b h => by rw [← hWa]; exact Ac h
  have FWa : Ext W Wa := by rw [← hWa]; exact F1.set (Nat.le_refl _) _
  refine Ae.bind (O.app (L := GP 36) (mx := 1466015503701) (xs := st.net.take k) (S1 := In (W.heap.size + 1) w2.heap.size) (x := f) (cs := [i64 f.src, i64 f.dst, i64 f.idx, i64 f.BV.key, i64 f.BV.tag.t, i64 f.BV.tag.p, .slice a9 f.BV.past.length c9, .string f.BV.text, .bool f.BV.gone]) Nv On rfl (by decide) (oo.ext (FWa.al _)) (O.frame.2 ⟨_, rfl, o9.Aj fun b hb hbl => (Ag (by omega)).trans (kWa b (by simp only [In] at hb; omega))⟩) (fun b hb h1 h2 => by simp only [In] at h1 h2; omega) (At.nw (by omega)) (by omega) (by decide) (by decide)) ?_
  rintro ⟨_, w3⟩ ⟨a8, c8, rfl, o8, M8⟩
  have zM8 := M8.size
  try simp only [qz] at zM8
  try dsimp only at o8 M8
  have zM8 := M8.size
  simp only [World.size_alloc] at zM8 o8
  have k8 : ∀ b, b < W3.heap.size → hp w3 b = hp W b := fun b hb => (M8.Ai b xB (fun h => by simp only [In] at h; omega)).trans ((Ag (by omega)).trans (FWa.Ai (by omega)))
  have F3 : Ext w0 w3 := Mod.after ((E0.tr FWa).al _) M8 (fun b h1 h2 => by have := E03.size; simp only [In] at h2; omega)
  have hts : st.net.take k ++ [f] = st.net.take (k + 1) := by rw [List.take_add_one, hf]; rfl
  rw [htk, hts] at o8
  rw [htk]
  have L1 := (k8 g1 hz.1).trans X1
  have L2 := (k8 g2 hz.2.1).trans X2
  have L3 := (k8 g3 hz.2.2).trans X3
  simp (disch := first | exact xD | fail) [-Option.bind_some, qs, -Aa, -Ab, qm, L3, e7, e1, e2, e3, X1, X2, X3, E0.Ai, hlt, t0, t1, t2, t3, t4, t5, t6, t7, t8, E1.Ai, M8.Ai]
  refine Ae.mono (ih (k + 1) _ _ a8 c8 (by omega) xA xA xA xA ((Ac hne.2.1).trans L1) ((Ac hne.2.2).trans L2) (by first | assumption | rfl | (simp (disch := first | exact xD | fail) [-Option.bind_some, qs, -Aa, -Ab, qm, L3, e1, e2, e3, e7, X1, X2, X3, E0.Ai, hlt, t0, t1, t2, t3, t4, t5, t6, t7, t8, E1.Ai, M8.Ai]; done)) (fun b hb hn => (Ac hn).trans ((k8 b hb).trans (hk b hb hn))) ((o8.Aj fun b hb hbl => Ac ?_).wide ?_) (F3.set hg.2.2 _) (by simp only [size_setRow]; omega)) hQ
  ·rcases hb with h | h | h
   ·simp only [In] at h; omega
   ·simp only [In] at h; omega
   ·omega
  ·intro b hb hbl
   simp only [In, size_setRow] at hb hbl ⊢
   omega
theorem Sz {g1 g2 g3 : Nat} {a1 a2 a3 a4 b1 b4 : Option Addr} {c1 c2 c3 c4 n1 n4 d1 d4 m1 m4 : Nat} {S T1 T4 : Nat → Prop} {st : WorldD} {w0 W2 : World} (hD : D (HU 36 129) S w0 [.slice a2 st.Ar.length c2] st.Ar) (hN : D (Er 36 131) S w0 [.slice a3 st.net.length c3] st.net) (hs4 : ∀ s ∈ st.Ar, s.past.length = 4) (hg : w0.heap.size ≤ g1 ∧ w0.heap.size ≤ g2 ∧ w0.heap.size ≤ g3) (hne : g1 ≠ g2 ∧ g1 ≠ g3 ∧ g2 ≠ g3) (hz : g1 < W2.heap.size ∧ g2 < W2.heap.size ∧ g3 < W2.heap.size) (E02 : Ext w0 W2)
  (Pt : Tt W2 ⟨st.places, [], [], st.AE⟩ (.slice b1 m1 d1) (.slice none 0 0) (.slice none 0 0) (.slice b4 m4 d4) T1 (fun _ => False) (fun _ => False) T4) (hT : ∀ b, T1 b ∨ T4 b → w0.heap.size ≤ b ∧ b < W2.heap.size ∧ b ≠ g2 ∧ b ≠ g3) :
  ∀ (d k : Nat) (e : Env) (W : World) (a' : Option Addr) (c' : Nat), k + d = st.Ar.length → e 1 = pt g1 0 → e 2 = pt g2 0 → e 3 = pt g3 0 → e 5 = i64 k →
   hp W g1 = some (.cells #[.slice a1 n1 c1, .slice a2 st.Ar.length c2, .slice a3 st.net.length c3, .slice a4 n4 c4] 77 (0, 0)) → hp W g2 = some (.cells #[.slice none 0 0, .slice none 0 0, .slice none 0 0, .slice none 0 0] 77 (0, 0)) → hp W g3 = some (.cells #[.slice b1 m1 d1, .slice a' k c', .slice none 0 0, .slice b4 m4 d4] 77 (0, 0)) →
   (∀ b, b < W2.heap.size → b ≠ g3 → hp W b = hp W2 b) → O (HU 36 129) (In W2.heap.size W.heap.size) W [.slice a' k c'] (st.Ar.take k) → Ext w0 W → W2.heap.size ≤ W.heap.size →
   Ae (Dc e W) fun r => ∃ cs', r.1 = .agg cs'.toArray ∧ O tW (In w0.heap.size r.2.heap.size) r.2 cs' st ∧ Ext w0 r.2 := by
 have hmx := hD.n.2.1
 intro d
 induction d with
 | zero =>
  intro k e W a' c' hd e1 e2 e3 e5 X1 X2 X3 hk oo E0 hzW
  have zE0 := E0.size
  try simp only [qz] at zE0
  rw [Fp]
  obtain rfl : k = st.Ar.length := by omega
  rw [List.take_length] at oo
  refine Ae.post fun Q hQ => ?_
  simp (disch := first | exact xD | fail) [-Option.bind_some, qs, -Aa, -Ab, qm, e1, e2, e3, e5, X1, X2, X3, E0.Ai]
  have P2 : Tt W ⟨st.places, st.Ar, [], st.AE⟩ (.slice b1 m1 d1) (.slice a' st.Ar.length c') (.slice none 0 0) (.slice b4 m4 d4) T1 (In W2.heap.size W.heap.size) (fun _ => False) T4 :=
   ⟨Pt.o1.Aj fun b hb _ => hk b (hT b (.inl hb)).2.1 (hT b (.inl hb)).2.2.2, oo, O.nil, Pt.o4.Aj fun b hb _ => hk b (hT b (.inr hb)).2.1 (hT b (.inr hb)).2.2.2,
    fun b _ q q' => by have := hT b (.inl q); simp only [In] at q'; omega, fun b _ _ q' => q', fun b _ q q' => Pt.d14 b (hT b (.inl q)).2.1 q q',
    fun b _ _ q' => q', fun b _ q q' => by have := hT b (.inr q'); simp only [In] at q; omega, fun b _ q _ => q⟩
  exact Ae.mono (Sy (g1 := g1) (g2 := g2) (g3 := g3) (n2 := st.Ar.length) (m2 := st.Ar.length) (w0 := w0) (W3 := W) hN hg hne (by omega) E0 P2 (fun b h => by rcases h with h | h | h; have := hT b (.inl h); omega; (simp only [In] at h; have := E02.size; omega); have := hT b (.inr h); omega) st.net.length 0 _ W none 0 (by omega) xA xA xA rfl X1 X2 X3 (fun b _ _ => rfl) O.nil E0 (Nat.le_refl _)) hQ
 | succ d ih =>
  intro k e W a' c' hd e1 e2 e3 e5 X1 X2 X3 hk oo E0 hzW
  have zE0 := E0.size
  try simp only [qz] at zE0
  rw [Fp]
  have hlt : k < st.Ar.length := by omega
  obtain ⟨s, hs, _⟩ := Ak hlt
  have hp4 := hs4 s (List.mem_of_getElem? hs)
  obtain ⟨b5, o5, cs5, rfl, A5, D5, _, _⟩ := hD.at (by decide) hs
  obtain ⟨av, cv, rfl, D6⟩ := D.Ar.1 D5
  rw [hp4] at A5 D6
  have t0 := A5 0 _ rfl
  have t1 := A5 1 _ rfl
  have t2 := A5 2 _ rfl
  have t3 := A5 3 _ rfl
  have t4 := A5 4 _ rfl
  simp only [Bw, DK, Bd, Nat.add_zero] at t0 t1 t2 t3 t4
  simp only [SV] at t0 t1 t2 t3 t4
  have htk : (st.Ar.take k).length = k := by rw [List.length_take]; omega
  have y1 := Aq X1
  have y2 := Aq X2
  have y3 := Aq X3
  refine Ae.post fun Q hQ => ?_
  simp (disch := first | exact xD | fail) [-Option.bind_some, qs, -Aa, -Ab, qm, e1, e2, e3, e5, X1, X2, X3, hlt, DD, E0.Ai, t0, t1, t2, t3, t4]
  refine Ae.bind (O.IZ (L := Ey) (mx := 8796093021952) BH CD F9 rfl (by decide) (O.empty (g := W.heap.size + 1) (by first | assumption | rfl | (simp (disch := first | exact xD | fail) [-Option.bind_some, qs, -Aa, -Ab, qm, e1, e2, e3, e5, X1, X2, X3, E0.Ai, hlt, t0, t1, t2, t3, t4]; done))) (D6.ext xE) (by simp; omega) (by decide) (by decide)) ?_
  rintro ⟨_, w2⟩ ⟨a9, c9, rfl, o9, M9⟩
  have zM9 := M9.size
  try simp only [qz] at zM9
  try dsimp only at o9 M9
  simp only [List.nil_append, List.length_nil, Nat.zero_add, hp4, World.size_alloc, size_setRow] at o9
  have zM9 := M9.size
  simp only [World.size_alloc, size_setRow] at zM9
  have F1 : Ext W w2 := Mod.after xE M9 (fun b h1 h2 => by have h2 : b = W.heap.size + 1 := h2; omega)
  have N1 := (F1.Ai y1).trans X1
  have N2 := (F1.Ai y2).trans X2
  have N3 := (F1.Ai y3).trans X3
  have NB : hp w2 W.heap.size = some (.cells #[i64 s.place, .slice av 4 cv, i64 s.wait.t, i64 s.wait.p, i64 s.key] 129 (0, 0)) := (M9.Ai _ xB (by omega)).trans (by first | assumption | rfl | (simp (disch := first | exact xD | fail) [-Option.bind_some, qs, -Aa, -Ab, qm, e1, e2, e3, e5, X1, X2, X3, E0.Ai, hlt, t0, t1, t2, t3, t4, M9.Ai]; done))
  simp (disch := first | exact xD | fail) [-Option.bind_some, qs, -Aa, -Ab, qm, N1, N2, N3, NB, List.length_nil, Nat.zero_add, hp4, e1, e2, e3, e5, X1, X2, X3, E0.Ai, hlt, t0, t1, t2, t3, t4, M9.Ai]
  generalize hWa : World.setRow _ W.heap.size _ = Wa
  have sWa : Wa.heap.size = w2.heap.size := by rw [← hWa]; simp
  have kWa : ∀ b, b ≠ W.heap.size → hp Wa b = hp w2 b := fun b h => by rw [← hWa]; exact Ac h
  have FWa : Ext W Wa := by rw [← hWa]; exact F1.set (Nat.le_refl _) _
  have o9' : O AJ (In (W.heap.size + 1) w2.heap.size) w2 [.slice a9 s.past.length c9] s.past := by
   rw [hp4]
   refine o9.wide fun b hb hbl => ?_
   simp only [In]
   rcases hb with h | h
   ·have h : b = W.heap.size + 1 := h
    omega
   ·omega
  refine Ae.bind (O.app (L := HH 36) (mx := 2513169434916) (xs := st.Ar.take k) (S1 := In (W.heap.size + 1) w2.heap.size) (x := s) (cs := [i64 s.place, .slice a9 4 c9, i64 s.wait.t, i64 s.wait.p, i64 s.key]) RN RQ rfl (by decide) (oo.ext (FWa.al _)) (O.Ar.2 ⟨a9, c9, by rw [hp4], o9'.Aj fun b hb hbl => (Ag (by omega)).trans (kWa b (by simp only [In] at hb; omega))⟩) (fun b hb h1 h2 => by simp only [In] at h1 h2; omega) (At.nw (by omega)) (by omega) (by decide) (by decide)) ?_
  rintro ⟨_, w3⟩ ⟨a8, c8, rfl, o8, M8⟩
  have zM8 := M8.size
  try simp only [qz] at zM8
  try dsimp only at o8 M8
  have zM8 := M8.size
  simp only [World.size_alloc] at zM8 o8
  have k8 : ∀ b, b < W2.heap.size → hp w3 b = hp W b := fun b hb => (M8.Ai b xB (fun h => by simp only [In] at h; omega)).trans ((Ag (by omega)).trans (FWa.Ai (by omega)))
  have F3 : Ext w0 w3 := Mod.after ((E0.tr FWa).al _) M8 (fun b h1 h2 => by have := E02.size; simp only [In] at h2; omega)
  have hts : st.Ar.take k ++ [s] = st.Ar.take (k + 1) := by rw [List.take_add_one, hs]; rfl
  rw [htk, hts] at o8
  rw [htk]
  have L1 := (k8 g1 hz.1).trans X1
  have L2 := (k8 g2 hz.2.1).trans X2
  have L3 := (k8 g3 hz.2.2).trans X3
  simp (disch := first | exact xD | fail) [-Option.bind_some, qs, -Aa, -Ab, qm, L3, e5, e1, e2, e3, X1, X2, X3, E0.Ai, hlt, t0, t1, t2, t3, t4, M9.Ai, M8.Ai]
  refine Ae.mono (ih (k + 1) _ _ a8 c8 (by omega) xA xA xA xA ((Ac hne.2.1).trans L1) ((Ac hne.2.2).trans L2) (by first | assumption | rfl | (simp (disch := first | exact xD | fail) [-Option.bind_some, qs, -Aa, -Ab, qm, L3, e1, e2, e3, e5, X1, X2, X3, E0.Ai, hlt, t0, t1, t2, t3, t4, M9.Ai, M8.Ai]; done)) (fun b hb hn => (Ac hn).trans ((k8 b hb).trans (hk b hb hn))) ((o8.Aj fun b hb hbl => Ac ?_).wide ?_) (F3.set hg.2.2 _) (by simp only [size_setRow]; omega)) hQ
  ·rcases hb with h | h | h
   ·simp only [In] at h; omega
   ·simp only [In] at h; omega
   ·omega
  ·intro b hb hbl
   simp only [In, size_setRow] at hb hbl ⊢
   omega
end Go.Proofs.YtjhhommnkaemlaaGreat.X
