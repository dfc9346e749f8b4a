/- A part of the proof, without conditions. -/
import Derived.Test.YtjhhommnkaemlaaGreatEvV
import Derived.Test.YtjhhommnkaemlaaGreatEvW
import Derived.Test.YtjhhommnkaemlaaGreatEvQ
import Derived.Test.YtjhhommnkaemlaaGreatS26
set_option linter.unusedVariables false
set_option linter.unusedSimpArgs false
set_option linter.deprecated false
set_option maxRecDepth 100000
set_option maxHeartbeats 1000000
namespace Go.Proofs.YtjhhommnkaemlaaGreat.X
open Go Go.Ev Go.RowKit
theorem Lf {Q : Value × World → Prop} {g2 g3 i ca co : Nat} {aa ao : Option Addr} {Sa : Nat → Prop} {xs l : List Ver} {x : Ver} {w0 : World} (hx4 : xs.length = 4) (hl4 : l.length ≤ 100) (hi : i < 4) (hx : xs[i]? = some x)
  (X2 : hp w0 g2 = some (.cells #[.slice aa 4 ca] 44 (0, 0))) (ha : D AQ Sa w0 [.slice aa 4 ca] xs)
  (hnext : ∀ (e' : Env) (W : World) (a' : Option Addr) (c' : Nat) (l' : List Ver), e' 2 = pt g2 0 → e' 3 = pt g3 0 → e' 6 = i64 i → e' 5 = .slice a' l'.length c' → l'.length = l.length + 1 → (∀ v ∈ l', v ∈ l ∨ v = x) → O AQ (fun b => w0.heap.size ≤ b) W [.slice a' l'.length c'] l' → Ext w0 W → Ae (Cj e' W) Q) :
  ∀ (d k : Nat) (e : Env) (w : World), k + d = l.length → e 2 = pt g2 0 → e 3 = pt g3 0 → e 6 = i64 i → e 5 = .slice ao l.length co → e 7 = i64 k → Ext w0 w → O AQ (fun b => w0.heap.size ≤ b) w [.slice ao l.length co] l → Ae (CZ e w) Q := by
 have hi0 : (i : Int) < 4 := by omega
 have ins : ∀ (k : Nat) (w : World), k ≤ l.length → Ext w0 w → O AQ (fun b => w0.heap.size ≤ b) w [.slice ao l.length co] l → True := fun _ _ _ _ _ => trivial
 intro d
 induction d with
 | zero =>
  intro k e w hd e2 e3 e6 e5 e7 E0 ho
  have zE0 := E0.size
  try simp only [qz] at zE0
  rw [Fb]
  have hk : ¬ k < l.length := by omega
  have hk0 : ¬ (k : Int) < l.length := by omega
  have hkl : k ≤ l.length := by omega
  have y2 := Aq X2
  have X2' : hp w g2 = some (.cells #[.slice aa 4 ca] 44 (0, 0)) := (E0.Ai y2).trans X2
  obtain ⟨css, S1, S2, a9, c9, L1, L2, d1, d2, sl1, sl2, A1, A2, dB⟩ := ho.parts (by decide) CP (k := k) hkl
  simp (disch := first | exact xD | fail) [-Option.bind_some, -Aa, -Ab, e2, e5, e6, e7, hk0, sl1, sl2]
  refine Ae.bind (O.OY (P := P) (L := BW) (mx := 1954687338211) (xs := []) (ys := l.take k) (ty := 42) CP Fw rfl (by decide) (O.empty (L := BW) (mx := 1954687338211) (g := w.heap.size) (by first | assumption | rfl | (simp (disch := first | exact xD | fail) [-Option.bind_some, qs, -Aa, -Ab]; done))) (L1.Aj (by intro b hS hb; (try dsimp only at hS); (try simp only [In, qz] at hS hb); first | rfl | (simp (disch := first | exact xF | fail) only [qk]; done))) (fun b hb h1 h2 => by have := (d1 b h2).2.2; have h1 : b = w.heap.size := h1; omega) (A1.imp id fun ⟨b, o, h1, h2, h4⟩ => ⟨b, o, h1, h4.mono (Ext.Aj xE)⟩) (by rw [List.length_take]; omega) (by simp; omega) (by decide) (by decide)) ?_
  rintro ⟨_, w1⟩ ⟨a1, c1, rfl, o1, M1⟩
  have zM1 := M1.size
  try simp only [qz] at zM1
  try dsimp only at o1 M1
  have zM1 := M1.size
  simp only [World.size_alloc, Ad, List.length_nil, Nat.zero_add, List.nil_append] at zM1 o1
  have F1 : Ext w w1 := Mod.after xE M1 (fun b h1 h2 => by have h2 : b = w.heap.size := h2; omega)
  have Z2 : hp w1 g2 = some (.cells #[.slice aa 4 ca] 44 (0, 0)) := (F1.Ai (by have := E0.size; omega)).trans X2'
  obtain ⟨b1, o4, cs1, hab, A4, D4, _, l4⟩ := (ha.ext (E0.tr F1)).at (by decide) hx
  obtain ⟨a5, c5, rfl, _, _⟩ := D.BV.1 D4
  subst hab
  have p0 := A4 0 _ rfl
  have p1 := A4 1 _ rfl
  have p2 := A4 2 _ rfl
  have p3 := A4 3 _ rfl
  have p4 := A4 4 _ rfl
  have p5 := A4 5 _ rfl
  simp only [Bw, Nat.add_zero] at p0 p1 p2 p3 p4 p5
  simp (disch := first | exact xD | fail) [-Option.bind_some, -Aa, -Ab, Z2, BP, p0, p1, p2, p3, p4, p5]
  refine Ae.bind (AX D4) ?_
  rintro ⟨_, w2⟩ ⟨es, rfl, o2, E2⟩
  try dsimp only at es o2 E2
  have zE2 := E2.size
  try simp only [qz] at zE2
  have zds := O.BV.1 o2
  obtain ⟨ae, ce, rfl, _, _⟩ := zds
  simp (disch := first | exact xD | fail) [-Option.bind_some, -Aa, -Ab]
  refine Ae.bind (O.app (P := P) (L := BW) (x := x) (mx := 1954687338211) (xs := l.take k) (sv := .slice a1 k c1) (ty := 42) (S1 := In w1.heap.size w2.heap.size) CP Fw rfl (by decide) (o1.Aj (fun b hS hb => (by first | assumption | rfl | (simp (disch := first | exact xD | fail) [-Option.bind_some, qs, E2.Ai]; done)))) (o2.Aj (by intro b hS hb; (try dsimp only at hS); (try simp only [In] at hS hb); first | rfl | (simp (disch := first | exact xF | fail) only [qk]; done))) (fun b hb h1 h2 => by simp only [In] at h2; rcases h1 with h | h | h; have h : b = w.heap.size := h; omega; have := (d1 b h).2.2; omega; omega) At.new (by rw [List.length_take]; omega) (by decide) (by decide)) ?_
  rintro ⟨_, w3⟩ ⟨a3, c3, rfl, o3, M3⟩
  have zM3 := M3.size
  try simp only [qz] at zM3
  try dsimp only at o3 M3
  have zM3 := M3.size
  simp only [World.size_alloc, List.length_take, Nat.min_eq_left hkl] at zM3 o3
  have zE2' := E2.size
  have zE0 := E0.size
  have F3 : Ext w0 w3 := Mod.after ((E0.tr F1).tr xE) M3 (fun b h1 h2 => by rcases h2 with h | h | h; have h : b = w.heap.size := h; omega; have := (d1 b h).1; omega; omega)
  have kr : ∀ b, ¬ S1 b → b < w.heap.size → hp w3 b = hp w b := fun b hn hb => (M3.Ai b xN (fun h => by rcases h with h | h | h; have h : b = w.heap.size := h; omega; exact hn h; omega)).trans (by first | assumption | rfl | (simp (disch := first | exact xD | fail) [-Option.bind_some, qs, F1.Ai, E2.Ai]; done))
  have k3 : ∀ b, S2 b → b < w.heap.size → hp w3 b = hp w b := fun b hS hb => (M3.Ai b xN (fun h => by rcases h with h | h | h; have h : b = w.heap.size := h; omega; exact (d2 b hS).2.1 h; omega)).trans (by first | assumption | rfl | (simp (disch := first | exact xD | fail) [-Option.bind_some, qs, F1.Ai, E2.Ai]; done))
  simp only [List.length_take, Nat.min_eq_left hkl]
  refine Ae.bind (O.OY (P := P) (L := BW) (mx := 1954687338211) (ys := l.drop k) (ty := 42) CP Fw rfl (by decide) o3 (L2.Aj (fun b hS hb => k3 b hS hb)) (fun b hb h1 h2 => ?_) (A2.imp id fun ⟨b, o, h1, h2, h4⟩ => ⟨b, o, h1, h4.same (kr b h2.2.1 h2.2.2.2)⟩) (by rw [List.length_drop] <;> omega) (by simp only [List.length_append, List.length_take, List.length_cons, List.length_nil]; omega) (by decide) (by decide)) ?_
  ·have q := d2 b h2
   rcases h1 with (h | h | h) | h | h
   ·have h : b = w.heap.size := h
    omega
   ·exact q.2.1 h
   ·omega
   ·simp only [In] at h
    omega
   ·omega
  rintro ⟨_, w5⟩ ⟨a5', c5', rfl, o5, M5⟩
  have zM5 := M5.size
  try simp only [] at zM5
  try dsimp only at o5 M5
  have zM5 := M5.size
  have F5 : Ext w0 w5 := Mod.after F3 M5 (fun b h1 h2 => by
   rcases h2 with (h | h | h) | h | h
   ·have h : b = w.heap.size := h
    omega
   ·have := (d1 b h).1
    omega
   ·omega
   ·simp only [In] at h
    omega
   ·omega)
  obtain ⟨l', hl'⟩ : ∃ l' : List Ver, l' = l.take k ++ [x] ++ l.drop k := ⟨_, rfl⟩
  have hl7 : l'.length = l.length + 1 := by rw [hl']; simp only [List.length_append, List.length_take, List.length_drop, List.length_cons, List.length_nil]; omega
  have hl8 : (l.take k ++ [x]).length = k + 1 := by simp only [List.length_append, List.length_take, List.length_cons, List.length_nil]; omega
  rw [← hl', hl8] at o5
  rw [hl8]
  have hm5 : k + 1 + (l.length - k) = l'.length := by omega
  refine hnext _ w5 a5' c5' l' xA xA xA ?_ hl7 ?_ ((?_ : O AQ _ w5 [.slice a5' l'.length c5'] l').wide (S := fun b => ((b = w.heap.size ∨ S1 b ∨ w.heap.size + 1 ≤ b ∧ b < w1.heap.size) ∨ In w1.heap.size w2.heap.size b ∨ w2.heap.size + 1 ≤ b ∧ b < w3.heap.size) ∨ S2 b ∨ w3.heap.size ≤ b ∧ b < w5.heap.size) ?_) F5
  ·show Value.slice a5' _ c5' = Value.slice a5' _ c5'
   congr 1 <;> omega
  ·intro v hv
   rw [hl'] at hv
   simp only [List.mem_append, List.mem_singleton] at hv
   rcases hv with (h | h) | h
   ·exact .inl (List.mem_of_mem_take h)
   ·exact .inr h
   ·exact .inl (List.mem_of_mem_drop h)
  ·first
    | (rw [hm5] at o5; exact o5)
    | (rw [show k + 1 + 0 = l'.length by omega] at o5; exact o5)
  ·intro b h hb
   rcases h with (h | h) | h | h
   ·rcases h with h | h | h
    ·omega
    ·exact (d1 b h).1
    ·omega
   ·simp only [In] at h
    omega
   ·exact (d2 b h).1
   ·omega
 | succ d ih =>
  intro k e w hd e2 e3 e6 e5 e7 E0 ho
  have zE0 := E0.size
  try simp only [qz] at zE0
  rw [Fb]
  have hk : k < l.length := by omega
  have hk0 : (k : Int) < l.length := by omega
  have hkl : k ≤ l.length := by omega
  have y2 := Aq X2
  have X2' : hp w g2 = some (.cells #[.slice aa 4 ca] 44 (0, 0)) := (E0.Ai y2).trans X2
  obtain ⟨u, hu, _⟩ := Ak hk
  obtain ⟨b6, o6, cs6, hab6, A6, D6, _, l6⟩ := ho.d.at (by decide) hu
  obtain ⟨a6, c6, rfl, _, _⟩ := D.BV.1 D6
  subst hab6
  have A6q : At w b6 (o6 + k * 6) [i64 u.key, i64 u.tag.t, i64 u.tag.p, .slice a6 u.past.length c6, .string u.text, .bool u.gone] := A6
  have q0 := A6q 0 _ rfl
  have q1 := A6q 1 _ rfl
  have q2 := A6q 2 _ rfl
  have q3 := A6q 3 _ rfl
  have q4 := A6q 4 _ rfl
  have q5 := A6q 5 _ rfl
  simp only [Nat.add_zero] at q0 q1 q2 q3 q4 q5
  obtain ⟨b7, o7, cs7, hab7, A7, D7, _, l7⟩ := (ha.ext E0).at (by decide) hx
  obtain ⟨a7, c7, rfl, _, _⟩ := D.BV.1 D7
  subst hab7
  have A7q : At w b7 (o7 + i * 6) [i64 x.key, i64 x.tag.t, i64 x.tag.p, .slice a7 x.past.length c7, .string x.text, .bool x.gone] := A7
  have r0 := A7q 0 _ rfl
  have r1 := A7q 1 _ rfl
  have r2 := A7q 2 _ rfl
  have r3 := A7q 3 _ rfl
  have r4 := A7q 4 _ rfl
  have r5 := A7q 5 _ rfl
  simp only [Nat.add_zero] at r0 r1 r2 r3 r4 r5
  simp (disch := first | exact xD | fail) [-Option.bind_some, qs, -Aa, -Ab, e2, e5, e6, e7, hk0, X2', BP, q1, q2, r1, r2]
  refine Ae.bind (AM u.tag x.tag _) ?_
  rintro ⟨_, w⟩ ⟨rfl, E9⟩
  try dsimp only at E9
  have zE9 := E9.size
  try simp only [qz] at zE9
  have E9x := (BJ _).tr E9
  have zE9x := E9x.size
  try simp only [qz] at zE9x
  have ho := ho.ext E9x
  have E0 : Ext w0 w := E0.tr E9x
  have zE0 := E0.size
  try simp only [qz] at zE0
  have X2' : hp w g2 = some (.cells #[.slice (some ⟨b7, o7, none⟩) 4 ca] 44 (0, 0)) := (E0.Ai y2).trans X2
  cases hlt : AG u.tag x.tag
  ·skip
   obtain ⟨css, S1, S2, a9, c9, L1, L2, d1, d2, sl1, sl2, A1, A2, dB⟩ := ho.parts (by decide) CP (k := k) hkl
   simp (disch := first | exact xD | fail) [-Option.bind_some, -Aa, -Ab, sl1, sl2]
   refine Ae.bind (O.OY (P := P) (L := BW) (mx := 1954687338211) (xs := []) (ys := l.take k) (ty := 42) CP Fw rfl (by decide) (O.empty (L := BW) (mx := 1954687338211) (g := w.heap.size) (by first | assumption | rfl | (simp (disch := first | exact xD | fail) [-Option.bind_some, qs, -Aa, -Ab]; done))) (L1.Aj (by intro b hS hb; (try dsimp only at hS); (try simp only [In, qz] at hS hb); first | rfl | (simp (disch := first | exact xF | fail) only [qk]; done))) (fun b hb h1 h2 => by have := (d1 b h2).2.2; have h1 : b = w.heap.size := h1; omega) (A1.imp id fun ⟨b, o, h1, h2, h4⟩ => ⟨b, o, h1, h4.mono (Ext.Aj xE)⟩) (by rw [List.length_take]; omega) (by simp; omega) (by decide) (by decide)) ?_
   rintro ⟨_, w1⟩ ⟨a1, c1, rfl, o1, M1⟩
   have zM1 := M1.size
   try simp only [qz] at zM1
   try dsimp only at o1 M1
   have zM1 := M1.size
   simp only [World.size_alloc, List.length_nil, Nat.zero_add, List.nil_append] at zM1 o1
   have F1 : Ext w w1 := Mod.after xE M1 (fun b h1 h2 => by have h2 : b = w.heap.size := h2; omega)
   have Z2 : hp w1 g2 = some (.cells #[.slice (some ⟨b7, o7, none⟩) 4 ca] 44 (0, 0)) := (F1.Ai (by have := E0.size; omega)).trans X2'
   simp (disch := first | exact xD | fail) [-Option.bind_some, qs, -Aa, -Ab, Z2, BP, r0, r1, r2, r3, r4, r5, E9.Ai, M1.Ai]
   refine Ae.bind (AX (D7.ext (E9x.tr F1))) ?_
   rintro ⟨_, w2⟩ ⟨es, rfl, o2, E2⟩
   try dsimp only at es o2 E2
   have zE2 := E2.size
   try simp only [qz] at zE2
   have zds := O.BV.1 o2
   obtain ⟨ae, ce, rfl, _, _⟩ := zds
   simp (disch := first | exact xD | fail) [-Option.bind_some, -Aa, -Ab]
   refine Ae.bind (O.app (P := P) (L := BW) (x := x) (mx := 1954687338211) (xs := l.take k) (sv := .slice a1 k c1) (ty := 42) (S1 := In w1.heap.size w2.heap.size) CP Fw rfl (by decide) (o1.Aj (fun b hS hb => (by first | assumption | rfl | (simp (disch := first | exact xD | fail) [-Option.bind_some, qs, E2.Ai]; done)))) (o2.Aj (by intro b hS hb; (try dsimp only at hS); (try simp only [In] at hS hb); first | rfl | (simp (disch := first | exact xF | fail) only [qk]; done))) (fun b hb h1 h2 => by simp only [In] at h2; rcases h1 with h | h | h; have h : b = w.heap.size := h; omega; have := (d1 b h).2.2; omega; omega) At.new (by rw [List.length_take]; omega) (by decide) (by decide)) ?_
   rintro ⟨_, w3⟩ ⟨a3, c3, rfl, o3, M3⟩
   have zM3 := M3.size
   try simp only [qz] at zM3
   try dsimp only at o3 M3
   have zM3 := M3.size
   simp only [World.size_alloc, List.length_take, Nat.min_eq_left hkl] at zM3 o3
   have zE2' := E2.size
   have zE0 := E0.size
   have F3 : Ext w0 w3 := Mod.after ((E0.tr F1).tr xE) M3 (fun b h1 h2 => by rcases h2 with h | h | h; have h : b = w.heap.size := h; omega; have := (d1 b h).1; omega; omega)
   have kr : ∀ b, ¬ S1 b → b < w.heap.size → hp w3 b = hp w b := fun b hn hb => (M3.Ai b xN (fun h => by rcases h with h | h | h; have h : b = w.heap.size := h; omega; exact hn h; omega)).trans (by first | assumption | rfl | (simp (disch := first | exact xD | fail) [-Option.bind_some, qs, F1.Ai, E2.Ai]; done))
   have k3 : ∀ b, S2 b → b < w.heap.size → hp w3 b = hp w b := fun b hS hb => (M3.Ai b xN (fun h => by rcases h with h | h | h; have h : b = w.heap.size := h; omega; exact (d2 b hS).2.1 h; omega)).trans (by first | assumption | rfl | (simp (disch := first | exact xD | fail) [-Option.bind_some, qs, F1.Ai, E2.Ai]; done))
   simp only [List.length_take, Nat.min_eq_left hkl]
   refine Ae.bind (O.OY (P := P) (L := BW) (mx := 1954687338211) (ys := l.drop k) (ty := 42) CP Fw rfl (by decide) o3 (L2.Aj (fun b hS hb => k3 b hS hb)) (fun b hb h1 h2 => ?_) (A2.imp id fun ⟨b, o, h1, h2, h4⟩ => ⟨b, o, h1, h4.same (kr b h2.2.1 h2.2.2.2)⟩) (by rw [List.length_drop] <;> omega) (by simp only [List.length_append, List.length_take, List.length_cons, List.length_nil]; omega) (by decide) (by decide)) ?_
   ·have q := d2 b h2
    rcases h1 with (h | h | h) | h | h
    ·have h : b = w.heap.size := h
     omega
    ·exact q.2.1 h
    ·omega
    ·simp only [In] at h
     omega
    ·omega
   rintro ⟨_, w5⟩ ⟨a5', c5', rfl, o5, M5⟩
   have zM5 := M5.size
   try simp only [] at zM5
   try dsimp only at o5 M5
   have zM5 := M5.size
   have F5 : Ext w0 w5 := Mod.after F3 M5 (fun b h1 h2 => by
    rcases h2 with (h | h | h) | h | h
    ·have h : b = w.heap.size := h
     omega
    ·have := (d1 b h).1
     omega
    ·omega
    ·simp only [In] at h
     omega
    ·omega)
   obtain ⟨l', hl'⟩ : ∃ l' : List Ver, l' = l.take k ++ [x] ++ l.drop k := ⟨_, rfl⟩
   have hl7 : l'.length = l.length + 1 := by rw [hl']; simp only [List.length_append, List.length_take, List.length_drop, List.length_cons, List.length_nil]; omega
   have hl8 : (l.take k ++ [x]).length = k + 1 := by simp only [List.length_append, List.length_take, List.length_cons, List.length_nil]; omega
   rw [← hl', hl8] at o5
   rw [hl8]
   have hm5 : k + 1 + (l.length - k) = l'.length := by omega
   refine hnext _ w5 a5' c5' l' xA xA xA ?_ hl7 ?_ ((?_ : O AQ _ w5 [.slice a5' l'.length c5'] l').wide (S := fun b => ((b = w.heap.size ∨ S1 b ∨ w.heap.size + 1 ≤ b ∧ b < w1.heap.size) ∨ In w1.heap.size w2.heap.size b ∨ w2.heap.size + 1 ≤ b ∧ b < w3.heap.size) ∨ S2 b ∨ w3.heap.size ≤ b ∧ b < w5.heap.size) ?_) F5
   ·show Value.slice a5' _ c5' = Value.slice a5' _ c5'
    congr 1 <;> omega
   ·intro v hv
    rw [hl'] at hv
    simp only [List.mem_append, List.mem_singleton] at hv
    rcases hv with (h | h) | h
    ·exact .inl (List.mem_of_mem_take h)
    ·exact .inr h
    ·exact .inl (List.mem_of_mem_drop h)
   ·first
     | (rw [hm5] at o5; exact o5)
     | (rw [show k + 1 + 0 = l'.length by omega] at o5; exact o5)
   ·intro b h hb
    rcases h with (h | h) | h | h
    ·rcases h with h | h | h
     ·omega
     ·exact (d1 b h).1
     ·omega
    ·simp only [In] at h
     omega
    ·exact (d2 b h).1
    ·omega
  ·simp (disch := first | exact xD | fail) [-Option.bind_some, -Aa, -Ab]
   exact ih (k + 1) _ w (by omega) xA xA xA xA (by first | rfl | (simp; done) | exact congrArg i64 (by omega)) E0 ho
theorem Lg {g2 g3 ca cb : Nat} {aa ab : Option Addr} {Sa Sb : Nat → Prop} {xs ys : List Ver} {w0 : World} (hx4 : xs.length = 4) (hy4 : ys.length = 4)
  (X2 : hp w0 g2 = some (.cells #[.slice aa 4 ca] 44 (0, 0))) (X3 : hp w0 g3 = some (.cells #[.slice ab 4 cb] 44 (0, 0))) (ha : D AQ Sa w0 [.slice aa 4 ca] xs) (hb : D AQ Sb w0 [.slice ab 4 cb] ys) :
  ∀ (d i : Nat) (e : Env) (w : World) (ao : Option Addr) (co : Nat) (l : List Ver), i + d = 4 → l.length ≤ i → (∀ v ∈ l, v ∈ xs) → e 2 = pt g2 0 → e 3 = pt g3 0 → e 6 = i64 i → e 5 = .slice ao l.length co → Ext w0 w → O AQ (fun b => w0.heap.size ≤ b) w [.slice ao l.length co] l →
   Ae (CY e w) fun r => ∃ (l' : List Ver) (a' : Option Addr) (c' : Nat), r.1 = .slice a' l'.length c' ∧ O AQ (fun b => w0.heap.size ≤ b) r.2 [.slice a' l'.length c'] l' ∧ l'.length ≤ 4 ∧ (∀ v ∈ l', v ∈ xs) ∧ Ext w0 r.2 := by
 intro d
 induction d with
 | zero =>
  intro i e w ao co l hd hli hm e2 e3 e6 e5 E0 ho
  have zE0 := E0.size
  try simp only [qz] at zE0
  rw [Fa]
  obtain rfl : i = 4 := by omega
  refine Ae.post fun Q hQ => ?_
  simp (disch := first | exact xD | fail) [-Option.bind_some, -Aa, -Ab, e5, e6]
  exact hQ _ ⟨l, ao, co, rfl, ho.Aj (by intro b hS hb; (try dsimp only at hS); (try simp only [In, qz] at hS hb); first | rfl | (simp (disch := first | exact xF | fail) only [E0.Ai, qk]; done)), by omega, hm, xE⟩
 | succ d ih =>
  intro i e w ao co l hd hli hm e2 e3 e6 e5 E0 ho
  have zE0 := E0.size
  try simp only [qz] at zE0
  rw [Fa]
  have hlt : i < 4 := by omega
  have hlt0 : (i : Int) < 4 := by omega
  have y2 := Aq X2
  have y3 := Aq X3
  have X2' : hp w g2 = some (.cells #[.slice aa 4 ca] 44 (0, 0)) := (E0.Ai y2).trans X2
  have X3' : hp w g3 = some (.cells #[.slice ab 4 cb] 44 (0, 0)) := (E0.Ai y3).trans X3
  obtain ⟨x, hx, _⟩ := Ak (l := xs) (k := i) (by omega)
  obtain ⟨y, hy, _⟩ := Ak (l := ys) (k := i) (by omega)
  obtain ⟨b6, o6, cs6, rfl, A6, D6, _, l6⟩ := (ha.ext E0).at (by decide) hx
  obtain ⟨a6, c6, rfl, _, _⟩ := D.BV.1 D6
  have q0 := A6 0 _ rfl
  have q1 := A6 1 _ rfl
  have q2 := A6 2 _ rfl
  have q3 := A6 3 _ rfl
  have q4 := A6 4 _ rfl
  have q5 := A6 5 _ rfl
  simp only [Bw, Nat.add_zero] at q0 q1 q2 q3 q4 q5
  obtain ⟨b7, o7, cs7, rfl, A7, D7, _, l7⟩ := (hb.ext E0).at (by decide) hy
  obtain ⟨a7, c7, rfl, _, _⟩ := D.BV.1 D7
  have r0 := A7 0 _ rfl
  have r1 := A7 1 _ rfl
  have r2 := A7 2 _ rfl
  have r3 := A7 3 _ rfl
  have r4 := A7 4 _ rfl
  have r5 := A7 5 _ rfl
  simp only [Bw, Nat.add_zero] at r0 r1 r2 r3 r4 r5
  refine Ae.post fun Q hQ => ?_
  simp (disch := first | exact xD | fail) [-Option.bind_some, -Aa, -Ab, e2, e3, e6, X2', X3', hlt0, BP, q1, q2, r1, r2]
  refine Ae.bind (AM y.tag x.tag _) ?_
  rintro ⟨_, w1⟩ ⟨rfl, E1⟩
  try dsimp only at E1
  have zE1 := E1.size
  try simp only [qz] at zE1
  have Qf : ∀ (e' : Env) (W : World) (a' : Option Addr) (c' : Nat) (l' : List Ver), e' 2 = pt g2 0 → e' 3 = pt g3 0 → e' 6 = i64 i → e' 5 = .slice a' l'.length c' → l'.length ≤ i + 1 → (∀ v ∈ l', v ∈ xs) → O AQ (fun b => w0.heap.size ≤ b) W [.slice a' l'.length c'] l' → Ext w0 W → Ae (Cj e' W) Q := by
   intro e' W a' c' l' f2 f3 f6 f5 hl' hm' ho' hE
   rw [Iu]
   simp (disch := first | exact xD | fail) [-Option.bind_some, qs, -Aa, -Ab, f6]
   exact Ae.mono (ih (i + 1) _ W a' c' l' (by omega) hl' hm' xA xA (by first | rfl | (simp; done) | exact congrArg i64 (by omega)) xA hE ho') hQ
  have E1x := E0.tr ((BJ _).tr E1)
  have zE1x := E1x.size
  try simp only [qz] at zE1x
  have ho1 := ho.ext ((BJ _).tr E1)
  cases hls : AG y.tag x.tag
  ·simp (disch := first | exact xD | fail) [-Option.bind_some, -Aa, -Ab]
   exact Qf _ _ ao co l xA xA xA xA (by omega) hm ho1 E1x
  ·simp (disch := first | exact xD | fail) [-Option.bind_some, -Aa, -Ab]
   refine Lf hx4 (by omega) hlt hx X2 ha (fun e' W a' c' l' f2 f3 f6 f5 hl' hm' ho' hE => Qf e' W a' c' l' f2 f3 f6 f5 (by omega) (fun v hv => ?_) ho' hE) l.length 0 _ w1 (by omega) xA xA xA xA rfl E1x ho1
   rcases hm' v hv with h | rfl
   ·exact hm v h
   ·exact List.mem_of_getElem? hx
theorem MQ {a b : Option Addr} {n m c d : Nat} {S S' : Nat → Prop} {xs ys : List Ver} {w : World} (hx4 : xs.length = 4) (hy4 : ys.length = 4) (ha : D AQ S w [.slice a n c] xs) (hb : D AQ S' w [.slice b m d] ys) :
  Ae (EV P 140 #[.agg #[.slice a n c], .agg #[.slice b m d]] w) fun r => ∃ (l : List Ver) (a' : Option Addr) (c' : Nat), r.1 = .slice a' l.length c' ∧ O AQ (fun b => w.heap.size ≤ b) r.2 [.slice a' l.length c'] l ∧ l.length ≤ 4 ∧ (∀ v ∈ l, v ∈ xs) ∧ Ext w r.2 := by
 obtain ⟨rfl, _, _⟩ := ha.n
 obtain ⟨rfl, _, _⟩ := hb.n
 rw [hx4, hy4]
 rw [hx4] at ha
 rw [hy4] at hb
 refine Ae.post fun Q hQ => ?_
 refine Ae.enter plain mixed (KJ _ _ _) (by kernel_rfl) (n := 2) (by kernel_rfl) rfl ?_
 simp (disch := first | exact xD | fail) [-Option.bind_some, -Aa, -Ab]
 refine Ae.mono (Lg (g2 := w.heap.size) (g3 := w.heap.size + 1) (w0 := (w.alloc (.cells #[.slice a 4 c] 44)).alloc (.cells #[.slice b 4 d] 44)) hx4 hy4 (by first | assumption | rfl | (simp (disch := first | exact xD | fail) [-Option.bind_some, qs, -Aa, -Ab]; done)) (by first | assumption | rfl | (simp (disch := first | exact xD | fail) [-Option.bind_some, qs, -Aa, -Ab]; done)) (ha.ext xE) (hb.ext xE) 4 0 _ _ (some ⟨w.heap.size + 1 + 1, 0, none⟩) 0 [] (by omega) (by simp) (by simp) xA xA rfl rfl xE ((O.empty (L := BW) (mx := 1954687338211) (g := w.heap.size + 1 + 1) (by first | assumption | rfl | (simp (disch := first | exact xD | fail) [-Option.bind_some, qs, -Aa, -Ab]; done))).wide xV)) ?_
 rintro r ⟨l', a', c', h1, h2, h3, h4, h5⟩
 exact hQ _ ⟨l', a', c', h1, h2.wide (fun b hb _ => by simp only [World.size_alloc] at hb; omega), h3, h4, (Ext.al (Ext.al Ext.rfl _) _).tr h5⟩
def MR (v : Ver) : Prop := 0 ≤ v.key ∧ v.key ≤ 3 ∧ (0 < v.tag.t → v.past.length = 4)
def QA (x : CNode) : Prop := x.store.length = 4 ∧ x.wait.length ≤ 6 ∧ (∀ v ∈ x.store, MR v) ∧ (∀ v ∈ x.wait, MR v)
theorem MT {g1 g2 m c : Nat} {a : Option Addr} {S : Nat → Prop} {ms : List CNode} {x : CNode} {e : Env} {w : World} (hm : ms.length = m) (h0 : 0 < m) (h4 : m ≤ 100) (hx : ms[m - 1]? = some x) (e2 : e 2 = pt g1 0) (e4 : e 4 = pt g2 0) (e5 : e 5 = i64 m)
  (X1 : hp w g1 = some (.cells #[.slice a m c] 81 (0, 0))) (X2 : hp w g2 = some (.cells #[.slice none 0 0] 81 (0, 0))) (ho : O AV S w [.slice a m c] ms) (hg1 : ¬ S g1) (hg2 : ¬ S g2) (h12 : g1 ≠ g2) :
  Ae (Co e w) fun r => r.1 = .agg #[.slice a m c] ∧ O AV S r.2 [.slice a m c] (ms.set (m - 1) ⟨x.store, []⟩) ∧ Mod (fun b => S b ∨ b = g2) w r.2 := by
 have y1 := Aq X1
 have y2 := Aq X2
 obtain ⟨g, cur, ds, S2, rfl, hSg, hgl, hg, hle, hx1, hS2, put⟩ := ho.OA (by decide) hx
 obtain ⟨a2, c2, a3, c3, Ss, Sw, rfl, o2, o3, hSs, hSw⟩ := O.Kz hx1
 simp only [Bd] at hg hle put
 have n1 : g ≠ g1 := fun h => hg1 (h ▸ hSg)
 have n2 : g ≠ g2 := fun h => hg2 (h ▸ hSg)
 rw [I4]
 refine Ae.post fun Q hQ => ?_
 simp (disch := first | exact xD | fail) [-Option.bind_some, qs, -Aa, -Ab, qm, e2, e4, e5, X1, X2, hg, Cx, show (m : Int) - 1 = ((m - 1 : Nat) : Int) by omega]
 have oW := put (w.setRow g (Bh cur ((m - 1) * 2) [.slice a2 x.store.length c2, .slice none 0 0]).toArray) _ ⟨x.store, []⟩ Ss ((O.FC (v := ⟨x.store, []⟩) (S2 := fun _ => False) (o2.Aj (fun b hS hb => Ac (hS2 b (hSs b hS).1).2.1)) O.nil (fun _ _ _ h => h)).wide (fun b h _ => h.elim id (fun h => h.elim))) (by first | assumption | rfl | (simp (disch := first | exact xD | fail) [-Option.bind_some, -Aa, -Ab, hg]; done))
  (fun b hb _ hne' hn => Ac hne') (fun b _ h => .inl (hSs b h).1)
 refine hQ _ ⟨rfl, (oW.Aj ?_).wide ?_, ((Mod.of Ext.rfl _).AL (.inr (.inl hSg)) _).AL (.inr (.inr rfl)) _⟩
 ·intro b hS hb
  refine Ac ?_
  rintro rfl
  rcases hS with h | h
  ·exact hg2 h.1
  ·exact hg2 (hS2 _ (hSs _ h).1).1
 ·intro b hS hb
  rcases hS with h | h
  ·exact h.1
  ·exact (hS2 _ (hSs _ h).1).1
theorem MU {a : Option Addr} {n c k : Nat} {S : Nat → Prop} {ns : List CNode} {w : World} (h1 : 1 < ns.length) (h4 : ns.length ≤ 100) (hk : k < ns.length) (hf : ∀ x ∈ ns, QA x) (ho : O AV S w [.slice a n c] ns) :
  Ae (EV P 129 #[.agg #[.slice a n c], i64 k] w) fun r => ∃ (ms : List CNode) (a' : Option Addr) (c' : Nat), r.1 = .agg #[.slice a' ms.length c'] ∧ O AV (fun b => S b ∨ In w.heap.size r.2.heap.size b) r.2 [.slice a' ms.length c'] ms ∧ ms.length = ns.length - 1 ∧ (∀ y ∈ ms, QA y) ∧ Mod S w r.2 := by
 obtain ⟨rfl, hm, _⟩ := ho.n
 obtain ⟨css, S1, S2, a9, c9, L1, L2, d1, d2, sl1, sl2, A1, A2, dB⟩ := ho.RK (by decide) Ly (j := k) (k := k + 1) (by omega) (by omega)
 have sl2' : ∀ w', sl P 79 (.slice a ns.length c) (some (i64 ((k : Int) + 1))) none none w' = some (.slice a9 (ns.length - (k + 1)) c9, w') := fun w' => by
  have := sl2 w'
  rwa [show ((k + 1 : Nat) : Int) = (k : Int) + 1 by omega] at this
 refine Ae.post fun Q hQ => ?_
 refine Ae.enter plain mixed (LL _ _ _) (by kernel_rfl) (n := 2) (by kernel_rfl) rfl ?_
 simp (disch := first | exact xD | fail) [-Option.bind_some, qs, -Aa, -Ab, sl1, sl2']
 refine Ae.bind (O.OY (P := P) (L := Nm) (mx := 2932031007317) (xs := []) (ys := ns.take k) (ty := 79) Ly O0 rfl (by decide) (O.empty (L := Nm) (mx := 2932031007317) (g := w.heap.size + 1 + 1) (by first | assumption | rfl | (simp (disch := first | exact xD | fail) [-Option.bind_some, qs, -Aa, -Ab]; done))) (L1.Aj (by intro b hS hb; (try dsimp only at hS); (try simp only [In, qz] at hS hb); first | rfl | (simp (disch := first | exact xF | fail) only [qk]; done))) (fun b hb h1 h2 => by have := (d1 b h2).2.2; have h1 : b = w.heap.size + 1 + 1 := h1; omega) (A1.imp id fun ⟨b, o, h1, h2, h4⟩ => ⟨b, o, h1, h4.mono (Ext.Aj xE)⟩) (by rw [List.length_take]; omega) (by simp; omega) (by decide) (by decide)) ?_
 rintro ⟨_, w1⟩ ⟨a1, c1, rfl, o1, M1⟩
 have zM1 := M1.size
 try simp only [qz] at zM1
 try dsimp only at o1 M1
 have zM1 := M1.size
 simp only [World.size_alloc, Ad, List.length_nil, Nat.zero_add, List.nil_append] at zM1 o1
 have F1 : Ext w w1 := Mod.after xE M1 (fun b h1 h2 => by have h2 : b = w.heap.size + 1 + 1 := h2; omega)
 have Y1 : hp w1 w.heap.size = some (.cells #[.slice a ns.length c] 81 (0, 0)) := (M1.Ai _ xN (by omega)).trans (by first | assumption | rfl | (simp (disch := first | exact xD | fail) [-Option.bind_some, qs, -Aa, -Ab]; done))
 have Y2 : hp w1 (w.heap.size + 1) = some (.cells #[.slice none 0 0] 81 (0, 0)) := (M1.Ai _ xN (by omega)).trans (by first | assumption | rfl | (simp (disch := first | exact xD | fail) [-Option.bind_some, qs, -Aa, -Ab]; done))
 simp (disch := first | exact xD | fail) [-Option.bind_some, -Aa, -Ab, Y1]
 have htk : (ns.take k).length = k := by rw [List.length_take]; omega
 refine Ae.bind (O.OY (P := P) (L := Nm) (mx := 2932031007317) (xs := ns.take k) (ys := ns.drop (k + 1)) (ty := 79) Ly O0 rfl (by decide) o1 (L2.Aj (fun b hS hb => F1.Ai hb)) (fun b hb h1 h2 => ?_) (A2.imp id fun ⟨b, o, h1, h2, h4⟩ => ⟨b, o, h1, h4.mono (Ext.Aj F1)⟩) (by rw [List.length_drop]) (by rw [htk]; omega) (by decide) (by decide)) ?_
 ·have q := d2 b h2
  rcases h1 with h | h | h
  ·have h : b = w.heap.size + 1 + 1 := h
   omega
  ·exact q.2.1 h
  ·omega
 rintro ⟨_, w2⟩ ⟨a3, c3, rfl, o3, M2⟩
 have zM2 := M2.size
 try simp only [] at zM2
 try dsimp only at o3 M2
 have zM2 := M2.size
 obtain ⟨ms, hms⟩ : ∃ ms, ms = ns.take k ++ ns.drop (k + 1) := ⟨_, rfl⟩
 have hml : ms.length = ns.length - 1 := by rw [hms, List.length_append, htk, List.length_drop]; omega
 have hmf : ∀ x ∈ ms, QA x := by
  intro x hx
  rw [hms, List.mem_append] at hx
  rcases hx with h | h
  ·exact hf x (List.mem_of_mem_take h)
  ·exact hf x (List.mem_of_mem_drop h)
 rw [htk, ← hms, show k + (ns.length - (k + 1)) = ms.length by omega] at o3
 rw [htk, show k + (ns.length - (k + 1)) = ms.length by omega]
 have hS3 : ∀ b, ((b = w.heap.size + 1 + 1 ∨ S1 b ∨ w.heap.size + 1 + 1 + 1 ≤ b ∧ b < w1.heap.size) ∨ S2 b ∨ w1.heap.size ≤ b ∧ b < w2.heap.size) → (S b ∧ b < w.heap.size) ∨ (w.heap.size + 1 + 1 ≤ b ∧ b < w2.heap.size) := by
  rintro b ((h | h | h) | h | h)
  ·exact .inr (by omega)
  ·exact .inl ⟨(d1 b h).1, (d1 b h).2.2⟩
  ·exact .inr (by omega)
  ·exact .inl ⟨(d2 b h).1, (d2 b h).2.2⟩
  ·exact .inr (by omega)
 have Z1 : hp w2 w.heap.size = some (.cells #[.slice a ns.length c] 81 (0, 0)) := (M2.Ai _ (by omega) (fun h => by have := hS3 _ (.inl h); omega)).trans Y1
 have Z2 : hp w2 (w.heap.size + 1) = some (.cells #[.slice none 0 0] 81 (0, 0)) := (M2.Ai _ (by omega) (fun h => by have := hS3 _ (.inl h); omega)).trans Y2
 have N2 : Mod S w w2 := Mod.AW (Mod.of F1 S) M2 (fun b hb h => by rcases hS3 _ (.inl h) with q | q; exact q.1; omega)
 have o3' := o3.wide (S' := fun b => (S b ∧ b < w.heap.size) ∨ (w.heap.size + 1 + 1 ≤ b ∧ b < w2.heap.size)) (fun b h _ => hS3 b h)
 obtain ⟨W3, hW3⟩ : ∃ W3 : World, W3 = w2.setRow w.heap.size #[.slice a3 ms.length c3] := ⟨_, rfl⟩
 have sW : W3.heap.size = w2.heap.size := by rw [hW3, size_setRow]
 have kW : ∀ b, b ≠ w.heap.size → hp W3 b = hp w2 b := fun b q => by rw [hW3, Ac q]
 have V1 : hp W3 w.heap.size = some (.cells #[.slice a3 ms.length c3] 81 (0, 0)) := by
  rw [hW3]
  exact (by first | assumption | rfl | (simp (disch := first | exact xD | fail) [-Option.bind_some, -Aa, -Ab, Z1]; done))
 have V2 : hp W3 (w.heap.size + 1) = some (.cells #[.slice none 0 0] 81 (0, 0)) := (kW _ (by omega)).trans Z2
 have N3 : Mod S w W3 := by
  rw [hW3]
  exact N2.AL (.inl (by omega)) _
 have oW := o3'.Aj (w' := W3) (fun b hS hb => kW b (by omega))
 have fin : ∀ (e : Env) (W : World) (ls : List CNode) (S' : Nat → Prop), ls.length = ms.length → (∀ x ∈ ls, QA x) → e 2 = pt w.heap.size 0 → e 4 = pt (w.heap.size + 1) 0 → e 5 = i64 ms.length → hp W w.heap.size = some (.cells #[.slice a3 ms.length c3] 81 (0, 0)) → hp W (w.heap.size + 1) = some (.cells #[.slice none 0 0] 81 (0, 0)) →
   O AV S' W [.slice a3 ms.length c3] ls → (∀ b, S' b → (S b ∧ b < w.heap.size) ∨ (w.heap.size + 1 + 1 ≤ b ∧ b < W.heap.size)) → Mod S w W → Ae (Co e W) Q := by
  intro e W ls S' hll hlf e2 e4 e5 U1 U2 ho hS' hM
  obtain ⟨x, hx, _⟩ := Ak (l := ls) (k := ms.length - 1) (by omega)
  have zM := hM.size
  refine Ae.mono (MT hll (by omega) (by omega) hx e2 e4 e5 U1 U2 ho (fun h => by have := hS' _ h; omega) (fun h => by have := hS' _ h; omega) (by omega)) ?_
  rintro r ⟨h1, h2, h3⟩
  have zh := h3.size
  have hle : (ls.set (ms.length - 1) ⟨x.store, []⟩).length = ms.length := by rw [List.length_set]; exact hll
  refine hQ _ ⟨ls.set (ms.length - 1) ⟨x.store, []⟩, a3, c3, by rw [hle]; exact h1, ?_, by rw [hle]; exact hml, ?_, ?_⟩
  ·rw [hle]
   refine h2.wide (fun b h _ => ?_)
   rcases hS' b h with h | h
   ·exact .inl h.1
   ·exact .inr (by simp only [In]; omega)
  ·intro y hy
   rcases List.mem_or_eq_of_mem_set hy with h | rfl
   ·exact hlf y h
   ·have q := hlf x (List.mem_of_getElem? hx)
    exact ⟨q.1, by simp, q.2.2.1, by simp⟩
  ·refine Mod.AW hM h3 (fun b hb h => ?_)
   rcases h with h | h
   ·rcases hS' b h with h | h
    ·exact h.1
    ·omega
   ·omega
 by_cases hk0 : k = 0
 ·simp (disch := first | exact xD | fail) [-Option.bind_some, -Aa, -Ab, qm, Z1, show ¬ 0 < k by omega]
  rw [← hW3]
  exact fin _ W3 ms _ rfl hmf rfl rfl rfl V1 V2 oW (fun b h => by rw [sW]; exact h) N3
 by_cases hkm : ms.length ≤ k
 ·simp (disch := first | exact xD | fail) [-Option.bind_some, -Aa, -Ab, qm, Z1, show 0 < k by omega, show ¬ k < ms.length by omega]
  rw [← hW3]
  exact fin _ W3 ms _ rfl hmf rfl rfl rfl V1 V2 oW (fun b h => by rw [sW]; exact h) N3
 obtain ⟨u, hu, _⟩ := Ak (l := ms) (k := k - 1) (by omega)
 obtain ⟨v, hv, _⟩ := Ak (l := ms) (k := k) (by omega)
 have qu := hmf u (List.mem_of_getElem? hu)
 have qv := hmf v (List.mem_of_getElem? hv)
 have qun : ms.length ≤ 100 := by omega
 obtain ⟨g, o6, cs6, rfl, A6, D6, _, l6⟩ := o3'.d.at (by decide) hu
 obtain ⟨a5, c5, a6, c6, rfl, h5, h6⟩ := D.node.1 D6
 have p0 := A6 0 _ rfl
 have p1 := A6 1 _ rfl
 simp only [Bd, Nat.add_zero] at p0 p1
 obtain ⟨b7, o7, cs7, hb7, A7, D7, _, l7⟩ := o3'.d.at (by decide) hv
 simp only [Option.some.injEq, Addr.mk.injEq, and_true] at hb7
 obtain ⟨rfl, rfl⟩ := hb7
 obtain ⟨a7, c7, a8, c8, rfl, h7, h8⟩ := D.node.1 D7
 have q0 := A7 0 _ rfl
 have q1 := A7 1 _ rfl
 simp only [Bd, Nat.add_zero] at q0 q1
 have hgw : g ≠ w.heap.size ∧ g ≠ w.heap.size + 1 := by
  obtain ⟨g', _, _, _, he, hSg', _⟩ := o3'.OA (by decide) hu
  simp only [Option.some.injEq, Addr.mk.injEq, and_true] at he
  omega
 simp (disch := first | exact xD | fail) [-Option.bind_some, qs, -Aa, -Ab, qm, Z1, show 0 < k by omega, show k < ms.length by omega, Cx, show (k : Int) - 1 = ((k - 1 : Nat) : Int) by omega, p0, q0]
 rw [← hW3]
 have EW : ∀ b, b ≠ w.heap.size → hp (dw W3) b = hp w2 b := fun b h => (BB _ _).trans (kW b h)
 refine Ae.bind (MQ qu.1 qv.1 (h5.Aj (w' := dw W3) (fun b hS hb => EW b (by omega))) (h7.Aj (w' := dw W3) (fun b hS hb => EW b (by omega)))) ?_
 rintro ⟨_, w4⟩ ⟨ls, a4, c4, rfl, o4, hl4, hlu, E4⟩
 have zE4 := E4.size
 try simp only [qz] at zE4
 try dsimp only at o4 E4
 have zE4 := E4.size
 rw [Ad] at zE4 o4
 have k4 : ∀ b, b < W3.heap.size → hp w4 b = hp W3 b := fun b hb => (E4.Ai (by rw [Ad]; exact hb)).trans (BB _ _)
 obtain ⟨g', cur, ds, Sx, hge, hSg, hgl, hg, hle, hx1, hSx, put⟩ := (oW.Aj (w' := w4) (fun b hS hb => k4 b hb)).OA (by decide) hu
 simp only [Option.some.injEq, Addr.mk.injEq, and_true] at hge
 obtain ⟨rfl, rfl⟩ := hge
 obtain ⟨a9', c9', a6', c6', Ss, Sw, rfl, o5, o6, hSs, hSw⟩ := O.Kz hx1
 simp only [Bd] at hg hle put
 have U1 : hp w4 w.heap.size = some (.cells #[.slice (some ⟨g, 0, none⟩) ms.length c3] 81 (0, 0)) := (k4 _ (by omega)).trans V1
 have U2 : hp w4 (w.heap.size + 1) = some (.cells #[.slice none 0 0] 81 (0, 0)) := (k4 _ (by omega)).trans V2
 simp (disch := first | exact xD | fail) [-Option.bind_some, -Aa, -Ab, qm, U1, hg]
 have sub : ∀ b, Sx b → b ≠ g ∧ b < w2.heap.size ∧ ((S b ∧ b < w.heap.size) ∨ (w.heap.size + 1 + 1 ≤ b ∧ b < w2.heap.size)) := by
  intro b h
  have q := hSx b h
  exact ⟨q.2.1, by omega, q.1⟩
 have oP := put (w4.setRow g (Bh cur ((k - 1) * 2) [.slice a9' u.store.length c9', .slice a4 ls.length c4]).toArray) _ ⟨u.store, ls⟩ _ (O.FC (v := ⟨u.store, ls⟩) (o5.Aj (fun b hS hb => Ac (sub b (hSs b hS).1).1)) (o4.Aj (fun b hS hb => Ac (by omega))) (fun b _ h1 h2 => by have := (sub b (hSs b h1).1).2.1; omega)) (by first | assumption | rfl | (simp (disch := first | exact xD | fail) [-Option.bind_some, -Aa, -Ab, hg]; done))
  (fun b hb _ hne' hn => Ac hne') (fun b _ h => by rcases h with h | h; exact .inl (hSs b h).1; exact .inr (by omega))
 refine fin _ _ (ms.set (k - 1) ⟨u.store, ls⟩) _ (by rw [List.length_set]) ?_ rfl rfl rfl ((Ac (by omega)).trans U1) ((Ac (by omega)).trans U2) oP.lt ?_ ?_
 ·intro y hy
  rcases List.mem_or_eq_of_mem_set hy with h | rfl
  ·exact hmf y h
  ·exact ⟨qu.1, by show ls.length ≤ 6; omega, qu.2.2.1, fun v hv => qu.2.2.1 v (hlu v hv)⟩
 ·intro b h
  rw [size_setRow] at h ⊢
  rcases h.1 with h1 | h1 | h1
  ·rcases h1.1 with q | q
   ·exact .inl q
   ·exact .inr (by omega)
  ·rcases (sub b (hSs b h1).1).2.2 with q | q
   ·exact .inl q
   ·exact .inr (by omega)
  ·right
   omega
 ·refine (N3.ex ((BJ _).tr E4)).AL ?_ _
  rcases hSg with h | h
  ·exact .inr h.1
  ·exact .inl (by omega)
def Lh (ns : List CNode) : Prop := 0 < ns.length ∧ ns.length ≤ 4 ∧ ∀ x ∈ ns, QA x
theorem TV : QA IA := by
 refine ⟨rfl, by decide, fun v hv => ?_, fun v hv => by simp [IA] at hv⟩
 obtain rfl := List.eq_of_mem_replicate hv
 exact ⟨by decide, by decide⟩
theorem Rp {m : Nat} (h : m < 4) : Lh (BA (1 + (m : Int))) := by
 have e : BA (1 + (m : Int)) = List.replicate (m + 1) IA := by
  rw [BA, if_pos (by simp only [Bool.and_eq_true, decide_eq_true_eq]; omega)]
  congr 1
  omega
 rw [e]
 refine ⟨by simp, by simp; omega, fun x hx => ?_⟩
 obtain rfl := List.eq_of_mem_replicate hx
 exact TV
theorem OR {ns : List CNode} {i : Nat} {v : Ver} {x : CNode} (h : Lh ns) (hx : ns[i]? = some x) (h6 : x.wait.length < 6) (hv : MR v) : Lh (F8 ns i v) := by
 have q := h.2.2 x (List.mem_of_getElem? hx)
 unfold F8
 rw [hx]
 dsimp only
 split
 ·split
  ·refine ⟨by rw [List.length_set]; exact h.1, by rw [List.length_set]; exact h.2.1, fun y hy => ?_⟩
   rcases List.mem_or_eq_of_mem_set hy with hy | rfl
   ·exact h.2.2 y hy
   ·refine ⟨?_, ?_, ?_, ?_⟩
    ·simp only [addNode, List.length_set]
     exact q.1
    ·unfold addNode
     dsimp only
     split
     ·omega
     ·rw [List.length_append]; simp only [List.length_cons, List.length_nil]; omega
    ·intro u hu
     simp only [addNode] at hu
     rcases List.mem_or_eq_of_mem_set hu with hu | rfl
     ·exact q.2.2.1 u hu
     ·exact hv
    ·intro u hu
     unfold addNode at hu
     dsimp only at hu
     split at hu
     ·exact q.2.2.2 u hu
     ·rcases List.mem_append.1 hu with hu | hu
      ·exact q.2.2.2 u hu
      ·obtain rfl := List.mem_singleton.1 hu
       exact hv
  ·exact h
 ·exact h
theorem QB {ns : List CNode} {k : Nat} {x y : CNode} {v : Ver} {l : List Ver} (h : Lh ns) (hx : ns[k]? = some x) (hy : ns[k + 1]? = some y) (hw : x.wait = v :: l) (h6 : y.wait.length < 6) : Lh (Gt ns k) := by
 have q := h.2.2 x (List.mem_of_getElem? hx)
 have qw := q.2.2.2
 rw [hw] at qw
 rw [JM hx hw]
 refine OR (x := y) ⟨by rw [List.length_set]; exact h.1, by rw [List.length_set]; exact h.2.1, fun z hz => ?_⟩ (by rw [List.getElem?_set_ne (by omega)]; exact hy) h6 (qw v List.mem_cons_self)
 rcases List.mem_or_eq_of_mem_set hz with hz | rfl
 ·exact h.2.2 z hz
 ·refine ⟨q.1, ?_, q.2.2.1, fun u hu => qw u (List.mem_cons_of_mem _ hu)⟩
  have := q.2.1
  rw [hw] at this
  simp only [List.length_cons] at this
  show l.length ≤ 6
  omega
theorem QC {ns : List CNode} (h : Lh ns) (h4 : ns.length < 4) : Lh (Ed ns) := by
 obtain ⟨x, hx, _⟩ := Ak (l := ns) (k := ns.length - 1) (by have := h.1; omega)
 have hj : Ed ns = ns ++ [⟨x.store, []⟩] := by rw [Ed, JP, hx]
 have q := h.2.2 x (List.mem_of_getElem? hx)
 rw [hj]
 refine ⟨by simp, by simp; omega, fun y hy => ?_⟩
 rcases List.mem_append.1 hy with hy | hy
 ·exact h.2.2 y hy
 ·obtain rfl := List.mem_singleton.1 hy
  exact ⟨q.1, by simp, q.2.2.1, by simp⟩
theorem HJ {a : Option Addr} {n c : Nat} {S : Nat → Prop} {ns : List CNode} {x : CNode} (hx : ns[0]? = some x) {w : World} (ha : D AV S w [.slice a n c] ns) :
  Ae (EV P 142 #[.agg #[.slice a n c]] w) fun r => r.1 = .bool (decide (x.wait.length < 6)) ∧ Ext w r.2 := by
 have hl0 : 0 < ns.length := (List.getElem?_eq_some_iff.1 hx).1
 obtain ⟨rfl, hm, _⟩ := ha.n
 obtain ⟨b1, o1, cs1, rfl, A1, D1, _, l1⟩ := ha.at (by decide) hx
 obtain ⟨a2, c2, a3, c3, rfl, h2, h3⟩ := D.node.1 D1
 have p0 := A1 0 _ rfl
 have p1 := A1 1 _ rfl
 simp only [Bd, Nat.add_zero] at p0 p1
 refine Ae.post fun Q hQ => ?_
 refine Ae.enter plain mixed (KK _ _) (by kernel_rfl) (n := 1) (by kernel_rfl) rfl ?_
 cases h6 : decide (x.wait.length < 6)
 ·rw [h6] at hQ
  simp only [decide_eq_false_iff_not] at h6
  simp (disch := first | exact xD | fail) [-Option.bind_some, qs, -Aa, -Ab, Cx, show ¬ (x.wait.length : Int) < 6 by omega, p1]
  exact hQ _ ⟨rfl, xE⟩
 ·rw [h6] at hQ
  simp only [decide_eq_true_eq] at h6
  simp (disch := first | exact xD | fail) [-Option.bind_some, qs, -Aa, -Ab, Cx, show (x.wait.length : Int) < 6 by omega, p1]
  exact hQ _ ⟨rfl, xE⟩
end Go.Proofs.YtjhhommnkaemlaaGreat.X
