/- A part of the proof, without conditions. -/
import Derived.Test.YtjhhommnkaemlaaGreatEvK
import Derived.Test.YtjhhommnkaemlaaGreatS3
set_option linter.unusedVariables false
set_option linter.unusedSimpArgs false
set_option linter.deprecated false
set_option maxRecDepth 100000
set_option maxHeartbeats 1000000
namespace Go.Proofs.YtjhhommnkaemlaaGreat.X
open Go Go.Ev Go.RowKit
def JP (ns : List CNode) : List Ver := match ns[ns.length - 1]? with
 | some n => n.store
 | none => []
theorem HN {a : Option Addr} {n c : Nat} {S : Nat → Prop} {vs : List Ver} {w : World} (h4 : vs.length = 4) (ha : D AQ S w [.slice a n c] vs) :
  Ae (EV P 83 #[.agg #[.slice a n c]] w) fun r => ∃ a' c', r.1 = .agg #[.slice a' (B9 vs).length c'] ∧ O AJ (In w.heap.size r.2.heap.size) r.2 [.slice a' (B9 vs).length c'] (B9 vs) ∧ Ext w r.2 := by
 refine Ae.mono (MD  (D.IP ha)) ?_
 rintro r ⟨s', h1, f2, E2⟩
 have zE2 := E2.size
 try simp only [qz] at zE2
 obtain ⟨a3, c3, hs', o3⟩ := (Ow f2).Gn
 obtain rfl := (List.cons.inj hs').1
 exact ⟨a3, c3, h1, o3, E2⟩
theorem LF {a : Option Addr} {c g1 g2 g3 g5 B k : Nat} {S : Nat → Prop} {xs : List CNode} {x : CNode} {w0 : World} {R : Value × World → Prop} (h12 : g1 < g2) (h32 : g2 < g3) (h02 : w0.heap.size ≤ g1) (h3B : g3 < B) (hB5 : B ≤ g5)
  (ha : D AV S w0 [.slice a xs.length c] xs) (hlt : k < xs.length) (hx : xs[k]? = some x)
  (nx : ∀ (e : Env) (w : World) (a3 : Option Addr) (c3 : Nat) (sv : Value), e 1 = pt g1 0 → e 2 = pt g2 0 → e 3 = pt g3 0 → e 4 = i64 ((k + 1 : Nat) : Int) → hp w g1 = some (.cells #[.slice a xs.length c] 81 (0, 0)) → hp w g2 = some (.cells #[sv] 81 (0, 0)) → hp w g3 = some (.cells #[.slice a3 (k + 1) c3] 81 (0, 0)) →
   Ext w0 w → O AV (fun b => In w0.heap.size w.heap.size b ∧ b ≠ g1 ∧ b ≠ g2 ∧ b ≠ g3) w [.slice a3 (k + 1) c3] (xs.take (k + 1)) → Ae (Ck e w) R) :
  ∀ (d j : Nat) (e : Env) (w : World) (a3 a5 a6 : Option Addr) (c3 c5 c6 : Nat) (sv : Value), j + d = x.wait.length → e 1 = pt g1 0 → e 2 = pt g2 0 → e 3 = pt g3 0 → e 4 = i64 k → e 5 = pt g5 0 → e 6 = i64 j →
   hp w g1 = some (.cells #[.slice a xs.length c] 81 (0, 0)) → hp w g2 = some (.cells #[sv] 81 (0, 0)) → hp w g3 = some (.cells #[.slice a3 k c3] 81 (0, 0)) → hp w g5 = some (.cells #[.slice a5 x.store.length c5, .slice a6 j c6] 86 (0, 0)) →
   Ext w0 w → O AV (fun b => In w0.heap.size B b ∧ b ≠ g1 ∧ b ≠ g2 ∧ b ≠ g3) w [.slice a3 k c3] (xs.take k) → O AQ (In B g5) w [.slice a5 x.store.length c5] x.store → O AQ (In (g5 + 1) w.heap.size) w [.slice a6 j c6] (x.wait.take j) →
   Ae (C5 e w) R := by
 have hn := ha.n
 have htk : (xs.take k).length = k := by rw [List.length_take]; omega
 intro d
 induction d with
 | zero =>
  intro j e w a3 a5 a6 c3 c5 c6 sv hd e1 e2 e3 e4 e5 e6 X1 X2 X3 X5 E0 ho o5 o6
  have zE0 := E0.size
  try simp only [qz] at zE0
  rw [Fg]
  obtain rfl : j = x.wait.length := by omega
  rw [List.take_length] at o6
  obtain ⟨b1, o1, cs1, rfl, A1, D1, _, l1⟩ := (ha.ext E0).at (by decide) hx
  obtain ⟨a2, c2, a4, c4, rfl, h2, h3⟩ := D.node.1 D1
  have p0 := A1 0 _ rfl
  have p1 := A1 1 _ rfl
  simp only [Bd, Nat.add_zero] at p0 p1
  have y1 := Aq X1
  have y2 := Aq X2
  have y3 := Aq X3
  have y5 := Aq X5
  have zE0 := E0.size
  refine Ae.post fun Q hQ => ?_
  simp (disch := first | exact xD | fail) [-Option.bind_some, qs, -Aa, -Ab, e1, e3, e4, e5, e6, X1, X3, X5, Cx, p1]
  refine Ae.bind (O.app (L := Nm) (mx := 2932031007317) Ly O0 rfl (by decide) (ho.Aj (by intro b hS hb; (try dsimp only at hS); (try simp only [In] at hS hb); first | rfl | (simp (disch := first | exact xF | fail) only [qk]; done))) (O.FC (v := x) (o5.Aj (by intro b hS hb; (try dsimp only at hS); (try simp only [In] at hS hb); first | rfl | (simp (disch := first | exact xF | fail) only [qk]; done))) (o6.Aj (by intro b hS hb; (try dsimp only at hS); (try simp only [In] at hS hb); first | rfl | (simp (disch := first | exact xF | fail) only [qk]; done))) xI) ?_ At.new (by omega) (by decide) (by decide)) ?_
  ·intro b hb h1 h2
   simp only [In, World.size_alloc] at *
   omega
  rintro ⟨_, w3⟩ ⟨a7, c7, rfl, o7, M3⟩
  have zM3 := M3.size
  try simp only [qz] at zM3
  try dsimp only at o7 M3
  have zM3 := M3.size
  simp only [World.size_alloc] at zM3
  rw [htk, ← Hk hx] at o7
  rw [htk]
  have Y1 : hp w3 g1 = hp w g1 := (M3.Ai g1 xN xN).trans (by first | assumption | rfl | (simp (disch := first | exact xD | fail) [-Option.bind_some, qs, X1]; done))
  have Y2 : hp w3 g2 = hp w g2 := (M3.Ai g2 xN xN).trans (by first | assumption | rfl | (simp (disch := first | exact xD | fail) [-Option.bind_some, qs, X2]; done))
  have Y3 : hp w3 g3 = hp w g3 := (M3.Ai g3 xN xN).trans (by first | assumption | rfl | (simp (disch := first | exact xD | fail) [-Option.bind_some, qs, X3]; done))
  simp (disch := first | exact xD | fail) [-Option.bind_some, -Aa, -Ab, qm, X3, Y3]
  have E3 : Ext w0 w3 := Mod.after (E0.tr xE) M3 xI
  have zE3 := E3.size
  try simp only [qz] at zE3
  refine Ae.mono (nx _ _ a7 c7 sv xA xA xA xA (by first | assumption | rfl | (simp (disch := first | exact xD | fail) [-Option.bind_some, qs, -Aa, -Ab, Y1, X1]; done)) (by first | assumption | rfl | (simp (disch := first | exact xD | fail) [-Option.bind_some, qs, -Aa, -Ab, Y2, X2]; done)) (by first | assumption | rfl | (simp (disch := first | exact xD | fail) [-Option.bind_some, -Aa, -Ab, Y3, X3]; done)) xE (((o7.wide (S' := fun b => In w0.heap.size w3.heap.size b ∧ b ≠ g1 ∧ b ≠ g2 ∧ b ≠ g3) ?_).Aj (by intro b hS hb; (try dsimp only at hS); (try simp only [In] at hS hb); first | rfl | (simp (disch := first | exact xF | fail) only [qk]; done))).wide ?_)) hQ
  ·intro b h1 h2
   simp only [In, World.size_alloc] at *
   omega
  ·intro b h1 h2
   simp only [In, World.size_alloc, size_setRow] at *
   omega
 | succ d ih =>
  intro j e w a3 a5 a6 c3 c5 c6 sv hd e1 e2 e3 e4 e5 e6 X1 X2 X3 X5 E0 ho o5 o6
  have zE0 := E0.size
  try simp only [qz] at zE0
  rw [Fg]
  have hlj : j < x.wait.length := by omega
  obtain ⟨v, hv, _⟩ := Ak hlj
  obtain ⟨b1, o1, cs1, rfl, A1, D1, _, l1⟩ := (ha.ext E0).at (by decide) hx
  obtain ⟨a2, c2, a4, c4, rfl, h2, h3⟩ := D.node.1 D1
  have p0 := A1 0 _ rfl
  have p1 := A1 1 _ rfl
  simp only [Bd, Nat.add_zero] at p0 p1
  have hn3 := h3.n
  obtain ⟨b2, o2, cs2, rfl, A2, D2, _, l2⟩ := h3.at (by decide) hv
  have D2' := D2
  obtain ⟨av, cv, rfl, hq1, ht1⟩ := D.BV.1 D2
  have q0 := A2 0 _ rfl
  have q1 := A2 1 _ rfl
  have q2 := A2 2 _ rfl
  have q3 := A2 3 _ rfl
  have q4 := A2 4 _ rfl
  have q5 := A2 5 _ rfl
  simp only [Bw, Nat.add_zero] at q0 q1 q2 q3 q4 q5
  have htj : (x.wait.take j).length = j := by rw [List.length_take]; omega
  have y1 := Aq X1
  have y2 := Aq X2
  have y3 := Aq X3
  have y5 := Aq X5
  have zE0 := E0.size
  refine Ae.post fun Q hQ => ?_
  simp (disch := first | exact xD | fail) [-Option.bind_some, qs, -Aa, -Ab, e1, e4, e5, e6, X1, X5, Cx, BP, show (j : Int) < x.wait.length by omega, p1, q0, q1, q2, q3, q4, q5]
  refine Ae.bind (AX (D2'.ext xE)) ?_
  rintro ⟨_, w1⟩ ⟨ds, rfl, o8, E1⟩
  try dsimp only at ds o8 E1
  have zE1 := E1.size
  try simp only [qz] at zE1
  have zo := O.BV.1 o8
  obtain ⟨a8, c8, rfl, _, _⟩ := zo
  simp (disch := first | exact xD | fail) [-Option.bind_some, qs, -Aa, -Ab, X5, E1.Ai]
  refine Ae.bind (O.app (L := BW) (mx := 1954687338211) CP Fw rfl (by decide) (o6.Aj (by intro b hS hb; (try dsimp only at hS); (try simp only [In] at hS hb); first | rfl | (simp (disch := first | exact xF | fail) only [E1.Ai, qk]; done))) (o8.Aj (by intro b hS hb; (try dsimp only at hS); (try simp only [In, qz] at hS hb); first | rfl | (simp (disch := first | exact xF | fail) only [qk]; done))) ?_ At.new (by omega) (by decide) (by decide)) ?_
  ·intro b hb h1 h2
   simp only [In, World.size_alloc, Ad] at *
   omega
  rintro ⟨_, w3⟩ ⟨a7, c7, rfl, o7, M3⟩
  have zM3 := M3.size
  try simp only [qz] at zM3
  try dsimp only at o7 M3
  have zM3 := M3.size
  simp only [World.size_alloc] at zM3
  rw [htj, ← Hk hv] at o7
  rw [htj]
  have Y1 : hp w3 g1 = hp w g1 := (M3.Ai g1 xN xN).trans (by first | assumption | rfl | (simp (disch := first | exact xD | fail) [-Option.bind_some, qs, X1, E1.Ai]; done))
  have Y2 : hp w3 g2 = hp w g2 := (M3.Ai g2 xN xN).trans (by first | assumption | rfl | (simp (disch := first | exact xD | fail) [-Option.bind_some, qs, X2, E1.Ai]; done))
  have Y3 : hp w3 g3 = hp w g3 := (M3.Ai g3 xN xN).trans (by first | assumption | rfl | (simp (disch := first | exact xD | fail) [-Option.bind_some, qs, X3, E1.Ai]; done))
  have Y5 : hp w3 g5 = hp w g5 := (M3.Ai g5 xN xN).trans (by first | assumption | rfl | (simp (disch := first | exact xD | fail) [-Option.bind_some, qs, X5, E1.Ai]; done))
  simp (disch := first | exact xD | fail) [-Option.bind_some, -Aa, -Ab, qm, X5, Y5]
  have E3 : Ext w0 w3 := Mod.after (E0.tr xE) M3 xI
  have zE3 := E3.size
  try simp only [qz] at zE3
  refine Ae.mono (ih (j + 1) _ _ a3 a5 a7 c3 c5 c7 sv (by omega) xA xA xA xA xA xA (by first | assumption | rfl | (simp (disch := first | exact xD | fail) [-Option.bind_some, qs, -Aa, -Ab, Y1, X1]; done)) (by first | assumption | rfl | (simp (disch := first | exact xD | fail) [-Option.bind_some, qs, -Aa, -Ab, Y2, X2]; done)) (by first | assumption | rfl | (simp (disch := first | exact xD | fail) [-Option.bind_some, qs, -Aa, -Ab, Y3, X3]; done)) (by first | assumption | rfl | (simp (disch := first | exact xD | fail) [-Option.bind_some, -Aa, -Ab, Y5, X5]; done)) xE (ho.Aj ?_) (o5.Aj ?_) (((o7.wide (S' := In (g5 + 1) w3.heap.size) ?_).Aj (by intro b hS hb; (try dsimp only at hS); (try simp only [In] at hS hb); first | rfl | (simp (disch := first | exact xF | fail) only [qk]; done))).wide ?_)) hQ
  ·intro b hS hb
   simp only [In] at hS
   exact (show hp _ b = hp w3 b from (by first | assumption | rfl | (simp (disch := first | exact xD | fail) [-Option.bind_some, qs, E1.Ai, M3.Ai]; done))).trans ((M3.Ai b xN xN).trans (by first | assumption | rfl | (simp (disch := first | exact xD | fail) [-Option.bind_some, qs, E1.Ai]; done)))
  ·intro b hS hb
   simp only [In] at hS
   exact (show hp _ b = hp w3 b from (by first | assumption | rfl | (simp (disch := first | exact xD | fail) [-Option.bind_some, qs, E1.Ai, M3.Ai]; done))).trans ((M3.Ai b xN xN).trans (by first | assumption | rfl | (simp (disch := first | exact xD | fail) [-Option.bind_some, qs, E1.Ai]; done)))
  ·intro b h1 h2
   simp only [In, World.size_alloc, Ad] at *
   omega
  ·intro b h1 h2
   simp only [In, World.size_alloc, size_setRow, Ad] at *
   omega
theorem LG {a : Option Addr} {c g1 g2 g3 : Nat} {S : Nat → Prop} {xs : List CNode} {w0 : World} (h12 : g1 < g2) (h32 : g2 < g3) (h02 : w0.heap.size ≤ g1) (ha : D AV S w0 [.slice a xs.length c] xs) :
  ∀ (d k : Nat) (e : Env) (w : World) (a3 : Option Addr) (c3 : Nat) (sv : Value), k + d = xs.length → e 1 = pt g1 0 → e 2 = pt g2 0 → e 3 = pt g3 0 → e 4 = i64 k → hp w g1 = some (.cells #[.slice a xs.length c] 81 (0, 0)) → hp w g2 = some (.cells #[sv] 81 (0, 0)) → hp w g3 = some (.cells #[.slice a3 k c3] 81 (0, 0)) →
  Ext w0 w → O AV (fun b => In w0.heap.size w.heap.size b ∧ b ≠ g1 ∧ b ≠ g2 ∧ b ≠ g3) w [.slice a3 k c3] (xs.take k) →
  Ae (Ck e w) fun r => ∃ a' c', r.1 = .agg #[.slice a' xs.length c'] ∧ O AV (In w0.heap.size r.2.heap.size) r.2 [.slice a' xs.length c'] xs ∧ Ext w0 r.2 := by
 have hn := ha.n
 intro d
 induction d with
 | zero =>
  intro k e w a3 c3 sv hd e1 e2 e3 e4 X1 X2 X3 E0 ho
  have zE0 := E0.size
  try simp only [qz] at zE0
  rw [Ff]
  obtain rfl : k = xs.length := by omega
  rw [List.take_length] at ho
  have y1 := Aq X1
  have y2 := Aq X2
  have y3 := Aq X3
  refine Ae.post fun Q hQ => ?_
  simp (disch := first | exact xD | fail) [-Option.bind_some, -Aa, -Ab, qm, e1, e2, e3, e4, X1, X2, X3]
  exact hQ _ ⟨_, _, rfl, (ho.Aj (by intro b hS hb; (try dsimp only at hS); (try simp only [In] at hS hb); first | rfl | (simp (disch := first | exact xF | fail) only [qk]; done))).wide xV, xE⟩
 | succ d ih =>
  intro k e w a3 c3 sv hd e1 e2 e3 e4 X1 X2 X3 E0 ho
  have zE0 := E0.size
  try simp only [qz] at zE0
  rw [Ff]
  have hlt : k < xs.length := by omega
  obtain ⟨x, hx, _⟩ := Ak hlt
  have l2 := fun (g5 B : Nat) (h3B : g3 < B) (hB5 : B ≤ g5) => LF (c := c) h12 h32 h02 h3B hB5 ha hlt hx (fun e w a3 c3 sv e1 e2 e3 e4 X1 X2 X3 E0 ho => ih (k + 1) e w a3 c3 sv (by omega) e1 e2 e3 e4 X1 X2 X3 E0 ho)
  obtain ⟨b1, o1, cs1, rfl, A1, D1, _, l1⟩ := (ha.ext E0).at (by decide) hx
  obtain ⟨a2, c2, a4, c4, rfl, h2, h3⟩ := D.node.1 D1
  have p0 := A1 0 _ rfl
  have p1 := A1 1 _ rfl
  simp only [Bd, Nat.add_zero] at p0 p1
  have y1 := Aq X1
  have y2 := Aq X2
  have y3 := Aq X3
  have zE0 := E0.size
  refine Ae.post fun Q hQ => ?_
  simp (disch := first | exact xD | fail) [-Option.bind_some, qs, -Aa, -Ab, e1, e4, X1, hlt, Cx, p0]
  refine Ae.bind (EM (h2.ext xE)) ?_
  rintro ⟨_, w1⟩ ⟨a5, c5, rfl, o5, E1⟩
  try dsimp only at a5 c5 o5 E1
  have zE1 := E1.size
  try simp only [qz] at zE1
  simp (disch := first | exact xD | fail) [-Option.bind_some, -Aa, -Ab, qm]
  refine Ae.mono (l2 w1.heap.size w.heap.size (by omega) (by omega) x.wait.length 0 _ _ a3 a5 none c3 c5 0 sv (by omega) xA xA xA xA xA xA (by first | assumption | rfl | (simp (disch := first | exact xD | fail) [-Option.bind_some, qs, -Aa, -Ab, X1, E1.Ai]; done)) (by first | assumption | rfl | (simp (disch := first | exact xD | fail) [-Option.bind_some, qs, -Aa, -Ab, X2, E1.Ai]; done)) (by first | assumption | rfl | (simp (disch := first | exact xD | fail) [-Option.bind_some, qs, -Aa, -Ab, X3, E1.Ai]; done)) (by first | assumption | rfl | (simp (disch := first | exact xD | fail) [-Option.bind_some, qs, -Aa, -Ab]; done)) xE ((ho.Aj (by intro b hS hb; (try dsimp only at hS); (try simp only [In] at hS hb); first | rfl | (simp (disch := first | exact xF | fail) only [E1.Ai, qk]; done))).wide xV) (o5.Aj (by intro b hS hb; (try dsimp only at hS); (try simp only [In] at hS hb); first | rfl | (simp (disch := first | exact xF | fail) only [qk]; done))) ?_) hQ
  exact O.nil
theorem HO {a : Option Addr} {n c : Nat} {S : Nat → Prop} {xs : List CNode} {w : World} (ha : D AV S w [.slice a n c] xs) :
  Ae (EV P 111 #[.agg #[.slice a n c]] w) fun r => ∃ a' c', r.1 = .agg #[.slice a' xs.length c'] ∧ O AV (In w.heap.size r.2.heap.size) r.2 [.slice a' xs.length c'] xs ∧ Ext w r.2 := by
 obtain ⟨rfl, hm, _⟩ := ha.n
 refine Ae.post fun Q hQ => ?_
 refine Ae.enter plain mixed (KN _ _) (by kernel_rfl) (n := 1) (by kernel_rfl) rfl ?_
 simp (disch := first | exact xD | fail) [-Option.bind_some, qs, -Aa, -Ab, qm]
 refine Ae.mono (LG (g1 := w.heap.size) (g2 := w.heap.size + 1) (g3 := w.heap.size + 1 + 1) (w0 := w) (by omega) (by omega) (by omega) ha xs.length 0 _ _ none 0 (.slice none 0 0) (by omega) rfl rfl rfl rfl (by first | assumption | rfl | (simp (disch := first | exact xD | fail) [-Option.bind_some, qs, -Aa, -Ab]; done)) (by first | assumption | rfl | (simp (disch := first | exact xD | fail) [-Option.bind_some, qs, -Aa, -Ab]; done)) (by first | assumption | rfl | (simp (disch := first | exact xD | fail) [-Option.bind_some, qs, -Aa, -Ab]; done)) xE O.nil) ?_
 rintro r ⟨a4, c4, h1, o4, E4⟩
 have zE4 := E4.size
 try simp only [qz] at zE4
 exact hQ _ ⟨_, _, h1, o4, E4⟩
end Go.Proofs.YtjhhommnkaemlaaGreat.X
