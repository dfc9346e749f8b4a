/- A part of the proof, without conditions. -/
import Derived.Test.YtjhhommnkaemlaaGreatEvJ
import Derived.Test.YtjhhommnkaemlaaGreatC17
set_option linter.unusedVariables false
set_option linter.unusedSimpArgs false
set_option linter.deprecated false
set_option maxRecDepth 100000
set_option maxHeartbeats 1000000
namespace Go.Proofs.YtjhhommnkaemlaaGreat.X
open Go Go.Ev Go.RowKit
abbrev AJ : Lay (List Tag) := GD 36
abbrev BW : Lay Ver := Ko 36
abbrev AQ : Lay (List Ver) := ES 36 49
theorem At.new {w : World} {cs : List Value} {E : TypeId} : At (w.alloc (.cells cs.toArray E)) w.heap.size 0 cs := by
 intro j v hv
 rw [An rfl, Bm, ← BQ, Nat.zero_add]
 simpa using hv
theorem EL {a : Option Addr} {n c : Nat} {S : Nat → Prop} {xs : List Tag} {w : World} (ha : D AJ S w [.slice a n c] xs) :
  Ae (EV P 36 #[.agg #[.slice a n c]] w) fun r => ∃ a' c', r.1 = .agg #[.slice a' xs.length c'] ∧ O AJ (In w.heap.size r.2.heap.size) r.2 [.slice a' xs.length c'] xs ∧ Ext w r.2 := by
 refine Ae.mono (EO ha.A0) ?_
 rintro ⟨_, w1⟩ ⟨s, rfl, h1, h2⟩
 obtain ⟨a', c', rfl, h3⟩ := Tn h1
 exact ⟨a', c', rfl, h3, h2⟩
theorem AX {S : Nat → Prop} {cs : List Value} {v : Ver} {w : World} (ha : D BW S w cs v) :
  Ae (EV P 98 #[.agg cs.toArray] w) fun r => ∃ ds, r.1 = .agg ds.toArray ∧ O BW (In w.heap.size r.2.heap.size) r.2 ds v ∧ Ext w r.2 := by
 obtain ⟨a, c, rfl, h1, h2⟩ := D.BV.1 ha
 have hn := h1.n
 refine Ae.enter plain mixed (Le _ _) (by kernel_rfl) (n := 1) (by kernel_rfl) rfl ?_
 simp (disch := first | exact xD | fail) [-Option.bind_some, qs]
 refine Ae.bind (O.IZ (L := Ey) (mx := 8796093021952) BH CD F9 rfl (by decide) (O.empty (g := w.heap.size + 1 + 1) (by first | assumption | rfl | (simp (disch := first | exact xD | fail) [-Option.bind_some, qs]; done))) (h1.ext xE) (by simp; omega) (by decide) (by decide)) ?_
 rintro ⟨_, w1⟩ ⟨a1, c1, rfl, o1, M1⟩
 have zM1 := M1.size
 try simp only [qz] at zM1
 dsimp only at o1 M1
 have zM1 := M1.size
 simp only [World.size_alloc, List.nil_append, List.length_nil, Nat.zero_add] at o1 zM1
 have X1 := M1.Ai w.heap.size (by simp only [World.size_alloc]; omega) (by omega)
 have X2 := M1.Ai (w.heap.size + 1) (by simp only [World.size_alloc]; omega) (by omega)
 simp (disch := first | exact xD | fail) [-Option.bind_some, qs, M1.Ai]
 refine ⟨(O.BV.2 ⟨a1, c1, rfl, o1.Aj (by intro b hS hb; (try dsimp only at hS); (try simp only [In, qz] at hS hb); first | rfl | (simp (disch := first | exact xF | fail) only [qk]; done)), h2⟩).wide xV, ?_⟩
 exact Ext.set (Ext.set (Mod.after (a := w) xE M1 (by intro x hx h; omega)) (by omega) _) (by omega) _
theorem Hy {a : Option Addr} {c g1 g2 g3 : Nat} {S : Nat → Prop} {xs : List Ver} {w0 : World} (h12 : g1 < g3) (h32 : g2 < g3) (h03 : w0.heap.size ≤ g1) (h02 : w0.heap.size ≤ g2) (hne : g1 ≠ g2) :
  ∀ (d k : Nat) (e : Env) (w : World) (a3 : Option Addr) (c3 : Nat) (sv : Value), k + d = xs.length → e 1 = pt g1 0 → e 2 = pt g2 0 → e 3 = pt g3 0 → e 4 = i64 k → hp w g1 = some (.cells #[.slice a xs.length c] 44 (0, 0)) → hp w g2 = some (.cells #[sv] 44 (0, 0)) → hp w g3 = some (.cells #[.slice a3 k c3] 44 (0, 0)) →
  D AQ S w0 [.slice a xs.length c] xs → Ext w0 w → O AQ (In (g3 + 1) w.heap.size) w [.slice a3 k c3] (xs.take k) →
  Ae (BK e w) fun r => ∃ a' c', r.1 = .agg #[.slice a' xs.length c'] ∧ O AQ (In (g3 + 1) r.2.heap.size) r.2 [.slice a' xs.length c'] xs ∧ Ext w0 r.2 := by
 intro d
 induction d with
 | zero =>
  intro k e w a3 c3 sv hd e1 e2 e3 e4 X1 X2 X3 ha E0 ho
  have zE0 := E0.size
  try simp only [qz] at zE0
  rw [C7]
  obtain rfl : k = xs.length := by omega
  rw [List.take_length] at ho
  simp (disch := first | exact xD | fail) [-Option.bind_some, e1, e2, e3, e4, X1, X2, X3]
  exact ⟨_, _, ⟨rfl, rfl⟩, ho.Aj (by intro b hS hb; (try dsimp only at hS); (try simp only [In] at hS hb); first | rfl | (simp (disch := first | exact xF | fail) only [qk]; done)), xE⟩
 | succ d ih =>
  intro k e w a3 c3 sv hd e1 e2 e3 e4 X1 X2 X3 ha E0 ho
  have zE0 := E0.size
  try simp only [qz] at zE0
  rw [C7]
  have hlt : k < xs.length := by omega
  obtain ⟨x, hx, _⟩ := Ak hlt
  have hn := ha.n
  obtain ⟨b1, o1, cs1, rfl, A1, D1, _, l1⟩ := (ha.ext E0).at (by decide) hx
  obtain ⟨a2, c2, rfl, hp2, ht⟩ := D.BV.1 D1
  have p0 := A1 0 _ rfl
  have p1 := A1 1 _ rfl
  have p2 := A1 2 _ rfl
  have p3 := A1 3 _ rfl
  have p4 := A1 4 _ rfl
  have p5 := A1 5 _ rfl
  simp only [Bw, Nat.add_zero] at p0 p1 p2 p3 p4 p5
  have htk : (xs.take k).length = k := by rw [List.length_take]; omega
  have y1 := Aq X1
  have y2 := Aq X2
  have y3 := Aq X3
  simp (disch := first | exact xD | fail) [-Option.bind_some, qs, BP, e1, e3, e4, X1, X3, hlt, p0, p1, p2, p3, p4, p5]
  refine Ae.bind (AX (D1.ext xE)) ?_
  rintro ⟨_, w1⟩ ⟨ds, rfl, o2, E1⟩
  try dsimp only at ds o2 E1
  have zE1 := E1.size
  try simp only [qz] at zE1
  have zds := O.BV.1 o2
  obtain ⟨a4, c4, rfl, _, _⟩ := zds
  simp (disch := first | exact xD | fail) [-Option.bind_some, qs, X3, E1.Ai]
  refine Ae.bind (O.app (L := BW) (mx := 1954687338211) CP Fw rfl (by decide) (ho.Aj (by intro b hS hb; (try dsimp only at hS); (try simp only [In] at hS hb); first | rfl | (simp (disch := first | exact xF | fail) only [E1.Ai, qk]; done))) (o2.Aj (by intro b hS hb; (try dsimp only at hS); (try simp only [In, qz] at hS hb); first | rfl | (simp (disch := first | exact xF | fail) only [qk]; done))) (by intro b hb h1 h2; simp only [In, World.size_alloc, Ad] at *; omega) At.new (by omega) (by decide) (by decide)) ?_
  rintro ⟨_, w2⟩ ⟨a5, c5, rfl, o3, M2⟩
  have zM2 := M2.size
  try simp only [qz] at zM2
  try dsimp only at o3 M2
  have zM2 := M2.size
  simp only [World.size_alloc] at zM2
  rw [htk, ← Hk hx] at o3
  rw [htk]
  have Y1 : hp w2 g1 = hp w g1 := (M2.Ai g1 (by simp only [World.size_alloc]; omega) (by simp only [In]; omega)).trans (by first | assumption | rfl | (simp (disch := first | exact xD | fail) [-Option.bind_some, qs, X1, E1.Ai]; done))
  have Y2 : hp w2 g2 = hp w g2 := (M2.Ai g2 (by simp only [World.size_alloc]; omega) (by simp only [In]; omega)).trans (by first | assumption | rfl | (simp (disch := first | exact xD | fail) [-Option.bind_some, qs, X2, E1.Ai]; done))
  have Y3 : hp w2 g3 = hp w g3 := (M2.Ai g3 (by simp only [World.size_alloc]; omega) (by simp only [In]; omega)).trans (by first | assumption | rfl | (simp (disch := first | exact xD | fail) [-Option.bind_some, qs, X3, E1.Ai]; done))
  simp (disch := first | exact xD | fail) [-Option.bind_some, Y3, X3]
  have E3 : Ext w0 w2 := Mod.after (E0.tr xE) M2 (by intro x hx h; simp only [In] at h; omega)
  have zE3 := E3.size
  try simp only [qz] at zE3
  refine Ae.mono (ih (k + 1) _ _ a5 c5 sv (by omega) xA xA xA xA (by first | assumption | rfl | (simp (disch := first | exact xD | fail) [-Option.bind_some, qs, Y1, X1]; done)) (by first | assumption | rfl | (simp (disch := first | exact xD | fail) [-Option.bind_some, qs, Y2, X2]; done)) (by first | assumption | rfl | (simp (disch := first | exact xD | fail) [-Option.bind_some, Y3, X3]; done)) ha xE (((o3.wide ?_).Aj (S := In (g3 + 1) w2.heap.size) (by intro b hS hb; (try dsimp only at hS); (try simp only [In] at hS hb); first | rfl | (simp (disch := first | exact xF | fail) only [qk]; done))).wide ?_)) fun _ h => h
  ·intro b h1 h2
   simp only [In, World.size_alloc, Ad] at *
   omega
  ·intro b h1 h2
   simp only [In, size_setRow] at *
   omega
theorem EM {a : Option Addr} {n c : Nat} {S : Nat → Prop} {xs : List Ver} {w : World} (ha : D AQ S w [.slice a n c] xs) :
  Ae (EV P 119 #[.agg #[.slice a n c]] w) fun r => ∃ a' c', r.1 = .agg #[.slice a' xs.length c'] ∧ O AQ (In w.heap.size r.2.heap.size) r.2 [.slice a' xs.length c'] xs ∧ Ext w r.2 := by
 obtain ⟨rfl, hm, _⟩ := ha.n
 refine Ae.enter plain mixed (Hw _ _) (by kernel_rfl) (n := 1) (by kernel_rfl) rfl ?_
 simp (disch := first | exact xD | fail) [-Option.bind_some, qs]
 refine Ae.mono (Hy (g1 := w.heap.size) (g2 := w.heap.size + 1) (g3 := w.heap.size + 2) (w0 := w) (by omega) (by omega) (by omega) (by omega) (by omega) xs.length 0 _ _ _ _ (.slice none 0 0) (by omega) rfl rfl rfl rfl (by first | assumption | rfl | (simp (disch := first | exact xD | fail) [-Option.bind_some, qs]; done)) (by first | assumption | rfl | (simp (disch := first | exact xD | fail) [-Option.bind_some, qs]; done)) (by first | assumption | rfl | (simp (disch := first | exact xD | fail) [-Option.bind_some, qs]; done)) ha xE O.nil) ?_
 rintro ⟨_, w1⟩ ⟨a1, c1, rfl, o1, E1⟩
 have zE1 := E1.size
 try simp only [] at zE1
 exact ⟨a1, c1, rfl, o1.wide xV, E1⟩
theorem NZ {a : Option Addr} {n c : Nat} {S S1 : Nat → Prop} {xs : List Ver} {cs : List Value} {v : Ver} {w : World} (ho : O AQ S w [.slice a n c] xs) (hv : D BW S1 w cs v) (h0 : 0 ≤ v.key) (h1 : v.key.toNat < xs.length) :
  Ae (EV P 102 #[.agg #[.slice a n c], .agg cs.toArray] w) fun r => r.1 = .agg #[.slice a xs.length c] ∧ O AQ (fun b => S b ∨ In w.heap.size r.2.heap.size b) r.2 [.slice a xs.length c] (Gf xs v) ∧ Mod S w r.2 := by
 obtain ⟨rfl, hm, _⟩ := ho.n
 obtain ⟨av, cv, rfl, hv1, hv2⟩ := D.BV.1 hv
 obtain ⟨u, hu, _⟩ := Ak h1
 obtain ⟨g, cur, ds, S2, rfl, hSg, hgl, hg, hle, hx1, hS2, put⟩ := ho.row (by decide) hu
 obtain ⟨au, cu, rfl, hu1, hu2⟩ := O.BV.1 hx1
 simp only [Bw] at hg hle put
 have hk : v.key < xs.length := by omega
 refine Ae.enter plain mixed (MP _ _ _) (by kernel_rfl) (n := 2) (by kernel_rfl) rfl ?_
 simp (disch := first | exact xD | fail) [-Option.bind_some, qs, -Aa, -Ab, qm, BP, hg]
 refine Ae.bind (AM u.tag v.tag _) ?_
 rintro ⟨_, w1⟩ ⟨rfl, E1⟩
 try dsimp only at E1
 have zE1 := E1.size
 try simp only [qz] at zE1
 cases hl : AG u.tag v.tag
 ·rw [PQ hu hl]
  simp (disch := first | exact xD | fail) [-Option.bind_some, qs, -Aa, -Ab, qm, FZ, E1.Ai]
  exact ⟨(ho.Aj (by intro b hS hb; (try dsimp only at hS); (try simp only [In, qz] at hS hb); first | rfl | (simp (disch := first | exact xF | fail) only [E1.Ai, qk]; done))).wide (fun b h _ => .inl h), xM⟩
 ·rw [LH hu hl]
  simp (disch := first | exact xD | fail) [-Option.bind_some, qs, -Aa, -Ab, BP, E1.Ai]
  refine Ae.bind (AX (hv.ext xE)) ?_
  rintro ⟨_, w2⟩ ⟨es, rfl, o2, E2⟩
  try dsimp only at es o2 E2
  have zE2 := E2.size
  try simp only [qz] at zE2
  have zds := O.BV.1 o2
  obtain ⟨ae, ce, rfl, _, _⟩ := zds
  simp (disch := first | exact xD | fail) [-Option.bind_some, qs, -Aa, -Ab, qm, FZ, hg, E1.Ai, E2.Ai]
  refine ⟨(put _ _ v _ (o2.Aj (by intro b hS hb; (try dsimp only at hS); (try simp only [In, qz] at hS hb); first | rfl | (simp (disch := first | exact xF | fail) only [qk]; done))) (by first | assumption | rfl | (simp (disch := first | exact xD | fail) [-Option.bind_some, qs, -Aa, -Ab, hg, E1.Ai, E2.Ai]; done)) (by intro b _ _ _ _; first | rfl | (simp (disch := first | exact xF | fail) only [E1.Ai, E2.Ai, qk]; done)) ?_).wide ?_, xM⟩
  ·intro b h1 h2
   simp only [In, size_setRow, Ad] at *
   right
   omega
  ·intro b h1 h2
   simp only [In, size_setRow, Ad] at *
   exact h1.imp id (by omega)
abbrev Nm : Lay CNode := Jc 36 49
abbrev AV : Lay (List CNode) := LW 36 49 86
def TT : Ver := ⟨0, ⟨0, 0⟩, [], ⟨#[]⟩, false⟩
def IA : CNode := ⟨List.replicate 4 TT, []⟩
theorem Rl (w : World) : O BW (fun _ => False) w [i64 0, i64 0, i64 0, .slice none 0 0, .string ⟨#[]⟩, .bool false] TT :=
 O.BV.2 ⟨none, 0, rfl, O.nil, by decide⟩
theorem Oa (w : World) : Ae (EV P 101 #[] w) fun r => ∃ a c, r.1 = .agg #[.slice a 4 c] ∧ O AQ (In w.heap.size r.2.heap.size) r.2 [.slice a 4 c] (List.replicate 4 TT) ∧ Ext w r.2 := by
 refine Ae.post fun Q hQ => ?_
 refine Ae.enter plain mixed (MO _) (by kernel_rfl) (n := 0) (by kernel_rfl) rfl ?_
 simp (disch := first | exact xD | fail) [-Option.bind_some]
 refine Ae.bind (O.make (L := BW) (mx := 1954687338211) (n := 4) CP Fw rfl (by decide) Rl (by decide) (by decide) (by decide)) ?_
 rintro ⟨_, w1⟩ ⟨rfl, o1, z1, E1⟩
 have zE1 := E1.size
 try simp only [qz] at zE1
 try dsimp only at o1 z1 E1
 have X1 := E1.Ai (b := w.heap.size) (by simp)
 simp only [World.size_alloc] at z1 o1
 simp (disch := first | exact xD | fail) [-Option.bind_some, qs, -Aa, -Ab, qm, E1.Ai]
 exact hQ _ ⟨_, _, rfl, (o1.Aj (by intro b hS hb; (try dsimp only at hS); (try simp only [In, qz] at hS hb); first | rfl | (simp (disch := first | exact xF | fail) only [qk]; done))).wide xV, xE⟩
def BA (n : Int) : List CNode := if (decide (1 ≤ n) && decide (n ≤ 4)) then List.replicate n.toNat IA else []
theorem SP {α : Type} (k : Nat) (x : α) : List.replicate k x ++ [x] = List.replicate (k + 1) x := by rw [List.replicate_succ']
theorem Jw {g2 g3 B n : Nat} {w0 : World} (h2 : g2 < B) (h02 : w0.heap.size ≤ g2) (h3 : w0.heap.size ≤ g3) (h23 : g2 ≠ g3) (hn4 : n ≤ 4) :
  ∀ (d k : Nat) (e : Env) (w : World) (a3 : Option Addr) (c3 : Nat) (sv : Value), k + d = n → e 0 = i64 n → e 2 = pt g2 0 → e 3 = pt g3 0 → e 4 = i64 k → hp w g2 = some (.cells #[sv] 81 (0, 0)) → hp w g3 = some (.cells #[.slice a3 k c3] 81 (0, 0)) → Ext w0 w → B ≤ w.heap.size →
  O AV (fun b => In B w.heap.size b ∧ b ≠ g3) w [.slice a3 k c3] (List.replicate k IA) →
  Ae (Ct e w) fun r => ∃ a' c', r.1 = .agg #[.slice a' n c'] ∧ O AV (In B r.2.heap.size) r.2 [.slice a' n c'] (List.replicate n IA) ∧ Ext w0 r.2 := by
 intro d
 induction d with
 | zero =>
  intro k e w a3 c3 sv hd e0 e2 e3 ei X2 X3 E0 hB ho
  have zE0 := E0.size
  try simp only [qz] at zE0
  rw [Ek]
  obtain rfl : k = n := by omega
  refine Ae.post fun Q hQ => ?_
  simp (disch := first | exact xD | fail) [-Option.bind_some, -Aa, -Ab, qm, e0, e2, e3, ei, X2, X3]
  exact hQ _ ⟨_, _, rfl, (ho.Aj (by intro b hS hb; (try dsimp only at hS); (try simp only [In] at hS hb); first | rfl | (simp (disch := first | exact xF | fail) only [qk]; done))).wide xV, xE⟩
 | succ d ih =>
  intro k e w a3 c3 sv hd e0 e2 e3 ei X2 X3 E0 hB ho
  have zE0 := E0.size
  try simp only [qz] at zE0
  rw [Ek]
  have hlt : k < n := by omega
  have y2 := Aq X2
  have y3 := Aq X3
  refine Ae.post fun Q hQ => ?_
  simp (disch := first | exact xD | fail) [-Option.bind_some, qs, -Aa, -Ab, e0, e3, ei, X3, hlt]
  refine Ae.bind (Oa _) ?_
  rintro ⟨_, w1⟩ ⟨a1, c1, rfl, o1, E1⟩
  try dsimp only at a1 c1 o1 E1
  have zE1 := E1.size
  try simp only [qz] at zE1
  simp (disch := first | exact xD | fail) [-Option.bind_some, qs, -Aa, -Ab, X3, E1.Ai]
  refine Ae.bind (O.app (L := Nm) (x := IA) (mx := 2932031007317) (S1 := In (dw w).heap.size w1.heap.size) Ly O0 rfl (by decide) (ho.Aj (by intro b hS hb; (try dsimp only at hS); (try simp only [In] at hS hb); first | rfl | (simp (disch := first | exact xF | fail) only [E1.Ai, qk]; done))) ((O.FC (v := IA) (S2 := fun _ => False) (o1.Aj (by intro b hS hb; (try dsimp only at hS); (try simp only [In, qz] at hS hb); first | rfl | (simp (disch := first | exact xF | fail) only [qk]; done))) O.nil (fun _ _ _ h => h)).wide (by intro b h _; exact h.elim id fun h => h.elim)) (by intro b hb h1 h2; simp only [In, World.size_alloc, Ad] at *; omega) At.new (by rw [List.length_replicate]; omega) (by decide) (by decide)) ?_
  rintro ⟨_, w2⟩ ⟨a5, c5, rfl, o3, M2⟩
  have zM2 := M2.size
  try simp only [qz] at zM2
  try dsimp only at o3 M2
  have zM2 := M2.size
  simp only [World.size_alloc] at zM2
  rw [SP, List.length_replicate] at o3
  rw [List.length_replicate]
  have Y2 : hp w2 g2 = hp w g2 := (M2.Ai g2 xN xN).trans (by first | assumption | rfl | (simp (disch := first | exact xD | fail) [-Option.bind_some, qs, X2, E1.Ai]; done))
  have Y3 : hp w2 g3 = hp w g3 := (M2.Ai g3 xN xN).trans (by first | assumption | rfl | (simp (disch := first | exact xD | fail) [-Option.bind_some, qs, X3, E1.Ai]; done))
  simp (disch := first | exact xD | fail) [-Option.bind_some, -Aa, -Ab, qm, X3, Y3]
  have E3 : Ext w0 w2 := Mod.after (E0.tr xE) M2 xI
  have zE3 := E3.size
  try simp only [qz] at zE3
  refine Ae.mono (ih (k + 1) _ _ a5 c5 sv (by omega) xA xA xA xA (by first | assumption | rfl | (simp (disch := first | exact xD | fail) [-Option.bind_some, qs, -Aa, -Ab, Y2, X2]; done)) (by first | assumption | rfl | (simp (disch := first | exact xD | fail) [-Option.bind_some, -Aa, -Ab, Y3, X3]; done)) xE xN (((o3.wide (S' := fun b => In B w2.heap.size b ∧ b ≠ g3) ?_).Aj (by intro b hS hb; (try dsimp only at hS); (try simp only [In] at hS hb); first | rfl | (simp (disch := first | exact xF | fail) only [qk]; done))).wide ?_)) hQ
  ·intro b h1 h2
   simp only [In, World.size_alloc, Ad] at *
   omega
  ·intro b h1 h2
   simp only [In, World.size_alloc, size_setRow, Ad] at *
   omega
theorem GB (n : Int) {w : World} : Ae (EV P 120 #[i64 n] w) fun r => ∃ a c, r.1 = .agg #[.slice a (BA n).length c] ∧ O AV (In w.heap.size r.2.heap.size) r.2 [.slice a (BA n).length c] (BA n) ∧ Ext w r.2 := by
 refine Ae.post fun Q hQ => ?_
 refine Ae.enter plain mixed (Ju _ _) (by kernel_rfl) (n := 1) (by kernel_rfl) rfl ?_
 simp (disch := first | exact xD | fail) [-Option.bind_some, qs, -Aa, -Ab, qm]
 refine Ae.bind (AD _ _ _ _) ?_
 rintro _ rfl
 cases h : (decide (1 ≤ n) && decide (n ≤ 4))
 ·have e : BA n = [] := by simp [BA, h]
  rw [e] at hQ
  simp (disch := first | exact xD | fail) [-Option.bind_some, qs, -Aa, -Ab, qm]
  exact hQ _ ⟨_, _, rfl, O.nil, xE⟩
 have e : BA n = List.replicate n.toNat IA := by simp [BA, h]
 simp only [Bool.and_eq_true, decide_eq_true_eq] at h
 obtain ⟨m, rfl⟩ : ∃ m : Nat, n = m := ⟨n.toNat, by omega⟩
 rw [e, List.length_replicate, Int.toNat_natCast] at hQ
 simp (disch := first | exact xD | fail) [-Option.bind_some, -Aa, -Ab]
 refine Ae.mono (Jw (g2 := w.heap.size) (g3 := w.heap.size + 1) (B := w.heap.size + 1) (n := m) (w0 := w) (by omega) (by omega) (by omega) (by omega) (by omega) m 0 _ _ none 0 (.slice none 0 0) (by omega) rfl rfl rfl rfl (by first | assumption | rfl | (simp (disch := first | exact xD | fail) [-Option.bind_some, qs, -Aa, -Ab]; done)) (by first | assumption | rfl | (simp (disch := first | exact xD | fail) [-Option.bind_some, qs, -Aa, -Ab]; done)) xE xN O.nil) ?_
 rintro ⟨_, w4⟩ ⟨a4, c4, rfl, o4, E4⟩
 have zE4 := E4.size
 try simp only [] at zE4
 exact hQ _ ⟨_, _, rfl, o4.wide xV, E4⟩
end Go.Proofs.YtjhhommnkaemlaaGreat.X
