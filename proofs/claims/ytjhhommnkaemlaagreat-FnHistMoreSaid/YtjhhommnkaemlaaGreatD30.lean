/- A part of the proof, without conditions. -/
import Derived.Test.YtjhhommnkaemlaaGreatEvWq
import Derived.Test.YtjhhommnkaemlaaGreatD28
set_option linter.unusedVariables false
set_option linter.unusedSimpArgs false
set_option linter.deprecated false
set_option maxRecDepth 100000
set_option maxHeartbeats 1000000
namespace Go.Proofs.YtjhhommnkaemlaaGreat.X
open Go Go.Ev Go.RowKit
attribute [local irreducible] World.alloc World.setRow Go.Ev.dw
theorem Qw {B g p : Nat} (hp0 : p ≤ 200000000000) {w : World} (hr : R w B g p) :
  Ae (EV P 26 #[pt g 0] w) fun r => ∃ (a : Option Addr) (c p' : Nat) (xs : List Done), r.1 = .slice a xs.length c ∧ (xs.length ≤ 80 ∧ xs.length ≤ c) ∧ D AO (fun b => w.heap.size ≤ b) r.2 [.slice a xs.length c] xs ∧ p' ≤ 800000000000 ∧ R r.2 B g p' ∧ Mod (fun b => b = g) w r.2 := by
 have hl := hr.lt
 refine Ae.post fun Q hQ => ?_
 refine Ae.enter plain mixed (Kq _ _) (by kernel_rfl) (n := 1) (by kernel_rfl) rfl ?_
 simp (disch := first | exact xD | fail) [-Option.bind_some, -Aa, -Ab]
 refine Ae.bind (PF (by omega) (hr.ext xE)) ?_
 rintro ⟨_, w1⟩ ⟨cs, st, p1, rfl, f1, o1, hp1, R1, M1⟩
 have zM1 := M1.size
 try simp only [qz] at zM1
 try dsimp only at o1 R1 M1
 have zM1 := M1.size
 simp only [World.size_alloc] at zM1 o1
 obtain ⟨a1, c1, a2, c2, a3, c3, a4, c4, rfl, _, _, _, q4⟩ := D.world.1 o1.d
 have hh := f1.2.2.2.2.2.2
 have fvh : ∀ w', fv P 77 (.agg #[.slice a1 st.places.length c1, .slice a2 st.Ar.length c2, .slice a3 st.net.length c3, .slice a4 st.AE.length c4]) 3 w' = some (.slice a4 st.AE.length c4, w') := fun w' => Ug (P := P) (s := 77) (f := 3) (off := 3) (n := 1) (by kernel_rfl) [.slice a1 st.places.length c1, .slice a2 st.Ar.length c2, .slice a3 st.net.length c3, .slice a4 st.AE.length c4] rfl w'
 have NE : hp w1 w.heap.size = some (.cells #[] 38 (0, 0)) := (M1.Ai _ xB (by omega)).trans (by first | assumption | rfl | (simp (disch := first | exact xD | fail) [-Option.bind_some, qs, -Aa, -Ab]; done))
 simp (disch := first | exact xD | fail) [-Option.bind_some, -Aa, -Ab, fvh]
 refine Ae.bind (O.IZ (L := Gi) (mx := 3518437208883) (IY (Bs BR (Bs BR (Bs BR BH)))) GZ Nw rfl (by decide) (O.empty (g := w.heap.size) NE) q4 (by simp; omega) (by decide) (by decide)) ?_
 rintro ⟨_, w2⟩ ⟨a9, c9, rfl, o9, M9⟩
 have zM9 := M9.size
 try simp only [] at zM9
 try dsimp only at o9 M9
 simp only [List.nil_append, List.length_nil, Nat.zero_add] at o9
 have zM9 := M9.size
 have R2 : R w2 B g p1 := R1.Aj fun b h hb => M9.Ai b hb (fun h' => by have h' : b = w.heap.size := h'; omega)
 have N2 : Mod (fun b => b = g) w w2 := Mod.AW (Mod.tr xM M1) M9 (fun b hb h => by have h : b = w.heap.size := h; omega)
 obtain ⟨xs, hxs⟩ : ∃ xs, xs = st.AE := ⟨_, rfl⟩
 rw [← hxs] at o9 hh
 rw [← hxs]
 have o9 : O AO (fun b => w.heap.size ≤ b ∧ b < w2.heap.size) w2 [.slice a9 xs.length c9] xs := o9.wide fun b hb hbl => by
  rcases hb with h | h
  ·have h : b = w.heap.size := h
   omega
  ·omega
 simp only [List.length_nil, Nat.zero_add]
 have hcl := o9.clip.1
 have fin : ∀ (e' : Env) (W : World) (a : Option Addr) (c p' : Nat) (ys : List Done), e' 3 = .slice a ys.length c → (ys.length ≤ 80 ∧ ys.length ≤ c) → D AO (fun b => w.heap.size ≤ b) W [.slice a ys.length c] ys → p' ≤ 800000000000 → R W B g p' → Mod (fun b => b = g) w W → Ae (Be e' W) Q := by
  intro e' W a c p' ys g3 h1 h2 h3 h4 h5
  rw [Ih]
  simp (disch := first | exact xD | fail) [-Option.bind_some, -Aa, -Ab, g3]
  exact hQ _ ⟨a, c, p', ys, rfl, h1, h2, h3, h4, h5⟩
 by_cases hn : 0 < xs.length
 ·simp (disch := first | exact xD | fail) [-Option.bind_some, -Aa, -Ab, hn]
  refine Ae.bind (Am (k := 3) (by omega) (by omega) (by omega) R2) ?_
  rintro ⟨_, w3⟩ ⟨m3, rfl, hm3, R3, M3⟩
  have zM3 := M3.size
  try simp only [] at zM3
  try dsimp only at R3 M3
  have zM3 := M3.size
  have o3 : O AO (fun b => w.heap.size ≤ b ∧ b < w2.heap.size) w3 [.slice a9 xs.length c9] xs := o9.Aj fun b hb hbl => M3.Ai b hbl (by omega)
  have N3 := N2.tr M3
  cases h3 : ((m3 : Int) == 0)
  ·simp (disch := first | exact xD | fail) [-Option.bind_some, -Aa, -Ab, h3]
   exact fin _ w3 a9 c9 (p1 + 1) xs xA ⟨hh, hcl⟩ (o3.d.wide fun b h _ => h.1) (by omega) R3 N3
  ·simp (disch := first | exact xD | fail) [-Option.bind_some, -Aa, -Ab, h3]
   refine Ae.bind (Am (k := xs.length) (by omega) (by omega) (by omega) R3) ?_
   rintro ⟨_, w4⟩ ⟨k, rfl, hk, R4, M4⟩
   have zM4 := M4.size
   try simp only [] at zM4
   try dsimp only at R4 M4
   have zM4 := M4.size
   simp (disch := first | exact xD | fail) [-Option.bind_some, qs, -Aa, -Ab]
   refine Ae.bind (Am (k := 5) (by omega) (by omega) (by omega) R4) ?_
   rintro ⟨_, w5⟩ ⟨m5, rfl, hm5, R5, M5⟩
   have zM5 := M5.size
   try simp only [] at zM5
   try dsimp only at R5 M5
   have zM5 := M5.size
   have o5 : O AO (fun b => w.heap.size ≤ b ∧ b < w2.heap.size) w5 [.slice a9 xs.length c9] xs := o3.Aj fun b hb hbl => (M5.Ai b (by omega) (by omega)).trans (M4.Ai b hbl (by omega))
   have N5 := (N3.tr M4).tr M5
   obtain ⟨x, hx, _⟩ := Ak hk
   have row : ∀ (W : World) (p' : Nat), Mod (fun b => b = g) w5 W → R W B g p' → p' ≤ 800000000000 → ∃ gr cur, a9 = some ⟨gr, 0, none⟩ ∧ hp W gr = some (.cells (Bh cur (k * 5) (Bp x)).toArray 38 (0, 0)) ∧ k * 5 + 5 ≤ cur.length ∧
     ∀ (e' : Env) (x' : Done), e' 3 = .slice a9 xs.length c9 → Ae (Be e' (W.setRow gr (Bh cur (k * 5) (Bp x')).toArray)) Q := by
    intro W p' MW RW hp'
    have oW : O AO (fun b => w.heap.size ≤ b ∧ b < w2.heap.size) W [.slice a9 xs.length c9] xs := o5.Aj fun b hb hbl => MW.Ai b hbl (by omega)
    obtain ⟨gr, cur, cs, S1, rfl, hSg, hgl, hg, hle, hx1, hS1, put⟩ := oW.row (by decide) hx
    obtain rfl := O.done.1 hx1
    refine ⟨gr, cur, rfl, hg, hle, fun e' x' g3 => ?_⟩
    have oN := put (W.setRow gr (Bh cur (k * 5) (Bp x')).toArray) (Bp x') x' (fun _ => False) (O.done.2 rfl) (by rw [B8, hg]; rfl) (fun b hb _ hne _ => Ac hne) (fun b _ h => h.elim)
    have hls : (xs.set k x').length = xs.length := List.length_set
    exact fin e' _ _ c9 p' (xs.set k x') (by rw [hls]; exact g3) ⟨by omega, by omega⟩ (by rw [hls]; exact oN.d.wide fun b h _ => by rcases h with h | h; exact h.1; exact h.elim) hp' (RW.Aj fun b h hb => Ac (by have := RW.lt; omega)) ((N5.tr MW).AL (.inl hSg.1) _)
   cases hv0 : ((m5 : Int) == 0)
   case true =>
    simp (disch := first | exact xD | fail) [-Option.bind_some, -Aa, -Ab, hv0]
    refine Ae.bind (JN (by omega) R5) ?_
    rintro ⟨_, w6⟩ ⟨t, p6, rfl, hp6, R6, M6⟩
    have zM6 := M6.size
    try simp only [] at zM6
    try dsimp only at R6 M6
    obtain ⟨gr, cur, rfl, hg, hle, go⟩ := row w6 p6 M6 R6 (by omega)
    simp (disch := first | exact xD | fail) [-Option.bind_some, -Aa, -Ab, qm, hg, CC]
    exact go _ ⟨x.Ar, x.kind, x.key, t⟩ xA
   cases hv1 : ((m5 : Int) == 1)
   case true =>
    simp (disch := first | exact xD | fail) [-Option.bind_some, -Aa, -Ab, hv0, hv1]
    refine Ae.bind (Am (k := 5) (by omega) (by omega) (by omega) R5) ?_
    rintro ⟨_, w6⟩ ⟨m6, rfl, hm6, R6, M6⟩
    have zM6 := M6.size
    try simp only [] at zM6
    try dsimp only at R6 M6
    obtain ⟨gr, cur, rfl, hg, hle, go⟩ := row w6 _ M6 R6 (by omega)
    simp (disch := first | exact xD | fail) [-Option.bind_some, -Aa, -Ab, qm, hg, CC]
    exact go _ ⟨x.Ar, m6, x.key, x.tag⟩ xA
   cases hv2 : ((m5 : Int) == 2)
   case true =>
    simp (disch := first | exact xD | fail) [-Option.bind_some, -Aa, -Ab, hv0, hv1, hv2]
    refine Ae.bind (Am (k := 5) (by omega) (by omega) (by omega) R5) ?_
    rintro ⟨_, w6⟩ ⟨m6, rfl, hm6, R6, M6⟩
    have zM6 := M6.size
    try simp only [] at zM6
    try dsimp only at R6 M6
    obtain ⟨gr, cur, rfl, hg, hle, go⟩ := row w6 _ M6 R6 (by omega)
    simp (disch := first | exact xD | fail) [-Option.bind_some, -Aa, -Ab, qm, hg, CC]
    exact go _ ⟨x.Ar, x.kind, m6, x.tag⟩ xA
   cases hv3 : ((m5 : Int) == 3)
   case true =>
    simp (disch := first | exact xD | fail) [-Option.bind_some, -Aa, -Ab, hv0, hv1, hv2, hv3]
    refine Ae.bind (Am (k := 5) (by omega) (by omega) (by omega) R5) ?_
    rintro ⟨_, w6⟩ ⟨m6, rfl, hm6, R6, M6⟩
    have zM6 := M6.size
    try simp only [] at zM6
    try dsimp only at R6 M6
    obtain ⟨gr, cur, rfl, hg, hle, go⟩ := row w6 _ M6 R6 (by omega)
    simp (disch := first | exact xD | fail) [-Option.bind_some, -Aa, -Ab, qm, hg, CC]
    exact go _ ⟨m6, x.kind, x.key, x.tag⟩ xA
   have o5' : O AO (fun b => w.heap.size ≤ b ∧ b < w2.heap.size) (Go.Ev.dw w5) [.slice a9 xs.length c9] xs := o5.ext (BJ w5)
   obtain ⟨a7, c7, w7, sl1, sl2, hap, d7, M7⟩ := o5'.Vr (P := P) (ty := 23) (by decide) GZ hk
   have zM7 := M7.size
   try simp only [qz] at zM7
   have sl2' : ∀ w', sl P 23 (.slice a9 xs.length c9) (some (i64 ((k : Int) + 1))) none none w' = some (.slice a7 (xs.length - (k + 1)) c7, w') := fun w' => by
    have := sl2 w'
    rwa [show ((k + 1 : Nat) : Int) = (k : Int) + 1 by omega] at this
   have hls : (xs.take k ++ xs.drop (k + 1)).length = xs.length - 1 := by rw [List.length_append, List.length_take, List.length_drop]; omega
   simp (disch := first | exact xD | fail) [-Option.bind_some, -Aa, -Ab, hv0, hv1, hv2, hv3, sl1, sl2', hap]
   exact fin _ w7 a9 c9 _ (xs.take k ++ xs.drop (k + 1)) (by rw [hls]; simp (disch := first | exact xD | fail) [-Option.bind_some, qs, -Aa, -Ab]) ⟨by omega, by omega⟩ (by rw [hls]; exact d7.wide fun b h _ => h.1.1) (by omega) (R5.Aj fun b h hb => (M7.Ai b (by simpa using hb) (fun h' => by have := R5.lt; omega)).trans (BB _ _)) (Mod.AW N5.SN M7 fun b hb h => by omega)
 ·simp (disch := first | exact xD | fail) [-Option.bind_some, -Aa, -Ab, hn]
  exact fin _ w2 a9 c9 p1 xs xA ⟨hh, hcl⟩ (o9.d.wide fun b h _ => h.1) (by omega) R2 N2
end Go.Proofs.YtjhhommnkaemlaaGreat.X
namespace Go.Proofs.YtjhhommnkaemlaaGreat.X
open Go Go.Ev Go.RowKit
theorem KV {s : Value} {ns : List Int} {w : World} (hs : DI w s ns) (hn : ns.length ≤ 1000000000000) :
  Ae (EV P 13 #[s] w) fun r => ∃ (a : Option Addr) (c : Nat) (xs : List Done) (n : Int), r.1 = .tuple #[.slice a xs.length c, i64 n] ∧ 0 ≤ n ∧ n ≤ 4 ∧ (xs.length ≤ 80 ∧ xs.length ≤ c) ∧ D AO (fun b => w.heap.size ≤ b) r.2 [.slice a xs.length c] xs ∧ Ext w r.2 := by
 refine Ae.post fun Q hQ => ?_
 refine Ae.enter plain mixed (Hd _ _) (by kernel_rfl) (n := 1) (by kernel_rfl) rfl ?_
 simp (disch := first | exact xD | fail) [-Option.bind_some, -Aa, -Ab]
 refine Ae.bind (Lx hs hn) ?_
 rintro ⟨_, w1⟩ ⟨g, rfl, R1, E1⟩
 have zE1 := E1.size
 try simp only [] at zE1
 try dsimp only at R1 E1
 have hl := R1.lt
 have zE1 := E1.size
 simp (disch := first | exact xD | fail) [-Option.bind_some, -Aa, -Ab]
 refine Ae.bind (Qw (by omega) R1) ?_
 rintro ⟨_, w2⟩ ⟨a, c, p', xs, rfl, hx, d2, hp2, R2, M2⟩
 have zM2 := M2.size
 try simp only [] at zM2
 try dsimp only at d2 R2 M2
 have zM2 := M2.size
 simp (disch := first | exact xD | fail) [-Option.bind_some, -Aa, -Ab]
 refine Ae.bind (Bg (ints := [0, 1, 2, 3, 0, 4]) (k := 6) (by omega) (by omega) (by omega) rfl (At.nw rfl) (by omega) (R2.ext xE)) ?_
 rintro ⟨_, w3⟩ ⟨n, hn3, rfl, R3, M3⟩
 have zM3 := M3.size
 try simp only [qz] at zM3
 try dsimp only at R3 M3
 simp (disch := first | exact xD | fail) [-Option.bind_some, -Aa, -Ab]
 have hn4 : 0 ≤ n ∧ n ≤ 4 := by
  simp only [List.mem_cons, List.not_mem_nil, or_false] at hn3
  omega
 refine hQ _ ⟨a, c, xs, n, rfl, hn4.1, hn4.2, hx, (d2.Aj fun b hb hbl => (M3.Ai b (by simp only [World.size_alloc]; omega) (by omega)).trans (Ag hbl)).wide fun b h _ => by omega, ?_⟩
 exact Mod.after E1 ((M2.al _).tr M3) fun b hb h => by omega
end Go.Proofs.YtjhhommnkaemlaaGreat.X
