/- A part of the proof, without conditions. -/
import Derived.Test.YtjhhommnkaemlaaGreatEvQ
import Derived.Test.YtjhhommnkaemlaaGreatS20
set_option linter.unusedVariables false
set_option linter.unusedSimpArgs false
set_option linter.deprecated false
set_option maxRecDepth 100000
set_option maxHeartbeats 1000000
namespace Go.Proofs.YtjhhommnkaemlaaGreat.X
open Go Go.Ev Go.RowKit
theorem HB {a : Option Addr} {n c : Nat} {S : Nat → Prop} {v : Ver} {l : List Ver} {w : World} (ho : O AQ S w [.slice a n c] (v :: l)) :
  ∃ g cs S1, a = some ⟨g, 0, none⟩ ∧ S g ∧ g < w.heap.size ∧ At w g 0 cs ∧ cs.length = 6 ∧ O BW S1 w cs v ∧ (∀ b, S1 b → S b ∧ b ≠ g ∧ b < w.heap.size) ∧ (∃ S3 css, FP BW S3 w css l ∧ At w g 6 css.flatten ∧ ∀ b, S3 b → S b ∧ ¬ S1 b ∧ b ≠ g ∧ b < w.heap.size) ∧
   True := by
 obtain ⟨rfl, hm, _⟩ := ho.n
 obtain ⟨css, hO, hE, hb, hmx⟩ := ho.un
 obtain ⟨hl, hn9, hO⟩ := hO
 simp only [List.length_cons] at hl hn9 hm hmx
 rcases hO with ⟨h1, h0⟩ | ⟨g, cap, cur, h1, _, hh, hc, hcm, hcs, ht⟩
 ·simp at h0
 cases h1
 simp only [List.length_cons] at hc hcs ht
 have hb' := hb g (by simp [Av])
 obtain ⟨cl1, cl2⟩ := hE.lay
 cases css with
 | nil => simp at cl1
 | cons cs css =>
 obtain ⟨S1, S2, L1, L2, k1, k2⟩ := hE.cut 1
 simp only [List.take_succ_cons, List.take_zero, List.drop_succ_cons, List.drop_zero] at L1 L2
 have hcs6 : cs.length = 6 := cl2 cs List.mem_cons_self
 rw [List.flatten_cons] at hl ht
 have hnl : css.flatten.length = l.length * 6 := by rw [List.length_append, hcs6, Bw] at hl; omega
 rw [Bw] at ht hcs
 have hA0 : At w g 0 (cs ++ css.flatten) := by
  intro j u hu
  rw [hh, Bm, ← BQ, Nat.zero_add]
  rw [← ht, List.getElem?_take] at hu
  split at hu
  ·simpa using hu
  ·contradiction
 have hA1 : At w g 0 cs := fun j u hu => hA0 j u (by rw [List.getElem?_append_left (List.getElem?_eq_some_iff.1 hu).1]; exact hu)
 have hA2 : At w g 6 css.flatten := by
  intro j u hu
  have := hA0 (6 + j) u (by rw [List.getElem?_append_right (by omega), hcs6, Nat.add_sub_cancel_left]; exact hu)
  rwa [Nat.zero_add] at this
 have ov : O BW S1 w cs v := by
  obtain ⟨bss, q1, q2, q3⟩ := L1
  cases bss with
  | nil => exact q1.elim
  | cons bl bss =>
   cases bss with
   | nil => exact ⟨bl, q1.1, by simpa using q2, fun b hb => q3 b (by simpa using hb)⟩
   | cons _ _ => exact q1.2.elim
 refine ⟨g, cs, S1, rfl, hb'.1, hb'.2, hA1, hcs6, ov, fun b h => ⟨(k1 b h).1.1, fun e => (k1 b h).1.2.1 (by simp [Av, e]), (k1 b h).2.2⟩, ⟨S2, css, L2, hA2, fun b h => ⟨(k2 b h).1.1, (k2 b h).2.1, fun e => (k2 b h).1.2.1 (by simp [Av, e]), (k2 b h).2.2⟩⟩, trivial⟩
def Gt (ns : List CNode) (k : Nat) : List CNode := match ns[k]? with
 | some n => (match n.wait with
  | v :: l => F8 (ns.set k ⟨n.store, l⟩) (k + 1) v
  | [] => ns)
 | none => ns
theorem JM {ns : List CNode} {k : Nat} {n : CNode} {v : Ver} {l : List Ver} (hn : ns[k]? = some n) (hw : n.wait = v :: l) : Gt ns k = F8 (ns.set k ⟨n.store, l⟩) (k + 1) v := by
 rw [Gt, hn]
 simp only [hw]
theorem Na {a : Option Addr} {n c k : Nat} {S : Nat → Prop} {ns : List CNode} {x y : CNode} {v : Ver} {l : List Ver} {w : World} (hl4 : ns.length ≤ 1000) (hvk : 0 ≤ v.key ∧ v.key ≤ 3) (ys4 : y.store.length = 4) (hx : ns[k]? = some x) (hy : ns[k + 1]? = some y) (hxw : x.wait = v :: l) (hy6 : y.wait.length < 6) (ho : O AV S w [.slice a n c] ns) :
  Ae (EV P 126 #[.agg #[.slice a n c], i64 k] w) fun r => r.1 = .agg #[.slice a ns.length c] ∧ O AV (fun b => S b ∨ In w.heap.size r.2.heap.size b) r.2 [.slice a ns.length c] (Gt ns k) ∧ Mod S w r.2 := by
 obtain ⟨rfl, hm, _⟩ := ho.n
 have ho := ho.wide (S' := fun b => S b ∧ b < w.heap.size) (fun b h1 h2 => ⟨h1, h2⟩)
 have hkl : k < ns.length := (List.getElem?_eq_some_iff.1 hx).1
 rw [JM hx hxw]
 obtain ⟨g, cur, ds, S2, rfl, hSg, hgl, hg, hle, hx1, hS2, put⟩ := ho.OA (by decide) hx
 obtain ⟨a2, c2, a3, c3, Ss, Sw, rfl, o2, o3, hSs, hSw⟩ := O.Kz hx1
 simp only [Bd] at hg hle put
 rw [hxw] at o3 hg
 obtain ⟨gw, cs, S1, rfl, hSgw, hgwl, Aw, hcs6, ov, hS1, ⟨S3, css, L3, A3, hS3⟩, _⟩ := HB o3
 have ov' := ov
 obtain ⟨av, cv, hcs, ov1, ovt⟩ := O.BV.1 ov
 subst hcs
 have p0 := Aw 0 _ rfl
 have p1 := Aw 1 _ rfl
 have p2 := Aw 2 _ rfl
 have p3 := Aw 3 _ rfl
 have p4 := Aw 4 _ rfl
 have p5 := Aw 5 _ rfl
 simp only [Nat.add_zero] at p0 p1 p2 p3 p4 p5
 have hne : gw ≠ g := (hS2 gw (hSw gw hSgw).1).2.1
 refine Ae.post fun Q hQ => ?_
 refine Ae.enter plain mixed (LJ _ _ _) (by kernel_rfl) (n := 2) (by kernel_rfl) rfl ?_
 obtain ⟨q, d, ct, hq6⟩ : ∃ q d, (∀ w', sl P 42 (.slice (some ⟨gw, 0, none⟩) (l.length + 1) c3) (some (i64 1)) none none w' = some (.slice (some ⟨gw, q, none⟩) l.length d, w')) ∧ (0 < l.length → q = 6) := by
  by_cases hc1 : c3 = 1
  ·have h0 : l.length = 0 := by have := o3.clip.1; simp only [List.length_cons] at this; omega
   subst hc1
   exact ⟨0, 0, fun w' => by have := VJ (P := P) CP (b := gw) (o := 0) (len := l.length + 1) (by omega) w'; exact this, fun h => by omega⟩
  ·exact ⟨6, c3 - 1, fun w' => Xd (P := P) CP (b := gw) (o := 0) (len := l.length + 1) (cap := c3) (n := 1) (by omega) (by omega) (by simp; omega) w', fun _ => rfl⟩
 have hlm : l.length ≤ 1954687338211 := by have := o3.n.2.1; simp only [List.length_cons] at this; omega
 have ap : ∀ (gE : Nat) (wb : World), Ext w wb → hp wb gE = some (.cells #[] 49 (0, 0)) → w.heap.size ≤ gE →
   Ae (Au P #[42, 42] 42 #[.slice (some ⟨gE, 0, none⟩) 0 0, .slice (some ⟨gw, q, none⟩) l.length d] wb) fun r => ∃ a' c', r.1 = .slice a' l.length c' ∧ O AQ (fun b => S3 b ∨ (gE ≤ b ∧ b < r.2.heap.size)) r.2 [.slice a' l.length c'] l ∧ Mod (fun b => b = gE) wb r.2 := by
  intro gE wb Eb hE hge
  have hEl := Aq hE
  by_cases hl0 : l.length = 0
  ·have hnil : l = [] := List.eq_nil_of_length_eq_zero hl0
   rw [hnil]
   have an := Ge (P := P) (ty := 42) CP (some ⟨gE, 0, none⟩) (some ⟨gw, q, none⟩) 0 0 d (by omega) wb
   exact ⟨_, an, _, _, rfl, (O.empty (L := BW) (mx := 1954687338211) hE).wide (fun b (h : b = gE) hb => .inr ⟨by omega, hb⟩), Mod.rfl⟩
  ·obtain rfl := hq6 (by omega)
   refine Ae.mono (O.apps (L := BW) (mx := 1954687338211) (xs := []) (ys := l) (S1 := S3) (ty := 42) (m := l.length) (c := d) CP Fw rfl (by decide) (O.empty (g := gE) hE) (L3.Aj fun b _ hb => Eb.Ai hb) ?_ (A3.mono (Ext.Aj Eb)) rfl (by omega) (by simp; omega) (by decide) (by decide)) ?_
   ·intro b hb h1 h2
    have := (hS3 b h2).2.2.2
    have h1 : b = gE := h1
    omega
   ·rintro r ⟨a', c', h1, h2, h3⟩
    simp only [List.length_nil, Nat.zero_add, List.nil_append] at h1 h2
    rw [h1] at h2
    refine ⟨a', c', h1, h2.wide ?_, h3.Tp ?_⟩
    ·intro b hb hb2
     rcases hb with h | h | h
     ·have h : b = gE := h
      exact .inr (by omega)
     ·exact .inl h
     ·exact .inr (by have := Eb.size; omega)
    ·intro b hb h
     exact h
 simp (disch := first | exact xD | fail) [-Option.bind_some, qs, -Aa, -Ab, qm, Cx, BP, hg, ct, p0, p1, p2, p3, p4, p5]
 refine Ae.bind (ap _ _ xE (by first | assumption | rfl | (simp (disch := first | exact xD | fail) [-Option.bind_some, qs, -Aa, -Ab]; done)) (by omega)) ?_
 rintro ⟨_, w2⟩ ⟨a7, c7, rfl, o7, M2⟩
 have zM2 := M2.size
 try simp only [qz] at zM2
 try dsimp only at o7 M2
 have zM2 := M2.size
 simp only [World.size_alloc, size_setRow, Ad] at zM2
 have F2 : Ext w w2 := Mod.after xE M2 (fun b h1 h2 => by omega)
 have G2 : hp w2 g = some (.cells (Bh cur (k * 2) [.slice a2 x.store.length c2, .slice (some ⟨gw, 0, none⟩) (v :: l).length c3]).toArray 86 (0, 0)) := (F2.Ai hgl).trans hg
 have Y1 : hp w2 w.heap.size = some (.cells #[.slice (some ⟨g, 0, none⟩) ns.length c] 81 (0, 0)) := (M2.Ai _ xN (by omega)).trans (by first | assumption | rfl | (simp (disch := first | exact xD | fail) [-Option.bind_some, qs, -Aa, -Ab]; done))
 have Y2 : hp w2 (w.heap.size + 1) = some (.cells #[.slice none 0 0] 81 (0, 0)) := (M2.Ai _ xN (by omega)).trans (by first | assumption | rfl | (simp (disch := first | exact xD | fail) [-Option.bind_some, qs, -Aa, -Ab]; done))
 have Y3 : hp w2 (w.heap.size + 1 + 1) = some (.cells #[i64 v.key, i64 v.tag.t, i64 v.tag.p, .slice av v.past.length cv, .string v.text, .bool v.gone] 49 (0, 0)) := (M2.Ai _ xN (by omega)).trans (by first | assumption | rfl | (simp (disch := first | exact xD | fail) [-Option.bind_some, qs, -Aa, -Ab]; done))
 simp (disch := first | exact xD | fail) [-Option.bind_some, qs, -Aa, -Ab, qm, Y1, Y3, G2]
 obtain ⟨W3, hW3⟩ : ∃ W3 : World, W3 = w2.setRow g (Bh cur (k * 2) [.slice a2 x.store.length c2, .slice a7 l.length c7]).toArray := ⟨_, rfl⟩
 rw [← hW3]
 have sW : W3.heap.size = w2.heap.size := by rw [hW3, size_setRow]
 have kW : ∀ b, b ≠ g → hp W3 b = hp w2 b := fun b q => by rw [hW3, Ac q]
 have gW : hp W3 g = some (.cells (Bh cur (k * 2) [.slice a2 x.store.length c2, .slice a7 l.length c7]).toArray 86 (0, 0)) := by
  rw [hW3]
  exact (by first | assumption | rfl | (simp (disch := first | exact xD | fail) [-Option.bind_some, -Aa, -Ab, G2]; done))
 have MM : Mod S w W3 := by
  rw [hW3]
  exact (Mod.of F2 S).AL (.inr hSg.1) _
 have oW := put W3 _ ⟨x.store, l⟩ _ (O.FC (v := ⟨x.store, l⟩) (o2.Aj (w' := W3) (fun b hS hb => (kW b (hS2 b (hSs b hS).1).2.1).trans (F2.Ai hb))) (o7.Aj (w' := W3) (fun b hS hb => kW b (by rcases hS with h | h; exact (hS3 b h).2.2.1 |> fun q e => (hS2 b (hSw b (hS3 b h).1).1).2.1 e; omega))) (fun b _ h1 h2 => by rcases h2 with h | h; exact (hSs b h1).2.1 (hS3 b h).1; have := (hSs b h1).2.2; omega)) gW
  (fun b hb _ hne' hn => (kW b hne').trans (F2.Ai hb)) (fun b _ h => by rcases h with h | h | h; exact .inl (hSs b h).1; exact .inl (hSw b (hS3 b h).1).1; exact .inr (by omega))
 have hv3 := ov'.d.Aj (w' := W3) (fun b hS hb => (kW b (hS2 b (hSw b (hS1 b hS).1).1).2.1).trans (F2.Ai hb))
 obtain ⟨ns', hns'⟩ : ∃ ns' : List CNode, ns' = ns.set k ⟨x.store, l⟩ := ⟨_, rfl⟩
 have hl' : ns'.length = ns.length := by rw [hns', List.length_set]
 have hy' : ns'[k + 1]? = some y := by rw [hns', List.getElem?_set_ne (by omega)]; exact hy
 rw [← hns'] at oW hQ
 rw [← hl'] at oW hQ
 rw [← hl']
 refine Ae.bind (IU (i := k + 1) oW hv3 ?_ hy' hvk.1 (by omega) (by omega) (by omega)) ?_
 ·intro b hb h1 h
  have q := hS1 b h1
  rcases h with h | h | h | h
  ·exact h.2 (hSw b q.1).1
  ·exact (hSs b h).2.1 q.1
  ·exact (hS3 b h).2.1 h1
  ·have := q.2.2
   omega
 rintro ⟨_, w5⟩ ⟨rfl, o6, M5⟩
 have zM5 := M5.size
 try simp only [] at zM5
 try dsimp only at o6 M5
 have zM5 := M5.size
 have Y5 : hp w5 (w.heap.size + 1) = some (.cells #[.slice none 0 0] 81 (0, 0)) := by
  refine (M5.Ai _ (by omega) ?_).trans ((kW _ (by omega)).trans Y2)
  rintro (h | h | h | h)
  ·have := h.1.2; omega
  ·have := (hSs _ h).2.2; omega
  ·have := (hS3 _ h).2.2.2; omega
  ·omega
 simp (disch := first | exact xD | fail) [-Option.bind_some, -Aa, -Ab, qm, Y5]
 have sub : ∀ b, (((S b ∧ b < w.heap.size) ∧ ¬ S2 b) ∨ (Ss b ∨ (S3 b ∨ (w.heap.size + 1 + 1 + 1 ≤ b ∧ b < w2.heap.size)))) → S b ∨ (w.heap.size + 1 + 1 + 1 ≤ b ∧ b < w2.heap.size) := by
  rintro b (h | h | h | h)
  ·exact .inl h.1.1
  ·exact .inl (hS2 b (hSs b h).1).1.1
  ·exact .inl (hS2 b (hSw b (hS3 b h).1).1).1.1
  ·exact .inr h
 refine hQ _ ⟨rfl, (o6.Aj ?_).wide ?_, (Mod.AW MM M5 ?_).AL (.inl (by omega)) _⟩
 ·intro b hS hb
  have : b ≠ w.heap.size + 1 := by
   rintro rfl
   rcases hS with (h | h | h | h) | h
   ·have := h.1.2; omega
   ·have := (hSs _ h).2.2; omega
   ·have := (hS3 _ h).2.2.2; omega
   ·omega
   ·simp only [In] at h; omega
  rw [Ac this]
 ·intro b h1 h2
  simp only [In, size_setRow] at *
  rcases h1 with h | h
  ·rcases sub b h with h | h
   ·exact .inl h
   ·exact .inr (by omega)
  ·exact .inr (by omega)
 ·intro b hb h
  rcases sub b h with h | h
  ·exact h
  ·omega
theorem Nc {B g p : Nat} (hp0 : p ≤ 950000000000) {w : World} (hr : R w B g p) :
  Ae (EV P 86 #[pt g 0] w) fun r => ∃ (t : Tag) (p' : Nat), r.1 = t.v ∧ 0 ≤ t.t ∧ t.t ≤ 9 ∧ p' ≤ p + 3 ∧ R r.2 B g p' ∧ Mod (fun b => b = g) w r.2 := by
 have hl := hr.lt
 refine Ae.post fun Q hQ => ?_
 refine Ae.enter plain mixed (Lc _ _) (by kernel_rfl) (n := 1) (by kernel_rfl) rfl ?_
 simp (disch := first | exact xD | fail) [-Option.bind_some, -Aa, -Ab]
 refine Ae.bind (Am (k := 3) (by omega) (by omega) (by omega) (hr.ext xE)) ?_
 rintro ⟨_, w1⟩ ⟨m, rfl, hm, R1, M1⟩
 have zM1 := M1.size
 try simp only [qz] at zM1
 try dsimp only at R1 M1
 have zM1 := M1.size
 simp only [World.size_alloc] at zM1
 have X1 : hp w1 w.heap.size = some (.cells #[i64 0, i64 0] 36 (0, 0)) := (M1.Ai w.heap.size xN (by omega)).trans (by first | assumption | rfl | (simp (disch := first | exact xD | fail) [-Option.bind_some, qs, -Aa, -Ab]; done))
 have N1 : Mod (fun b => b = g) w w1 := (Mod.of xE _).tr M1
 cases hz : ((m : Int) == 0)
 ·simp (disch := first | exact xD | fail) [-Option.bind_some, -Aa, -Ab, hz]
  refine Ae.bind (Am (k := 9) (by omega) (by omega) (by omega) (R1.ext xE)) ?_
  rintro ⟨_, w2⟩ ⟨m2, rfl, hm2, R2, M2⟩
  have zM2 := M2.size
  try simp only [] at zM2
  try dsimp only at R2 M2
  have zM2 := M2.size
  simp (disch := first | exact xD | fail) [-Option.bind_some, qs, -Aa, -Ab]
  refine Ae.bind (Am (k := 3) (by omega) (by omega) (by omega) (R2.ext xE)) ?_
  rintro ⟨_, w3⟩ ⟨m3, rfl, hm3, R3, M3⟩
  have zM3 := M3.size
  try simp only [] at zM3
  try dsimp only at R3 M3
  have zM3 := M3.size
  have X3 : hp w3 w.heap.size = some (.cells #[i64 0, i64 0] 36 (0, 0)) := (M3.Ai w.heap.size xN (by omega)).trans ((M2.Ai w.heap.size xN (by omega)).trans X1)
  have hw : IntKind.i64.wrap (1 + (m2 : Int)) = 1 + (m2 : Int) := Kv (by omega) (by omega)
  simp (disch := first | exact xD | fail) [-Option.bind_some, -Aa, -Ab, qm, X3]
  have N3 := (N1.tr M2).tr M3
  refine hQ _ ⟨⟨1 + m2, m3⟩, p + 1 + 1 + 1, rfl, ?_, ?_, by omega, R3.Aj (fun b h hb => Ac (by omega)), N3.AL (.inl (by omega)) _⟩
  ·show (0 : Int) ≤ 1 + m2
   omega
  ·show (1 : Int) + m2 ≤ 9
   omega
 ·simp (disch := first | exact xD | fail) [-Option.bind_some, -Aa, -Ab, qm, hz, X1]
  exact hQ _ ⟨⟨0, 0⟩, p + 1, rfl, by decide, by decide, by omega, R1.Aj (fun b h hb => Ac (by omega)), N1.AL (.inl (by omega)) _⟩
theorem Kk {B g p b k c : Nat} {strs : List ByteArray} (hk : 1 ≤ k) (hk2 : k ≤ 1000000) (hp0 : p ≤ 1000000000000) {w : World} (hl : strs.length = k) (hA : At w b 0 (strs.map Value.string)) (hbg : b ≠ g) (hr : R w B g p) :
  Ae (EV P 104 #[pt g 0, .slice (some ⟨b, 0, none⟩) k c] w) fun r => ∃ n ∈ strs, r.1 = .string n ∧ R r.2 B g (p + 1) ∧ Mod (fun b => b = g) w r.2 := by
 refine Ae.post fun Q hQ => ?_
 refine Ae.enter plain mixed (Jn _ _ _) (by kernel_rfl) (n := 2) (by kernel_rfl) rfl ?_
 simp (disch := first | exact xD | fail) [-Option.bind_some, -Aa, -Ab]
 refine Ae.bind (Am hk hk2 hp0 hr) ?_
 rintro ⟨_, w1⟩ ⟨m, rfl, hm, R1, M1⟩
 have zM1 := M1.size
 try simp only [] at zM1
 try dsimp only at R1 M1
 obtain ⟨n, hn, _⟩ := Ak (l := strs) (k := m) (by omega)
 have hA1 := hA m (.string n) (by rw [List.getElem?_map, hn]; rfl)
 have hbl : b < w.heap.size := by
  rcases Nat.lt_or_ge b w.heap.size with h | h
  ·exact h
  ·rw [hp, Array.getElem?_eq_none h] at hA1; simp [Bn] at hA1
 rw [Nat.zero_add] at hA1
 simp (disch := first | exact xD | fail) [-Option.bind_some, -Aa, -Ab, Uc, hA1, M1.Ai]
 exact hQ _ ⟨n, List.mem_of_getElem? hn, rfl, R1, M1⟩
def Oo : List ByteArray := [⟨#[]⟩, ⟨#[97]⟩, ⟨#[98]⟩, ⟨#[120, 35, 49]⟩, ⟨#[61]⟩, ⟨#[45]⟩, ⟨#[108, 111, 110, 103, 116, 101, 120, 116]⟩, ⟨#[122, 122]⟩]
theorem Lz {B g p : Nat} (hp0 : p ≤ 900000000000) {w : World} (hr : R w B g p) :
  Ae (EV P 117 #[pt g 0] w) fun r => ∃ n ∈ Oo, r.1 = .string n ∧ R r.2 B g (p + 1) ∧ Mod (fun b => b = g) w r.2 := by
 have hl := hr.lt
 refine Ae.post fun Q hQ => ?_
 refine Ae.enter plain mixed (J7 _ _) (by kernel_rfl) (n := 1) (by kernel_rfl) rfl ?_
 simp (disch := first | exact xD | fail) [-Option.bind_some, -Aa, -Ab]
 refine Ae.bind (Kk (strs := Oo) (k := 8) (by omega) (by omega) (by omega) rfl (At.new (cs := Oo.map Value.string)) (by omega) (hr.ext xE)) ?_
 rintro ⟨_, w1⟩ ⟨n, hn, rfl, R1, M1⟩
 have zM1 := M1.size
 try simp only [qz] at zM1
 try dsimp only at R1 M1
 simp (disch := first | exact xD | fail) [-Option.bind_some, -Aa, -Ab]
 exact hQ _ ⟨n, hn, rfl, R1, (Mod.of xE _).tr M1⟩
theorem JN {B g p : Nat} (hp0 : p ≤ 900000000000) {w : World} (hr : R w B g p) :
  Ae (EV P 53 #[pt g 0] w) fun r => ∃ (t : Tag) (p' : Nat), r.1 = t.v ∧ p' ≤ p + 4 ∧ R r.2 B g p' ∧ Mod (fun b => b = g) w r.2 := by
 have hl := hr.lt
 refine Ae.post fun Q hQ => ?_
 refine Ae.enter plain mixed (It _ _) (by kernel_rfl) (n := 1) (by kernel_rfl) rfl ?_
 simp (disch := first | exact xD | fail) [-Option.bind_some, -Aa, -Ab]
 refine Ae.bind (Am (k := 8) (by omega) (by omega) (by omega) (hr.ext xE)) ?_
 rintro ⟨_, w1⟩ ⟨m, rfl, hm, R1, M1⟩
 have zM1 := M1.size
 try simp only [qz] at zM1
 try dsimp only at R1 M1
 have zM1 := M1.size
 simp only [World.size_alloc] at zM1
 have X1 : hp w1 w.heap.size = some (.cells #[i64 0, i64 0] 36 (0, 0)) := (M1.Ai w.heap.size xN (by omega)).trans (by first | assumption | rfl | (simp (disch := first | exact xD | fail) [-Option.bind_some, qs, -Aa, -Ab]; done))
 have N1 : Mod (fun b => b = g) w w1 := (Mod.of xE _).tr M1
 have y1 := R1.lt
 cases hz : ((m : Int) == 0)
 ·simp (disch := first | exact xD | fail) [-Option.bind_some, -Aa, -Ab, hz]
  refine Ae.bind (Nc (by omega) (R1.ext xE)) ?_
  rintro ⟨_, w2⟩ ⟨t, p2, rfl, _, _, hp2, R2, M2⟩
  have zM2 := M2.size
  try simp only [] at zM2
  try dsimp only at R2 M2
  have zM2 := M2.size
  have X2 : hp w2 w.heap.size = some (.cells #[i64 0, i64 0] 36 (0, 0)) := (M2.Ai w.heap.size xN (by omega)).trans X1
  simp (disch := first | exact xD | fail) [-Option.bind_some, -Aa, -Ab, qm, X2]
  refine hQ _ ⟨t, p2, rfl, by omega, R2.Aj (fun b h hb => Ac (by omega)), (N1.tr M2).AL (.inl (by omega)) _⟩
 ·simp (disch := first | exact xD | fail) [-Option.bind_some, -Aa, -Ab, hz]
  refine Ae.bind (Bg (ints := [0, -1, 1000, 999]) (k := 4) (by omega) (by omega) (by omega) rfl (At.new (cs := [i64 0, i64 (-1), i64 1000, i64 999])) (by omega) (R1.ext xE)) ?_
  rintro ⟨_, w2⟩ ⟨n1, _, rfl, R2, M2⟩
  have zM2 := M2.size
  try simp only [qz] at zM2
  try dsimp only at R2 M2
  have zM2 := M2.size
  simp only [World.size_alloc] at zM2
  simp (disch := first | exact xD | fail) [-Option.bind_some, -Aa, -Ab]
  have N2 := (N1.al _).tr M2
  refine Ae.bind (Bg (ints := [0, 1, 3, -1]) (k := 4) (by omega) (by omega) (by omega) rfl (At.new (cs := [i64 0, i64 1, i64 3, i64 (-1)])) (by omega) (R2.ext xE)) ?_
  rintro ⟨_, w3⟩ ⟨n2, _, rfl, R3, M3⟩
  have zM3 := M3.size
  try simp only [qz] at zM3
  try dsimp only at R3 M3
  have zM3 := M3.size
  simp only [World.size_alloc] at zM3
  have N3 := (N2.al _).tr M3
  have X3 : hp w3 w.heap.size = some (.cells #[i64 0, i64 0] 36 (0, 0)) := (M3.Ai w.heap.size xN (by omega)).trans ((Ag (by omega)).trans ((M2.Ai w.heap.size xN (by omega)).trans ((Ag (by omega)).trans X1)))
  simp (disch := first | exact xD | fail) [-Option.bind_some, -Aa, -Ab, qm, X3]
  refine hQ _ ⟨⟨n1, n2⟩, p + 1 + 1 + 1, rfl, by omega, R3.Aj (fun b h hb => Ac (by omega)), N3.AL (.inl (by omega)) _⟩
theorem FO {w : World} : Ae (EV P 38 #[] w) fun r => ∃ a c, r.1 = .agg #[.slice a 4 c] ∧ O AJ (In w.heap.size r.2.heap.size) r.2 [.slice a 4 c] (List.replicate 4 ⟨0, 0⟩) ∧ Ext w r.2 := by
 refine Ae.post fun Q hQ => ?_
 refine Ae.enter plain mixed (KD _) (by kernel_rfl) (n := 0) (by kernel_rfl) rfl ?_
 simp (disch := first | exact xD | fail) [-Option.bind_some, -Aa, -Ab]
 refine Ae.bind (O.make (L := Ey) (mx := 8796093021952) (n := 4) (x0 := (⟨0, 0⟩ : Tag)) CD F9 rfl (by decide) (fun w => O.tag.2 rfl) (by decide) (by decide) (by decide)) ?_
 rintro ⟨_, w1⟩ ⟨rfl, o1, z1, E1⟩
 have zE1 := E1.size
 try simp only [qz] at zE1
 try dsimp only at o1 z1 E1
 have X1 := E1.Ai (b := w.heap.size) (by simp)
 simp only [World.size_alloc] at z1 o1
 simp (disch := first | exact xD | fail) [-Option.bind_some, qs, -Aa, -Ab, qm, E1.Ai]
 exact hQ _ ⟨_, _, rfl, (o1.Aj (by intro b hS hb; (try dsimp only at hS); (try simp only [In, qz] at hS hb); first | rfl | (simp (disch := first | exact xF | fail) only [qk]; done))).wide xV, xE⟩
end Go.Proofs.YtjhhommnkaemlaaGreat.X
