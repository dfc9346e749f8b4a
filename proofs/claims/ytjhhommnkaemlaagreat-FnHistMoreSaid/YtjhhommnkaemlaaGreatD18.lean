/- A part of the proof, without conditions. -/
import Derived.Test.YtjhhommnkaemlaaGreatD13
import Derived.Test.YtjhhommnkaemlaaGreatEvWp
set_option linter.unusedVariables false
set_option linter.unusedSimpArgs false
set_option linter.deprecated false
set_option maxRecDepth 100000
set_option maxHeartbeats 1000000
namespace Go.Proofs.YtjhhommnkaemlaaGreat.X
open Go Go.Ev Go.RowKit
attribute [local irreducible] World.alloc World.setRow Go.Ev.dw
theorem Qt {p : PlaceD} {ns' : List CNode} {a' a1 a2 : Option Addr} {c' c1 c2 : Nat} {S1 S2 S3 : Nat → Prop} {w w2 w3 : World} {clk : Int} {fell : Bool} (q2 : O AQ S2 w [.slice a1 p.log.length c1] p.log) (q3 : O PD S3 w [.slice a2 p.Bu.length c2] p.Bu)
  (k1 : ∀ b, S1 b → ¬ S2 b ∧ ¬ S3 b ∧ b < w.heap.size) (k2 : ∀ b, S2 b → ¬ S1 b ∧ ¬ S3 b ∧ b < w.heap.size) (k3 : ∀ b, S3 b → ¬ S1 b ∧ ¬ S2 b ∧ b < w.heap.size) (o1 : O AV (fun b => S1 b ∨ In w.heap.size w2.heap.size b) w2 [.slice a' ns'.length c'] ns') (M1 : Mod S1 w w2)
  (hk : ∀ b, (S1 b ∨ S2 b ∨ S3 b ∨ In w.heap.size w2.heap.size b) → b < w2.heap.size → hp w3 b = hp w2 b) :
  O Jf (fun b => S1 b ∨ S2 b ∨ S3 b ∨ In w.heap.size w2.heap.size b) w3 [i64 p.me, i64 clk, .slice a' ns'.length c', .slice a1 p.log.length c1, .slice a2 p.Bu.length c2, .bool fell] { p with clock := clk, chain := ns', fell := fell } := by
 have zM1 := M1.size
 have ho := O.DY (p := { p with clock := clk, chain := ns', fell := fell }) (w := w3) (S1 := fun b => S1 b ∨ In w.heap.size w2.heap.size b) (S2 := S2) (S3 := S3) (s := .slice a' ns'.length c') (t := .slice a1 p.log.length c1) (u := .slice a2 p.Bu.length c2)
  (o1.Aj fun b hb hbl => hk b (by rcases hb with h | h; exact .inl h; exact .inr (.inr (.inr h))) hbl)
  (q2.Aj fun b hb hbl => (hk b (.inr (.inl hb)) (by omega)).trans (M1.Ai b hbl (k2 b hb).1))
  (q3.Aj fun b hb hbl => (hk b (.inr (.inr (.inl hb))) (by omega)).trans (M1.Ai b hbl (k3 b hb).1))
  (fun b _ h h' => by rcases h with h | h; exact (k1 b h).1 h'; have := (k2 b h').2.2; simp only [In] at h; omega)
  (fun b _ h h' => by rcases h with h | h; exact (k1 b h).2.1 h'; have := (k3 b h').2.2; simp only [In] at h; omega)
  (fun b _ h h' => (k2 b h).2.1 h')
 refine ho.wide fun b hb _ => ?_
 rcases hb with (h | h) | h | h
 ·exact .inl h
 ·exact .inr (.inr (.inr h))
 ·exact .inr (.inl h)
 ·exact .inr (.inr (.inl h))
set_option maxHeartbeats 4000000 in
theorem Q5 {M : Nat} {kind at' num key : Int} {text : ByteArray} {gone : Bool} {S : Nat → Prop} {cs : List Value} {st : WorldD} {w : World} (hf : BF M st) (hM : M ≤ 900000) (ho : O tW S w cs st) :
  Ae (EV P 115 #[.agg cs.toArray, .agg #[i64 kind, i64 at', i64 num, i64 key, .string text, .bool gone]] w) (Step M S w cs) := by
 have ho0 := ho
 have ho := ho.lt
 obtain ⟨pa, pn, pc, sa, sn, sc, na, nn, nc, ha, hn, hc, rfl⟩ := ho.BX
 have ok : ∀ (w' : World), Ext w w' → Step M S w [.slice pa pn pc, .slice sa sn sc, .slice na nn nc, .slice ha hn hc] (.tuple #[.agg #[.slice pa pn pc, .slice sa sn sc, .slice na nn nc, .slice ha hn hc], .bool false], w') :=
  fun w' hE => Step.fail hf ho0 hE
 refine Ae.post fun Q hQ => ?_
 refine Ae.enter plain mixed (J6 _ _ _) (by kernel_rfl) (n := 2) (by kernel_rfl) rfl ?_
 simp (disch := first | exact xD | fail) [-Option.bind_some, qs, -Aa, -Ab]
 refine Ae.bind (AD _ _ _ _) ?_
 rintro _ rfl
 cases hat : (decide (0 ≤ at') && decide (at' ≤ 2))
 ·simp (disch := first | exact xD | fail) [-Option.bind_some, qs, -Aa, -Ab, qm]
  exact hQ _ (ok _ xE)
 have hat' := hat
 simp only [Bool.and_eq_true, decide_eq_true_eq] at hat'
 obtain ⟨k, rfl⟩ := Int.eq_ofNat_of_zero_le hat'.1
 have hk3 : k < st.places.length := by rw [hf.1]; omega
 obtain ⟨p, hp', _⟩ := Ak hk3
 have hpf := hf.2.1 p (List.mem_of_getElem? hp')
 obtain ⟨x, hx, _⟩ := Ak (l := p.chain) (k := 0) (by have := hpf.1.1; omega)
 obtain ⟨c', a1', c1', a2', c2', a3', c3', gp, curp, dp, Sp, hcs, hSgp, hgpl, hgp, hlep, op, hSp, putp⟩ := O.F6 ho hp'
 simp only [List.cons.injEq, Value.slice.injEq, and_true] at hcs
 obtain ⟨⟨rfl, rfl, rfl⟩, ⟨rfl, rfl, rfl⟩, ⟨rfl, rfl, rfl⟩, rfl, rfl, rfl⟩ := hcs
 obtain ⟨ac, cc, al, cl, ag, cg, S1, S2, S3, rfl, q1, q2, q3, k1, k2, k3⟩ := O.He op
 have x0 := hpf.1.1
 have x4 := hpf.1.2.1
 have Ap := Dk hgp (by simpa using hlep)
 have m0 := Ap 0 _ rfl
 have m1 := Ap 1 _ rfl
 have m2 := Ap 2 _ rfl
 have m3 := Ap 3 _ rfl
 have m4 := Ap 4 _ rfl
 have m5 := Ap 5 _ rfl
 simp only [Nat.add_zero] at m0 m1 m2 m3 m4 m5
 have nSp : ∀ b, w.heap.size ≤ b → ¬ Sp b := fun b h h' => by have := (hSp b h').2.2; omega
 have fin : ∀ (e' : Env) (W : World) (ds' : List Value) (p' : PlaceD) (S' : Nat → Prop) (q : Bool), e' 2 = pt w.heap.size 0 → e' 3 = pt (w.heap.size + 1) 0 → e' 4 = pt (w.heap.size + 1 + 1) 0 → e' 6 = pt (w.heap.size + 1 + 1 + 1) 0 → e' 7 = .bool q →
   hp W w.heap.size = some (.cells #[.slice (some ⟨gp, 0, none⟩) st.places.length pc, .slice sa st.Ar.length sc, .slice na st.net.length nc, .slice ha st.AE.length hc] 77 (0, 0)) → hp W (w.heap.size + 1) = some (.cells #[i64 kind, i64 k, i64 num, i64 key, .string text, .bool gone] 137 (0, 0)) →
   hp W (w.heap.size + 1 + 1) = some (.cells #[.slice none 0 0, .slice none 0 0, .slice none 0 0, .slice none 0 0] 77 (0, 0)) → hp W (w.heap.size + 1 + 1 + 1) = some (.cells ds'.toArray 84 (0, 0)) →
   CK (M + 4) p' → O Jf S' W ds' p' → (∀ b, S' b → Sp b ∨ w.heap.size + 4 ≤ b) → (∀ b, b < w.heap.size → ¬ Sp b → hp W b = hp w b) → Mod S w W → Ae (AS e' W) Q := by
  intro e' W ds' p' S' q e2 e3 e4 e6 e7 X2 X3 X4 X6 fp op' hS' hk MW
  have y6 := Aq X6
  have op'' := op'.d
  obtain ⟨ad, cd, ae, ce, af, cf, rfl, _, _, _⟩ := D.place.1 op''
  have G0 := (hk gp hgpl (fun h => (hSp gp h).2.1 rfl)).trans hgp
  rw [HS]
  simp (disch := first | exact xD | fail) [-Option.bind_some, qs, -Aa, -Ab, qm, e2, e3, e4, e6, e7, X2, X3, X4, X6, G0, CQ]
  generalize hW1 : World.setRow _ gp _ = W1
  have sW1 : W1.heap.size = W.heap.size := by rw [← hW1]; simp
  have kW1 : ∀ b, b ≠ gp → hp W1 b = hp W b := fun b h1 => by
   rw [← hW1]
   simp (disch := omega) only [Ac]
  have G1 : hp W1 gp = some (.cells (Bh curp (k * 6) [i64 p'.me, i64 p'.clock, .slice ad p'.chain.length cd, .slice ae p'.log.length ce, .slice af p'.Bu.length cf, .bool p'.fell]).toArray 84 (0, 0)) := by
   rw [← hW1]
   exact (by first | assumption | rfl | (simp (disch := first | exact xD | fail) [-Option.bind_some, -Aa, -Ab, G0]; done))
  have MW1 : Mod S w W1 := by
   rw [← hW1]
   exact MW.AL (.inr hSgp.1) _
  have oW1 := (putp W1 _ p' S' (op'.Aj fun b hb hbl => kW1 b (by rcases hS' b hb with h | h; exact (hSp b h).2.1; omega)) G1 (fun b hb _ hne hn => (kW1 b hne).trans (hk b hb hn)) (fun b _ h => by rcases hS' b h with h | h; exact .inl h; exact .inr (fun hh => by omega))).wide (S' := fun b => (S b ∧ b < w.heap.size) ∨ w.heap.size + 4 ≤ b) (fun b h _ => by rcases h with h | h; exact .inl h; rcases hS' b h with h | h; exact .inl (hSp b h).1; exact .inr h)
  refine hQ _ ⟨_, _, q, rfl, fun _ => rfl, (hf.place (i := k) (M' := M + 4) (by omega) fp).up (by omega), (oW1.Aj fun b hb hbl => Ac (by rcases hb with h | h <;> omega)).wide ?_, MW1.AL (.inl (by omega)) _⟩
  intro b hb hbl
  simp only [In, size_setRow] at hbl ⊢
  rcases hb with h | h
  ·exact .inl h.1
  ·exact .inr (by omega)
 have same : ∀ (e' : Env) (W : World) (q : Bool), e' 2 = pt w.heap.size 0 → e' 3 = pt (w.heap.size + 1) 0 → e' 4 = pt (w.heap.size + 1 + 1) 0 → e' 6 = pt (w.heap.size + 1 + 1 + 1) 0 → e' 7 = .bool q →
   hp W w.heap.size = some (.cells #[.slice (some ⟨gp, 0, none⟩) st.places.length pc, .slice sa st.Ar.length sc, .slice na st.net.length nc, .slice ha st.AE.length hc] 77 (0, 0)) → hp W (w.heap.size + 1) = some (.cells #[i64 kind, i64 k, i64 num, i64 key, .string text, .bool gone] 137 (0, 0)) →
   hp W (w.heap.size + 1 + 1) = some (.cells #[.slice none 0 0, .slice none 0 0, .slice none 0 0, .slice none 0 0] 77 (0, 0)) → hp W (w.heap.size + 1 + 1 + 1) = some (.cells #[i64 p.me, i64 p.clock, .slice ac p.chain.length cc, .slice al p.log.length cl, .slice ag p.Bu.length cg, .bool p.fell] 84 (0, 0)) →
   Ext w W → Ae (AS e' W) Q := by
  intro e' W q e2 e3 e4 e6 e7 X2 X3 X4 X6 hE
  exact fin e' W _ p Sp q e2 e3 e4 e6 e7 X2 X3 X4 X6 (hpf.up (by omega)) (op.ext hE) (fun b h => .inl h) (fun b hb _ => hE.Ai hb) (Mod.of hE S)
 cases hk6 : (kind == 6)
 case true =>
  simp (disch := first | exact xD | fail) [-Option.bind_some, qs, -Aa, -Ab, qm, hk6, CQ, m0, m1, m2, m3, m4, m5]
  refine Ae.bind (Om (i := num) (by omega) (q1.d.ext xE)) ?_
  rintro ⟨_, w1⟩ ⟨rfl, E1⟩
  try dsimp only at E1
  have zE1 := E1.size
  try simp only [qz] at zE1
  have B0 : hp w1 w.heap.size = some (.cells #[.slice (some ⟨gp, 0, none⟩) st.places.length pc, .slice sa st.Ar.length sc, .slice na st.net.length nc, .slice ha st.AE.length hc] 77 (0, 0)) := (E1.Ai xB).trans (by first | assumption | rfl | (simp (disch := first | exact xD | fail) [-Option.bind_some, qs, -Aa, -Ab]; done))
  have B1 : hp w1 (w.heap.size + 1) = some (.cells #[i64 kind, i64 k, i64 num, i64 key, .string text, .bool gone] 137 (0, 0)) := (E1.Ai xB).trans (by first | assumption | rfl | (simp (disch := first | exact xD | fail) [-Option.bind_some, qs, -Aa, -Ab]; done))
  have B2 : hp w1 (w.heap.size + 1 + 1) = some (.cells #[.slice none 0 0, .slice none 0 0, .slice none 0 0, .slice none 0 0] 77 (0, 0)) := (E1.Ai xB).trans (by first | assumption | rfl | (simp (disch := first | exact xD | fail) [-Option.bind_some, qs, -Aa, -Ab]; done))
  have B3 : hp w1 (w.heap.size + 1 + 1 + 1) = some (.cells #[i64 p.me, i64 p.clock, .slice ac p.chain.length cc, .slice al p.log.length cl, .slice ag p.Bu.length cg, .bool p.fell] 84 (0, 0)) := (E1.Ai xB).trans (by first | assumption | rfl | (simp (disch := first | exact xD | fail) [-Option.bind_some, qs, -Aa, -Ab]; done))
  have F1 : Ext w w1 := xE
  have zF1 := F1.size
  have kk1 : ∀ b, S1 b → ¬ S2 b ∧ ¬ S3 b ∧ b < w1.heap.size := fun b h => ⟨(k1 b h).2.1, (k1 b h).2.2.1, by have := (k1 b h).2.2.2; omega⟩
  have kk2 : ∀ b, S2 b → ¬ S1 b ∧ ¬ S3 b ∧ b < w1.heap.size := fun b h => ⟨(k2 b h).2.1, (k2 b h).2.2.1, by have := (k2 b h).2.2.2; omega⟩
  have kk3 : ∀ b, S3 b → ¬ S1 b ∧ ¬ S2 b ∧ b < w1.heap.size := fun b h => ⟨(k3 b h).2.1, (k3 b h).2.2.1, by have := (k3 b h).2.2.2; omega⟩
  have toSp : ∀ b, S1 b ∨ S2 b ∨ S3 b → Sp b := by
   rintro b (h | h | h)
   ·exact (k1 b h).1
   ·exact (k2 b h).1
   ·exact (k3 b h).1
  cases hcp : Fv p.chain num
  ·simp (disch := first | exact xD | fail) [-Option.bind_some, -Aa, -Ab]
   exact same _ _ false xA xA xA xA xA (by first | assumption | rfl | (simp (disch := first | exact xD | fail) [-Option.bind_some, qs, -Aa, -Ab, qm, B0, m0, m1, m2, m3, m4, m5, E1.Ai]; done)) (by first | assumption | rfl | (simp (disch := first | exact xD | fail) [-Option.bind_some, qs, -Aa, -Ab, qm, B1, m0, m1, m2, m3, m4, m5, E1.Ai]; done)) (by first | assumption | rfl | (simp (disch := first | exact xD | fail) [-Option.bind_some, qs, -Aa, -Ab, qm, B2, m0, m1, m2, m3, m4, m5, E1.Ai]; done)) (by first | assumption | rfl | (simp (disch := first | exact xD | fail) [-Option.bind_some, qs, -Aa, -Ab, qm, B3, m0, m1, m2, m3, m4, m5, E1.Ai]; done)) F1
  obtain ⟨kn, nx, ny, v, lv, rfl, hkn, hxn, hyn, hnw, hy6⟩ := MY hcp
  have fx := hpf.1.2.2 nx (List.mem_of_getElem? hxn)
  have fy := hpf.1.2.2 ny (List.mem_of_getElem? hyn)
  have hvK : MR v := fx.2.2.2 v (by rw [hnw]; exact List.mem_cons_self)
  have hI' := QB hpf.1 hxn hyn hnw hy6
  have hal : (Gt p.chain kn).length = p.chain.length := by rw [JM hxn hnw, IV, List.length_set]
  simp (disch := first | exact xD | fail) [-Option.bind_some, -Aa, -Ab, B1, B3]
  refine Ae.bind (Na (by omega) ⟨hvK.1, hvK.2.1⟩ fy.1 hxn hyn hnw hy6 (q1.ext F1)) ?_
  rintro ⟨_, w2⟩ ⟨rfl, o2, M2⟩
  try dsimp only at o2 M2
  have zM2 := M2.size
  try simp only [qz] at zM2
  have o2 : O AV (fun b => S1 b ∨ In w1.heap.size w2.heap.size b) w2 [.slice ac (Gt p.chain kn).length cc] (Gt p.chain kn) := by rw [hal]; exact o2
  have K2 : ∀ b, b < w1.heap.size → ¬ Sp b → hp w2 b = hp w1 b := fun b hb h => M2.Ai b hb (fun h' => h (k1 b h').1)
  have C0 := (K2 w.heap.size (by omega) (nSp _ (by omega))).trans B0
  have C1 := (K2 (w.heap.size + 1) (by omega) (nSp _ (by omega))).trans B1
  have C2 := (K2 (w.heap.size + 1 + 1) (by omega) (nSp _ (by omega))).trans B2
  have C3 := (K2 (w.heap.size + 1 + 1 + 1) (by omega) (nSp _ (by omega))).trans B3
  have bx2 : ∀ b, (S1 b ∨ S2 b ∨ S3 b ∨ In w1.heap.size w2.heap.size b) → Sp b ∨ w.heap.size + 4 ≤ b := by
   rintro b (h | h | h | h)
   ·exact .inl (k1 b h).1
   ·exact .inl (k2 b h).1
   ·exact .inl (k3 b h).1
   ·simp only [In] at h; exact .inr (by omega)
  have nbx : ∀ b, (Sp b ∨ w.heap.size + 4 ≤ b) → b ≠ w.heap.size + 1 + 1 + 1 := by
   rintro b (h | h)
   ·have := (hSp b h).2.2; omega
   ·omega
  have MW2 : Mod S w w2 := Mod.AW (Mod.of F1 S) M2 (fun b hb h => (hSp b (k1 b h).1).1.1)
  rw [← hal]
  simp (disch := first | exact xD | fail) [-Option.bind_some, -Aa, -Ab, qm, C3]
  generalize hW2 : World.setRow _ (w.heap.size + 1 + 1 + 1) _ = W2
  have sW2 : W2.heap.size = w2.heap.size := by rw [← hW2]; simp
  have kW2 : ∀ b, b ≠ w.heap.size + 1 + 1 + 1 → hp W2 b = hp w2 b := fun b h1 => by
   rw [← hW2]
   simp (disch := omega) only [Ac]
  have MWb : Mod S w W2 := by
   rw [← hW2]
   first | exact MW2.AL (.inl (by omega)) _ | exact (MW2.AL (.inl (by omega)) _).AL (.inl (by omega)) _
  have D3 : hp W2 (w.heap.size + 1 + 1 + 1) = some (.cells #[i64 p.me, i64 p.clock, .slice ac (Gt p.chain kn).length cc, .slice al p.log.length cl, .slice ag p.Bu.length cg, .bool p.fell] 84 (0, 0)) := by
   rw [← hW2]
   exact (by first | assumption | rfl | (simp (disch := first | exact xD | fail) [-Option.bind_some, -Aa, -Ab, C3]; done))
  have oP := Qt (p := p) (clk := p.clock) (fell := p.fell) (w3 := W2) (q2.ext F1) (q3.ext F1) kk1 kk2 kk3 o2 M2 (fun b hb hbl => kW2 b (nbx b (bx2 b hb)))
  refine Ae.bind (Lo (M := M) (p := { p with clock := p.clock, chain := (Gt p.chain kn), fell := p.fell }) ⟨hI', hpf.2⟩ (by omega) oP) ?_
  rintro ⟨_, w3⟩ ⟨ds3, p3, rfl, f3, o3, M3⟩
  have zM3 := M3.size
  try simp only [] at zM3
  try dsimp only at o3 M3
  have zM3 := M3.size
  have L0 := (M3.Ai w.heap.size (by omega) (fun h => by rcases bx2 _ h with h | h; exact nSp _ (Nat.le_refl _) h; omega)).trans ((kW2 _ (by omega)).trans C0)
  have L1 := (M3.Ai (w.heap.size + 1) (by omega) (fun h => by rcases bx2 _ h with h | h; exact nSp _ (by omega) h; omega)).trans ((kW2 _ (by omega)).trans C1)
  have L2 := (M3.Ai (w.heap.size + 1 + 1) (by omega) (fun h => by rcases bx2 _ h with h | h; exact nSp _ (by omega) h; omega)).trans ((kW2 _ (by omega)).trans C2)
  have L3 := (M3.Ai (w.heap.size + 1 + 1 + 1) (by omega) (fun h => by rcases bx2 _ h with h | h; exact nSp _ (by omega) h; omega)).trans D3
  have o3' := o3.d
  obtain ⟨ad, cd, ae, ce, af, cf, rfl, _, _, _⟩ := D.place.1 o3'
  simp (disch := first | exact xD | fail) [-Option.bind_some, -Aa, -Ab, qm, L3]
  refine fin _ _ _ p3 _ true xA xA xA xA xA ((Ac (by omega)).trans L0) ((Ac (by omega)).trans L1) ((Ac (by omega)).trans L2) (by first | assumption | rfl | (simp (disch := first | exact xD | fail) [-Option.bind_some, -Aa, -Ab, L3]; done)) f3 (o3.Aj fun b hb hbl => Ac ?_) ?_ ?_ ?_
  ·rcases hb with h | h
   ·exact nbx b (bx2 b h)
   ·simp only [In] at h; omega
  ·intro b hb
   rcases hb with h | h
   ·exact bx2 b h
   ·simp only [In] at h; exact .inr (by omega)
  ·intro b hb hn
   exact (Ac (by omega)).trans ((M3.Ai b (by omega) (fun h => by rcases bx2 b h with h | h; exact hn h; omega)).trans ((kW2 b (by omega)).trans ((K2 b (by omega) hn).trans (F1.Ai hb))))
  ·exact (Mod.AW MWb M3 fun b hb h => by rcases bx2 b h with h | h; exact (hSp b h).1.1; omega).AL (.inl (by omega)) _
 cases hk7 : (kind == 7)
 case true =>
  simp (disch := first | exact xD | fail) [-Option.bind_some, qs, -Aa, -Ab, qm, hk6, hk7, CQ, m0, m1, m2, m3, m4, m5]
  refine Ae.bind (OV (n := num) hpf (op.d.ext xE)) ?_
  rintro ⟨_, w1⟩ ⟨q, rfl, hq, E1⟩
  try dsimp only at q hq E1
  have zE1 := E1.size
  try simp only [qz] at zE1
  have B0 : hp w1 w.heap.size = some (.cells #[.slice (some ⟨gp, 0, none⟩) st.places.length pc, .slice sa st.Ar.length sc, .slice na st.net.length nc, .slice ha st.AE.length hc] 77 (0, 0)) := (E1.Ai xB).trans (by first | assumption | rfl | (simp (disch := first | exact xD | fail) [-Option.bind_some, qs, -Aa, -Ab]; done))
  have B1 : hp w1 (w.heap.size + 1) = some (.cells #[i64 kind, i64 k, i64 num, i64 key, .string text, .bool gone] 137 (0, 0)) := (E1.Ai xB).trans (by first | assumption | rfl | (simp (disch := first | exact xD | fail) [-Option.bind_some, qs, -Aa, -Ab]; done))
  have B2 : hp w1 (w.heap.size + 1 + 1) = some (.cells #[.slice none 0 0, .slice none 0 0, .slice none 0 0, .slice none 0 0] 77 (0, 0)) := (E1.Ai xB).trans (by first | assumption | rfl | (simp (disch := first | exact xD | fail) [-Option.bind_some, qs, -Aa, -Ab]; done))
  have B3 : hp w1 (w.heap.size + 1 + 1 + 1) = some (.cells #[i64 p.me, i64 p.clock, .slice ac p.chain.length cc, .slice al p.log.length cl, .slice ag p.Bu.length cg, .bool p.fell] 84 (0, 0)) := (E1.Ai xB).trans (by first | assumption | rfl | (simp (disch := first | exact xD | fail) [-Option.bind_some, qs, -Aa, -Ab]; done))
  have F1 : Ext w w1 := xE
  have zF1 := F1.size
  have kk1 : ∀ b, S1 b → ¬ S2 b ∧ ¬ S3 b ∧ b < w1.heap.size := fun b h => ⟨(k1 b h).2.1, (k1 b h).2.2.1, by have := (k1 b h).2.2.2; omega⟩
  have kk2 : ∀ b, S2 b → ¬ S1 b ∧ ¬ S3 b ∧ b < w1.heap.size := fun b h => ⟨(k2 b h).2.1, (k2 b h).2.2.1, by have := (k2 b h).2.2.2; omega⟩
  have kk3 : ∀ b, S3 b → ¬ S1 b ∧ ¬ S2 b ∧ b < w1.heap.size := fun b h => ⟨(k3 b h).2.1, (k3 b h).2.2.1, by have := (k3 b h).2.2.2; omega⟩
  have toSp : ∀ b, S1 b ∨ S2 b ∨ S3 b → Sp b := by
   rintro b (h | h | h)
   ·exact (k1 b h).1
   ·exact (k2 b h).1
   ·exact (k3 b h).1
  cases q
  ·simp (disch := first | exact xD | fail) [-Option.bind_some, -Aa, -Ab]
   exact same _ _ false xA xA xA xA xA (by first | assumption | rfl | (simp (disch := first | exact xD | fail) [-Option.bind_some, qs, -Aa, -Ab, qm, B0, m0, m1, m2, m3, m4, m5, E1.Ai]; done)) (by first | assumption | rfl | (simp (disch := first | exact xD | fail) [-Option.bind_some, qs, -Aa, -Ab, qm, B1, m0, m1, m2, m3, m4, m5, E1.Ai]; done)) (by first | assumption | rfl | (simp (disch := first | exact xD | fail) [-Option.bind_some, qs, -Aa, -Ab, qm, B2, m0, m1, m2, m3, m4, m5, E1.Ai]; done)) (by first | assumption | rfl | (simp (disch := first | exact xD | fail) [-Option.bind_some, qs, -Aa, -Ab, qm, B3, m0, m1, m2, m3, m4, m5, E1.Ai]; done)) F1
  obtain ⟨hc1, hn0, hnl⟩ := hq rfl
  obtain ⟨kn, rfl⟩ := Int.eq_ofNat_of_zero_le hn0
  simp (disch := first | exact xD | fail) [-Option.bind_some, -Aa, -Ab, B1, B3]
  refine Ae.bind (MU (k := kn) hc1 (by omega) (by omega) hpf.1.2.2 (q1.ext F1)) ?_
  rintro ⟨_, w2⟩ ⟨ms', a8, c8, rfl, o2, hml, hmf, M2⟩
  try dsimp only at ms' a8 c8 o2 hml hmf M2
  have zM2 := M2.size
  try simp only [qz] at zM2
  have hI' : Lh ms' := ⟨by omega, by omega, hmf⟩
  have K2 : ∀ b, b < w1.heap.size → ¬ Sp b → hp w2 b = hp w1 b := fun b hb h => M2.Ai b hb (fun h' => h (k1 b h').1)
  have C0 := (K2 w.heap.size (by omega) (nSp _ (by omega))).trans B0
  have C1 := (K2 (w.heap.size + 1) (by omega) (nSp _ (by omega))).trans B1
  have C2 := (K2 (w.heap.size + 1 + 1) (by omega) (nSp _ (by omega))).trans B2
  have C3 := (K2 (w.heap.size + 1 + 1 + 1) (by omega) (nSp _ (by omega))).trans B3
  have bx2 : ∀ b, (S1 b ∨ S2 b ∨ S3 b ∨ In w1.heap.size w2.heap.size b) → Sp b ∨ w.heap.size + 4 ≤ b := by
   rintro b (h | h | h | h)
   ·exact .inl (k1 b h).1
   ·exact .inl (k2 b h).1
   ·exact .inl (k3 b h).1
   ·simp only [In] at h; exact .inr (by omega)
  have nbx : ∀ b, (Sp b ∨ w.heap.size + 4 ≤ b) → b ≠ w.heap.size + 1 + 1 + 1 := by
   rintro b (h | h)
   ·have := (hSp b h).2.2; omega
   ·omega
  have MW2 : Mod S w w2 := Mod.AW (Mod.of F1 S) M2 (fun b hb h => (hSp b (k1 b h).1).1.1)
  simp (disch := first | exact xD | fail) [-Option.bind_some, -Aa, -Ab, qm, C3]
  generalize hW2 : World.setRow _ (w.heap.size + 1 + 1 + 1) _ = W2
  have sW2 : W2.heap.size = w2.heap.size := by rw [← hW2]; simp
  have kW2 : ∀ b, b ≠ w.heap.size + 1 + 1 + 1 → hp W2 b = hp w2 b := fun b h1 => by
   rw [← hW2]
   simp (disch := omega) only [Ac]
  have MWb : Mod S w W2 := by
   rw [← hW2]
   first | exact MW2.AL (.inl (by omega)) _ | exact (MW2.AL (.inl (by omega)) _).AL (.inl (by omega)) _
  have D3 : hp W2 (w.heap.size + 1 + 1 + 1) = some (.cells #[i64 p.me, i64 p.clock, .slice a8 ms'.length c8, .slice al p.log.length cl, .slice ag p.Bu.length cg, .bool true] 84 (0, 0)) := by
   rw [← hW2]
   exact (by first | assumption | rfl | (simp (disch := first | exact xD | fail) [-Option.bind_some, -Aa, -Ab, C3]; done))
  have oP := Qt (p := p) (clk := p.clock) (fell := true) (w3 := W2) (q2.ext F1) (q3.ext F1) kk1 kk2 kk3 o2 M2 (fun b hb hbl => kW2 b (nbx b (bx2 b hb)))
  refine Ae.bind (Lo (M := M) (p := { p with clock := p.clock, chain := ms', fell := true }) ⟨hI', hpf.2⟩ (by omega) oP) ?_
  rintro ⟨_, w3⟩ ⟨ds3, p3, rfl, f3, o3, M3⟩
  have zM3 := M3.size
  try simp only [] at zM3
  try dsimp only at o3 M3
  have zM3 := M3.size
  have L0 := (M3.Ai w.heap.size (by omega) (fun h => by rcases bx2 _ h with h | h; exact nSp _ (Nat.le_refl _) h; omega)).trans ((kW2 _ (by omega)).trans C0)
  have L1 := (M3.Ai (w.heap.size + 1) (by omega) (fun h => by rcases bx2 _ h with h | h; exact nSp _ (by omega) h; omega)).trans ((kW2 _ (by omega)).trans C1)
  have L2 := (M3.Ai (w.heap.size + 1 + 1) (by omega) (fun h => by rcases bx2 _ h with h | h; exact nSp _ (by omega) h; omega)).trans ((kW2 _ (by omega)).trans C2)
  have L3 := (M3.Ai (w.heap.size + 1 + 1 + 1) (by omega) (fun h => by rcases bx2 _ h with h | h; exact nSp _ (by omega) h; omega)).trans D3
  have o3' := o3.d
  obtain ⟨ad, cd, ae, ce, af, cf, rfl, _, _, _⟩ := D.place.1 o3'
  simp (disch := first | exact xD | fail) [-Option.bind_some, -Aa, -Ab, qm, L3]
  refine fin _ _ _ p3 _ true xA xA xA xA xA ((Ac (by omega)).trans L0) ((Ac (by omega)).trans L1) ((Ac (by omega)).trans L2) (by first | assumption | rfl | (simp (disch := first | exact xD | fail) [-Option.bind_some, -Aa, -Ab, L3]; done)) f3 (o3.Aj fun b hb hbl => Ac ?_) ?_ ?_ ?_
  ·rcases hb with h | h
   ·exact nbx b (bx2 b h)
   ·simp only [In] at h; omega
  ·intro b hb
   rcases hb with h | h
   ·exact bx2 b h
   ·simp only [In] at h; exact .inr (by omega)
  ·intro b hb hn
   exact (Ac (by omega)).trans ((M3.Ai b (by omega) (fun h => by rcases bx2 b h with h | h; exact hn h; omega)).trans ((kW2 b (by omega)).trans ((K2 b (by omega) hn).trans (F1.Ai hb))))
  ·exact (Mod.AW MWb M3 fun b hb h => by rcases bx2 b h with h | h; exact (hSp b h).1.1; omega).AL (.inl (by omega)) _
 cases hk8 : (kind == 8)
 case true =>
  by_cases h4 : p.chain.length < 4
  ·simp (disch := first | exact xD | fail) [-Option.bind_some, qs, -Aa, -Ab, qm, hk6, hk7, hk8, CQ, show (p.chain.length : Int) < 4 by omega, m0, m1, m2, m3, m4, m5]
   refine Ae.bind (MX x0 h4 (q1.ext xE)) ?_
   rintro ⟨_, w2⟩ ⟨a8, c8, rfl, o2, M2⟩
   try dsimp only at a8 c8 o2 M2
   have zM2 := M2.size
   try simp only [qz] at zM2
   have hI' := QC hpf.1 h4
   have nS1 : ∀ b, w.heap.size ≤ b → ¬ S1 b := fun b h h' => nSp b h (k1 b h').1
   simp only [World.size_alloc, size_setRow] at o2
   have C0 : hp w2 w.heap.size = some (.cells #[.slice (some ⟨gp, 0, none⟩) st.places.length pc, .slice sa st.Ar.length sc, .slice na st.net.length nc, .slice ha st.AE.length hc] 77 (0, 0)) := (M2.Ai _ xB (nS1 _ (by omega))).trans (by first | assumption | rfl | (simp (disch := first | exact xD | fail) [-Option.bind_some, qs, -Aa, -Ab]; done))
   have C1 : hp w2 (w.heap.size + 1) = some (.cells #[i64 kind, i64 k, i64 num, i64 key, .string text, .bool gone] 137 (0, 0)) := (M2.Ai _ xB (nS1 _ (by omega))).trans (by first | assumption | rfl | (simp (disch := first | exact xD | fail) [-Option.bind_some, qs, -Aa, -Ab]; done))
   have C2 : hp w2 (w.heap.size + 1 + 1) = some (.cells #[.slice none 0 0, .slice none 0 0, .slice none 0 0, .slice none 0 0] 77 (0, 0)) := (M2.Ai _ xB (nS1 _ (by omega))).trans (by first | assumption | rfl | (simp (disch := first | exact xD | fail) [-Option.bind_some, qs, -Aa, -Ab]; done))
   have C3 : hp w2 (w.heap.size + 1 + 1 + 1) = some (.cells #[i64 p.me, i64 p.clock, .slice ac p.chain.length cc, .slice al p.log.length cl, .slice ag p.Bu.length cg, .bool p.fell] 84 (0, 0)) := (M2.Ai _ xB (nS1 _ (by omega))).trans (by first | assumption | rfl | (simp (disch := first | exact xD | fail) [-Option.bind_some, qs, -Aa, -Ab]; done))
   have K2 : ∀ b, b < w.heap.size → ¬ S1 b → hp w2 b = hp w b := fun b hb h => (M2.Ai b xB h).trans (by simp (disch := (first | omega | (simp only [World.size_alloc, size_setRow]; omega))) only [Ac, Ag])
   have MS : Mod S w w2 := Mod.AW xM M2 (fun b hb h => (hSp b (k1 b h).1).1.1)
   simp (disch := first | exact xD | fail) [-Option.bind_some, -Aa, -Ab, qm, C3]
   generalize hW2 : World.setRow _ (w.heap.size + 1 + 1 + 1) _ = W2
   have sW2 : W2.heap.size = w2.heap.size := by rw [← hW2]; simp
   have kW2 : ∀ b, b ≠ w.heap.size + 1 + 1 + 1 → hp W2 b = hp w2 b := fun b h1 => by
    rw [← hW2]
    simp (disch := omega) only [Ac]
   have MWb : Mod S w W2 := by
    rw [← hW2]
    exact MS.AL (.inl (by omega)) _
   have D3 : hp W2 (w.heap.size + 1 + 1 + 1) = some (.cells #[i64 p.me, i64 p.clock, .slice a8 (Ed p.chain).length c8, .slice al p.log.length cl, .slice ag p.Bu.length cg, .bool p.fell] 84 (0, 0)) := by
    rw [← hW2]
    exact (by first | assumption | rfl | (simp (disch := first | exact xD | fail) [-Option.bind_some, -Aa, -Ab, C3]; done))
   have oP := O.DY (p := { p with chain := Ed p.chain }) (w := W2) (S1 := fun b => S1 b ∨ w.heap.size + 4 ≤ b) (S2 := S2) (S3 := S3) ((o2.Aj fun b hb hbl => kW2 b (by rcases hb with h | h; have := (k1 b h).2.2.2; omega; simp only [In] at h; omega)).wide fun b hb _ => by rcases hb with h | h; exact .inl h; simp only [In] at h; exact .inr (by omega))
    (q2.Aj fun b hb hbl => (kW2 b (by omega)).trans (K2 b hbl (k2 b hb).2.1)) (q3.Aj fun b hb hbl => (kW2 b (by omega)).trans (K2 b hbl (k3 b hb).2.1))
    (fun b _ h h' => by rcases h with h | h; exact (k1 b h).2.1 h'; have := (k2 b h').2.2.2; omega) (fun b _ h h' => by rcases h with h | h; exact (k1 b h).2.2.1 h'; have := (k3 b h').2.2.2; omega) (fun b _ h h' => (k2 b h).2.2.1 h')
   refine fin _ _ _ { p with chain := Ed p.chain } _ true xA xA xA xA xA ((kW2 _ (by omega)).trans C0) ((kW2 _ (by omega)).trans C1) ((kW2 _ (by omega)).trans C2) D3 ⟨hI', by have := hpf.2.1; show p.log.length ≤ M + 4; omega, hpf.2.2⟩ oP ?_ (fun b hb hn => (kW2 b (by omega)).trans (K2 b hb (fun h => hn (k1 b h).1))) MWb
   rintro b ((h | h) | h | h)
   ·exact .inl (k1 b h).1
   ·exact .inr h
   ·exact .inl (k2 b h).1
   ·exact .inl (k3 b h).1
  ·simp (disch := first | exact xD | fail) [-Option.bind_some, qs, -Aa, -Ab, qm, hk6, hk7, hk8, CQ, show ¬ (p.chain.length : Int) < 4 by omega, m0, m1, m2, m3, m4, m5]
   exact same _ _ false xA xA xA xA xA (by first | assumption | rfl | (simp (disch := first | exact xD | fail) [-Option.bind_some, qs, -Aa, -Ab]; done)) (by first | assumption | rfl | (simp (disch := first | exact xD | fail) [-Option.bind_some, qs, -Aa, -Ab]; done)) (by first | assumption | rfl | (simp (disch := first | exact xD | fail) [-Option.bind_some, qs, -Aa, -Ab]; done)) (by first | assumption | rfl | (simp (disch := first | exact xD | fail) [-Option.bind_some, qs, -Aa, -Ab]; done)) xE
 simp (disch := first | exact xD | fail) [-Option.bind_some, qs, -Aa, -Ab, qm, hk6, hk7, hk8, CQ, m0, m1, m2, m3, m4, m5]
 refine Ae.bind (AD _ _ _ _) ?_
 rintro _ rfl
 cases hnm : (decide (0 ≤ num) && decide (num ≤ 2))
 ·simp (disch := first | exact xD | fail) [-Option.bind_some, qs, -Aa, -Ab]
  exact same _ _ false xA xA xA xA xA (by first | assumption | rfl | (simp (disch := first | exact xD | fail) [-Option.bind_some, qs, -Aa, -Ab]; done)) (by first | assumption | rfl | (simp (disch := first | exact xD | fail) [-Option.bind_some, qs, -Aa, -Ab]; done)) (by first | assumption | rfl | (simp (disch := first | exact xD | fail) [-Option.bind_some, qs, -Aa, -Ab]; done)) (by first | assumption | rfl | (simp (disch := first | exact xD | fail) [-Option.bind_some, qs, -Aa, -Ab]; done)) xE
 have hnm' := hnm
 simp only [Bool.and_eq_true, decide_eq_true_eq] at hnm'
 obtain ⟨nn', rfl⟩ := Int.eq_ofNat_of_zero_le hnm'.1
 simp (disch := first | exact xD | fail) [-Option.bind_some, qs, -Aa, -Ab]
 refine Ae.bind (OU (i := nn') hpf (by omega) hx (op.d.ext xE)) ?_
 rintro ⟨_, w1⟩ ⟨q, rfl, hq, E1⟩
 try dsimp only at q hq E1
 have zE1 := E1.size
 try simp only [qz] at zE1
 have B0 : hp w1 w.heap.size = some (.cells #[.slice (some ⟨gp, 0, none⟩) st.places.length pc, .slice sa st.Ar.length sc, .slice na st.net.length nc, .slice ha st.AE.length hc] 77 (0, 0)) := (E1.Ai xB).trans (by first | assumption | rfl | (simp (disch := first | exact xD | fail) [-Option.bind_some, qs, -Aa, -Ab]; done))
 have B1 : hp w1 (w.heap.size + 1) = some (.cells #[i64 kind, i64 k, i64 nn', i64 key, .string text, .bool gone] 137 (0, 0)) := (E1.Ai xB).trans (by first | assumption | rfl | (simp (disch := first | exact xD | fail) [-Option.bind_some, qs, -Aa, -Ab]; done))
 have B2 : hp w1 (w.heap.size + 1 + 1) = some (.cells #[.slice none 0 0, .slice none 0 0, .slice none 0 0, .slice none 0 0] 77 (0, 0)) := (E1.Ai xB).trans (by first | assumption | rfl | (simp (disch := first | exact xD | fail) [-Option.bind_some, qs, -Aa, -Ab]; done))
 have B3 : hp w1 (w.heap.size + 1 + 1 + 1) = some (.cells #[i64 p.me, i64 p.clock, .slice ac p.chain.length cc, .slice al p.log.length cl, .slice ag p.Bu.length cg, .bool p.fell] 84 (0, 0)) := (E1.Ai xB).trans (by first | assumption | rfl | (simp (disch := first | exact xD | fail) [-Option.bind_some, qs, -Aa, -Ab]; done))
 have F1 : Ext w w1 := xE
 have zF1 := F1.size
 cases q
 ·simp (disch := first | exact xD | fail) [-Option.bind_some, -Aa, -Ab]
  exact same _ _ false xA xA xA xA xA (by first | assumption | rfl | (simp (disch := first | exact xD | fail) [-Option.bind_some, qs, -Aa, -Ab, qm, B0, m0, m1, m2, m3, m4, m5, E1.Ai]; done)) (by first | assumption | rfl | (simp (disch := first | exact xD | fail) [-Option.bind_some, qs, -Aa, -Ab, qm, B1, m0, m1, m2, m3, m4, m5, E1.Ai]; done)) (by first | assumption | rfl | (simp (disch := first | exact xD | fail) [-Option.bind_some, qs, -Aa, -Ab, qm, B2, m0, m1, m2, m3, m4, m5, E1.Ai]; done)) (by first | assumption | rfl | (simp (disch := first | exact xD | fail) [-Option.bind_some, qs, -Aa, -Ab, qm, B3, m0, m1, m2, m3, m4, m5, E1.Ai]; done)) F1
 obtain ⟨hlk, h6⟩ := hq rfl
 simp (disch := first | exact xD | fail) [-Option.bind_some, -Aa, -Ab, B1, B3]
 refine Ae.bind (RE (M := M) (i := nn') hpf (by omega) (by omega) hx h6 hlk (op.ext F1)) ?_
 rintro ⟨_, w2⟩ ⟨ds3, p3, rfl, f3, o3, M2⟩
 try dsimp only at ds3 p3 f3 o3 M2
 have zM2 := M2.size
 try simp only [qz] at zM2
 have K2 : ∀ b, b < w1.heap.size → ¬ Sp b → hp w2 b = hp w1 b := fun b hb h => M2.Ai b hb h
 have C0 := (K2 w.heap.size (by omega) (nSp _ (by omega))).trans B0
 have C1 := (K2 (w.heap.size + 1) (by omega) (nSp _ (by omega))).trans B1
 have C2 := (K2 (w.heap.size + 1 + 1) (by omega) (nSp _ (by omega))).trans B2
 have C3 := (K2 (w.heap.size + 1 + 1 + 1) (by omega) (nSp _ (by omega))).trans B3
 have MS : Mod S w w2 := Mod.AW (Mod.of F1 S) M2 (fun b hb h => (hSp b h).1.1)
 have o3' := o3.d
 obtain ⟨ad, cd, ae, ce, af, cf, rfl, _, _, _⟩ := D.place.1 o3'
 simp (disch := first | exact xD | fail) [-Option.bind_some, -Aa, -Ab, qm, C3]
 refine fin _ _ _ p3 _ true xA xA xA xA xA ((Ac (by omega)).trans C0) ((Ac (by omega)).trans C1) ((Ac (by omega)).trans C2) (by first | assumption | rfl | (simp (disch := first | exact xD | fail) [-Option.bind_some, -Aa, -Ab, C3]; done)) f3 (o3.Aj fun b hb hbl => Ac ?_) ?_ (fun b hb hn => (Ac (by omega)).trans ((K2 b (by omega) hn).trans (F1.Ai hb))) (MS.AL (.inl (by omega)) _)
 ·rcases hb with h | h
  ·have := (hSp b h).2.2; omega
  ·simp only [In] at h; omega
 ·intro b hb
  rcases hb with h | h
  ·exact .inl h
  ·simp only [In] at h; exact .inr (by omega)
end Go.Proofs.YtjhhommnkaemlaaGreat.X
namespace Go.Proofs.YtjhhommnkaemlaaGreat.X
open Go Go.Ev Go.RowKit
attribute [local irreducible] World.alloc World.setRow Go.Ev.dw
theorem Po {M M' : Nat} {S T : Nat → Prop} {cs0 cs1 : List Value} {st1 : WorldD} {e : Env} {w W : World} (hf : BF M' st1) (hM' : M' ≤ M + 16)
  (ho : O tW T W cs1 st1) (hT : ∀ b, T b → (S b ∧ b < w.heap.size) ∨ w.heap.size + 3 ≤ b) (hMod : Mod S w W)
  (e2 : e 2 = pt w.heap.size 0) (e4 : e 4 = pt (w.heap.size + 1 + 1) 0) (X2 : hp W w.heap.size = some (.cells cs1.toArray 77 (0, 0)))
  (X4 : hp W (w.heap.size + 1 + 1) = some (.cells #[.slice none 0 0, .slice none 0 0, .slice none 0 0, .slice none 0 0] 77 (0, 0))) :
  Ae (DP e W) (Step M S w cs0) := by
 have y4 := Aq X4
 obtain ⟨u1, l1, d1, u2, l2, d2, u3, l3, d3, u4, l4, d4, rfl⟩ := ho.BX
 rw [Jt]
 refine Ae.post fun Q hQ => ?_
 simp (disch := first | exact xD | fail) [-Option.bind_some, -Aa, -Ab, qm, e2, e4, X2, X4]
 refine hQ _ ⟨_, _, true, rfl, by simp, hf.up hM', (ho.Aj fun b hb hbl => Ac ?_).wide ?_, hMod.AL (.inl (by omega)) _⟩
 ·rintro rfl
  have := hT _ hb
  omega
 ·intro b hb hbl
  simp only [In, size_setRow] at hbl ⊢
  rcases hT b hb with h | h
  ·exact .inl h.1
  ·exact .inr (by omega)
theorem SG {M k b6 b7 gp n c : Nat} {q : Bool} {S T Sp S' : Nat → Prop} {cs0 ds' : List Value} {v2 v3 v4 : Value} {st1 : WorldD} {p' : PlaceD} {src idx : Int} {vcs : List Value} {curp : List Value} {e : Env} {w W W1 : World} (hv : [v2, v3, v4].all Value.oneCell' = true) (hf : BF M st1) (hk3 : k < n)
  (hgl : gp < W.heap.size) (hTg : T gp) (hSp : ∀ b, Sp b → T b ∧ b ≠ gp ∧ b < W.heap.size) (hle : k * 6 + 6 ≤ curp.length)
  (putp : ∀ (w' : World) (ds' : List Value) (p' : PlaceD) (S' : Nat → Prop), O Jf S' w' ds' p' → hp w' gp = some (.cells (Bh curp (k * 6) ds').toArray 84 (0, 0)) → (∀ b, b < W.heap.size → T b → b ≠ gp → ¬ Sp b → hp w' b = hp W b) → (∀ b, b < w'.heap.size → S' b → Sp b ∨ ¬ (b < W.heap.size ∧ T b)) →
    O tW (fun b => T b ∨ S' b) w' [.slice (some ⟨gp, 0, none⟩) n c, v2, v3, v4] { st1 with places := st1.places.set k p' })
  (hT : ∀ b, T b → (S b ∧ b < w.heap.size) ∨ w.heap.size + 4 ≤ b) (hMod : Mod S w W1)
  (ho : q = false → O tW T W1 [.slice (some ⟨gp, 0, none⟩) n c, v2, v3, v4] st1) (fp : CK M p') (op : O Jf S' W1 ds' p') (hS' : ∀ b, S' b → Sp b ∨ (W.heap.size ≤ b ∧ b ≠ b7)) (hK : ∀ b, b < W.heap.size → ¬ Sp b → hp W1 b = hp W b) (hz : W.heap.size ≤ W1.heap.size) (hz2 : w.heap.size + 4 ≤ W.heap.size)
  (hg : ∃ ds, ds.length = 6 ∧ hp W gp = some (.cells (Bh curp (k * 6) ds).toArray 84 (0, 0)))
  (e2 : e 2 = pt w.heap.size 0) (e4 : e 4 = pt (w.heap.size + 1 + 1) 0) (e6 : e 6 = pt b6 0) (e7 : e 7 = pt b7 0) (e8 : e 8 = .bool q) (hb6 : b6 < W.heap.size ∧ ¬ T b6) (hb7 : W.heap.size ≤ b7)
  (X2 : hp W w.heap.size = some (.cells #[.slice (some ⟨gp, 0, none⟩) n c, v2, v3, v4] 77 (0, 0))) (X4 : hp W (w.heap.size + 1 + 1) = some (.cells #[.slice none 0 0, .slice none 0 0, .slice none 0 0, .slice none 0 0] 77 (0, 0)))
  (X6 : hp W b6 = some (.cells (i64 src :: i64 k :: i64 idx :: vcs).toArray 131 (0, 0))) (X7 : hp W1 b7 = some (.cells ds'.toArray 84 (0, 0))) :
  Ae (CA e W1) (Step M S w cs0) := by
 have nT : ∀ b, w.heap.size ≤ b → b < w.heap.size + 4 → ¬ T b := fun b h1 h2 h => by have := hT b h; omega
 have Y2 := (hK w.heap.size (by omega) (fun h => nT _ (by omega) (by omega) (hSp _ h).1)).trans X2
 have Y4 := (hK (w.heap.size + 1 + 1) (by omega) (fun h => nT _ (by omega) (by omega) (hSp _ h).1)).trans X4
 have Y6 := (hK b6 hb6.1 (fun h => hb6.2 (hSp _ h).1)).trans X6
 rw [Js]
 cases q
 ·simp (disch := first | exact xD | fail) [-Option.bind_some, -Aa, -Ab, e8]
  exact Po hf (by omega) (ho rfl) (fun b h => by rcases hT b h with h | h; exact .inl h; exact .inr (by omega)) hMod xA xA Y2 Y4
 ·obtain ⟨ds, hds, hg⟩ := hg
  have Yg := (hK gp hgl (fun h => (hSp gp h).2.1 rfl)).trans hg
  have op' := op.d
  obtain ⟨ad, cd, ae, ce, af, cf, rfl, _, _, _⟩ := D.place.1 op'
  obtain ⟨t0, t1, t2, t3, t4, t5, rfl⟩ := Xe hds
  simp (disch := first | exact xD | fail) [-Option.bind_some, -Aa, -Ab, qm, e2, e6, e7, e8, Y2, Y6, X7, Yg, CQ]
  generalize hW2 : World.setRow _ gp _ = W2
  have sW2 : W2.heap.size = W1.heap.size := by rw [← hW2]; simp
  have kW2 : ∀ b, b ≠ gp → hp W2 b = hp W1 b := fun b h1 => by
   rw [← hW2]
   simp (disch := omega) only [Ac]
  have G2 : hp W2 gp = some (.cells (Bh curp (k * 6) [i64 p'.me, i64 p'.clock, .slice ad p'.chain.length cd, .slice ae p'.log.length ce, .slice af p'.Bu.length cf, .bool p'.fell]).toArray 84 (0, 0)) := by
   rw [← hW2]
   exact (by first | assumption | rfl | (simp (disch := first | exact xD | fail) [-Option.bind_some, -Aa, -Ab, Yg]; done))
  have hgS : w.heap.size ≤ gp ∨ S gp := by rcases hT gp hTg with h | h; exact .inr h.1; exact .inl (by omega)
  have MW2 : Mod S w W2 := by
   rw [← hW2]
   exact hMod.AL hgS _
  have oW2 := putp W2 _ p' S' (op.Aj fun b hb hbl => kW2 b (by rcases hS' b hb with h | h; exact (hSp b h).2.1; omega)) G2 (fun b hb _ hne hn => (kW2 b hne).trans (hK b hb hn)) (fun b _ h => by rcases hS' b h with h | h; exact .inl h; exact .inr (fun hh => by omega))
  have ng : ∀ b, w.heap.size ≤ b → b < w.heap.size + 4 → b ≠ gp := fun b h1 h2 h => nT b h1 h2 (h ▸ hTg)
  exact Po (hf.place (i := k) (M' := M) (by omega) fp) (by omega) oW2 (fun b h => by rcases h with h | h; rcases hT b h with h | h; exact .inl h; exact .inr (by omega); rcases hS' b h with h | h; rcases hT b (hSp b h).1 with h | h; exact .inl h; exact .inr (by omega); exact .inr (by omega)) MW2 xA xA ((kW2 _ (ng _ (by omega) (by omega))).trans Y2) ((kW2 _ (ng _ (by omega) (by omega))).trans Y4)
theorem Pp {M b6 : Nat} {kind at' num key : Int} {text : ByteArray} {gone : Bool} {S T Sf : Nat → Prop} {cs0 cs1 vcs : List Value} {st1 : WorldD} {f : FrameD} {e : Env} {w W : World} (hf : BF M st1) (hM : M ≤ 900000) (hff : UG f)
  (ho : O tW T W cs1 st1) (hT : ∀ b, T b → (S b ∧ b < w.heap.size) ∨ w.heap.size + 4 ≤ b) (hMod : Mod S w W) (dv : D BW Sf W vcs f.BV) (hz2 : w.heap.size + 4 ≤ W.heap.size) (hb6 : b6 < W.heap.size ∧ ¬ T b6)
  (e2 : e 2 = pt w.heap.size 0) (e3 : e 3 = pt (w.heap.size + 1) 0) (e4 : e 4 = pt (w.heap.size + 1 + 1) 0) (e6 : e 6 = pt b6 0)
  (X2 : hp W w.heap.size = some (.cells cs1.toArray 77 (0, 0))) (X3 : hp W (w.heap.size + 1) = some (.cells #[i64 kind, i64 at', i64 num, i64 key, .string text, .bool gone] 137 (0, 0)))
  (X4 : hp W (w.heap.size + 1 + 1) = some (.cells #[.slice none 0 0, .slice none 0 0, .slice none 0 0, .slice none 0 0] 77 (0, 0)))
  (X6 : hp W b6 = some (.cells (i64 f.src :: i64 f.dst :: i64 f.idx :: vcs).toArray 131 (0, 0))) :
  Ae (DO e W) (Step M S w cs0) := by
 have y4 := Aq X4
 have ho := ho.lt
 obtain ⟨u1, l1, d1, u2, l2, d2, u3, l3, d3, u4, l4, d4, rfl⟩ := ho.BX
 rw [Jr]
 refine Ae.post fun Q hQ => ?_
 cases h12 : (kind == 12)
 case true =>
  simp (disch := first | exact xD | fail) [-Option.bind_some, -Aa, -Ab, qm, e2, e3, e4, X2, X3, X4, h12]
  refine hQ _ ⟨_, _, true, rfl, by simp, hf.up (by omega), (ho.Aj fun b hb hbl => Ac ?_).wide ?_, hMod.AL (.inl (by omega)) _⟩
  ·rintro rfl
   have := hT _ hb.1
   omega
  ·intro b hb hbl
   simp only [In, size_setRow] at hbl ⊢
   rcases hT b hb.1 with h | h
   ·exact .inl h.1
   ·exact .inr (by omega)
 obtain ⟨hs0, hs2, hd0, hd2, hvp⟩ := hff
 obtain ⟨k, hk⟩ := Int.eq_ofNat_of_zero_le hd0
 obtain ⟨i, hi⟩ := Int.eq_ofNat_of_zero_le hs0
 have hk3 : k < st1.places.length := by rw [hf.1]; omega
 obtain ⟨p, hp', _⟩ := Ak hk3
 have hpf := hf.2.1 p (List.mem_of_getElem? hp')
 obtain ⟨c', a1', c1', a2', c2', a3', c3', gp, curp, dp, Sp, hcs, hSgp, hgpl, hgp, hlep, op, hSp, putp⟩ := O.F6 ho hp'
 simp only [List.cons.injEq, Value.slice.injEq, and_true] at hcs
 obtain ⟨⟨rfl, rfl, rfl⟩, ⟨rfl, rfl, rfl⟩, ⟨rfl, rfl, rfl⟩, rfl, rfl, rfl⟩ := hcs
 have op' := op.d
 obtain ⟨ac, cc, al, cl, ag, cg, rfl, _, _, _⟩ := D.place.1 op'
 obtain ⟨av, cv, rfl, dv1, dv2⟩ := D.BV.1 dv
 have dv : D BW Sf W [i64 f.BV.key, i64 f.BV.tag.t, i64 f.BV.tag.p, .slice av f.BV.past.length cv, .string f.BV.text, .bool f.BV.gone] f.BV := dv
 have Ap := Dk hgp (by simpa using hlep)
 have m0 := Ap 0 _ rfl
 have m1 := Ap 1 _ rfl
 have m2 := Ap 2 _ rfl
 have m3 := Ap 3 _ rfl
 have m4 := Ap 4 _ rfl
 have m5 := Ap 5 _ rfl
 simp only [Nat.add_zero] at m0 m1 m2 m3 m4 m5
 rw [hk, hi] at X6
 have nb6 : ¬ (T b6 ∧ b6 < W.heap.size) := fun h => hb6.2 h.1
 have fin : ∀ (e' : Env) (W1 : World) (b7 : Nat) (ds' : List Value) (p' : PlaceD) (S' : Nat → Prop) (q : Bool), Mod S w W1 → (q = false → Ext W W1) → CK M p' → O Jf S' W1 ds' p' → (∀ b, S' b → Sp b ∨ (W.heap.size ≤ b ∧ b ≠ b7)) → (∀ b, b < W.heap.size → ¬ Sp b → hp W1 b = hp W b) → W.heap.size ≤ W1.heap.size →
   e' 2 = pt w.heap.size 0 → e' 4 = pt (w.heap.size + 1 + 1) 0 → e' 6 = pt b6 0 → e' 7 = pt b7 0 → e' 8 = .bool q → W.heap.size ≤ b7 → hp W1 b7 = some (.cells ds'.toArray 84 (0, 0)) → Ae (CA e' W1) Q := by
  intro e' W1 b7 ds' p' S' q g1 g2 g3 g4 g5 g6 g7 e2' e4' e6' e7' e8' hb7 X7
  exact Ae.mono (SG (M := M) (k := k) (T := fun b => T b ∧ b < W.heap.size) (Sp := Sp) (v2 := .slice u2 st1.Ar.length d2) (v3 := .slice u3 st1.net.length d3) (v4 := .slice u4 st1.AE.length d4) (src := i) (idx := f.idx) rfl hf hk3 hgpl hSgp hSp hlep putp (fun b h => hT b h.1) g1 (fun hq => ho.ext (g2 hq)) g3 g4 g5 g6 g7 hz2 ⟨_, rfl, hgp⟩ e2' e4' e6' e7' e8' ⟨hb6.1, nb6⟩ hb7 X2 X4 X6 X7) hQ
 simp (disch := first | exact xD | fail) [-Option.bind_some, -Aa, -Ab, e3, X3, h12]
 refine Iw _ _ ?_
 simp (disch := first | exact xD | fail) [-Option.bind_some, qs, -Aa, -Ab, e2, e6, X2, X6, CQ, m0, m1, m2, m3, m4, m5]
 constructor
 ·skip
  refine Ae.mono (OI (i := i) hpf (by omega) hvp (dv.ext xE) (op.ext xE)) ?_
  rintro ⟨_, w1⟩ ⟨cs', p', q, rfl, hq, f1, o1, M1⟩
  try dsimp only at cs' p' q hq f1 o1 M1
  have zM1 := M1.size
  try simp only [qz] at zM1
  simp only [Ad] at zM1 o1
  have o1' := o1.d
  obtain ⟨ad, cd, ae, ce, af, cf, rfl, _, _, _⟩ := D.place.1 o1'
  have K1 : ∀ b, b < W.heap.size → ¬ Sp b → hp w1 b = hp W b := fun b hb h => (M1.Ai b xB h).trans (by simp (disch := (first | omega | (simp only [World.size_alloc, size_setRow, Ad]; omega))) only [BB])
  have nT : ∀ b, w.heap.size ≤ b → b < w.heap.size + 4 → ¬ Sp b := fun b h1 h2 h => by have := hT b (hSp b h).1.1; omega
  have N2 := K1 w.heap.size (by omega) (nT _ (by omega) (by omega))
  have N4 := K1 (w.heap.size + 1 + 1) (by omega) (nT _ (by omega) (by omega))
  have N6 := K1 b6 hb6.1 (fun h => nb6 (hSp _ h).1)
  have Ng := K1 gp hgpl (fun h => (hSp gp h).2.1 rfl)
  have hSm : ∀ b, Sp b → w.heap.size ≤ b ∨ S b := fun b h => by rcases hT b (hSp b h).1.1 with h | h; exact .inr h.1; exact .inl (by omega)
  have MS : Mod S w w1 := by
   refine Mod.AW (by first | exact hMod.SN | exact (hMod.SN).al _) M1 fun b hb h => ?_
   rcases hSm b h with h | h
   ·omega
   ·exact h
  simp (disch := first | exact xD | fail) [-Option.bind_some, qs, -Aa, -Ab, qm, N2, N6, Ng, X2, X6, m0, m1, m2, m3, m4, m5]
  refine fin _ _ w1.heap.size _ p' (fun b => Sp b ∨ In W.heap.size w1.heap.size b) q ((MS.al _).AL (.inl (by omega)) _) (fun h => ?_) f1 (o1.Aj fun b hb hbl => (Ac (by omega)).trans (Ag hbl)) (fun b h => by rcases h with h | h; exact .inl h; simp only [In] at h; exact .inr ⟨h.1, by omega⟩) (fun b hb h => (Ac (by omega)).trans ((Ag (by omega)).trans (K1 b hb h))) (by simp only [size_setRow, World.size_alloc]; omega) xA xA xA xA xA (by omega) (by first | assumption | rfl | (simp (disch := first | exact xD | fail) [-Option.bind_some, qs, -Aa, -Ab]; done))
  exact (((BJ W).tr (hq h)).al _).set (by omega) _
 ·skip
  refine Ae.mono (OI (i := i) hpf (by omega) hvp (dv.ext xE) (op.ext xE)) ?_
  rintro ⟨_, w1⟩ ⟨cs', p', q, rfl, hq, f1, o1, M1⟩
  try dsimp only at cs' p' q hq f1 o1 M1
  have zM1 := M1.size
  try simp only [qz] at zM1
  simp only [Ad, World.size_alloc] at zM1 o1
  have o1' := o1.d
  obtain ⟨ad, cd, ae, ce, af, cf, rfl, _, _, _⟩ := D.place.1 o1'
  have K1 : ∀ b, b < W.heap.size → ¬ Sp b → hp w1 b = hp W b := fun b hb h => (M1.Ai b xB h).trans (by simp (disch := (first | omega | (simp only [World.size_alloc, size_setRow, Ad]; omega))) only [Ag, BB])
  have nT : ∀ b, w.heap.size ≤ b → b < w.heap.size + 4 → ¬ Sp b := fun b h1 h2 h => by have := hT b (hSp b h).1.1; omega
  have N2 := K1 w.heap.size (by omega) (nT _ (by omega) (by omega))
  have N4 := K1 (w.heap.size + 1 + 1) (by omega) (nT _ (by omega) (by omega))
  have N6 := K1 b6 hb6.1 (fun h => nb6 (hSp _ h).1)
  have Ng := K1 gp hgpl (fun h => (hSp gp h).2.1 rfl)
  have hSm : ∀ b, Sp b → w.heap.size ≤ b ∨ S b := fun b h => by rcases hT b (hSp b h).1.1 with h | h; exact .inr h.1; exact .inl (by omega)
  have MS : Mod S w w1 := by
   refine Mod.AW (by first | exact hMod.SN | exact (hMod.SN).al _) M1 fun b hb h => ?_
   rcases hSm b h with h | h
   ·omega
   ·exact h
  have N7 : hp w1 W.heap.size = some (.cells #[i64 0, i64 0, .slice none 0 0, .slice none 0 0, .slice none 0 0, .bool false] 84 (0, 0)) := (M1.Ai _ xB (fun h => by have := (hSp _ h).2.2; omega)).trans (by first | assumption | rfl | (simp (disch := first | exact xD | fail) [-Option.bind_some, qs, -Aa, -Ab]; done))
  simp (disch := first | exact xD | fail) [-Option.bind_some, qs, -Aa, -Ab, qm, N7]
  refine fin _ _ W.heap.size _ p' (fun b => Sp b ∨ In (W.heap.size + 1) w1.heap.size b) q (MS.AL (.inl (by omega)) _) (fun h => ?_) f1 (o1.Aj fun b hb hbl => Ac ?_) (fun b h => by rcases h with h | h; exact .inl h; simp only [In] at h; exact .inr ⟨by omega, by omega⟩) (fun b hb h => (Ac (by omega)).trans (K1 b hb h)) (by simp only [size_setRow]; omega) xA xA xA xA xA (by omega) (by first | assumption | rfl | (simp (disch := first | exact xD | fail) [-Option.bind_some, -Aa, -Ab, N7]; done))
  ·exact (((BJ W).al _).tr (hq h)).set (by omega) _
  ·rcases hb with h | h
   ·have := (hSp b h).2.2; omega
   ·simp only [In] at h; omega
end Go.Proofs.YtjhhommnkaemlaaGreat.X
namespace Go.Proofs.YtjhhommnkaemlaaGreat.X
open Go Go.Ev Go.RowKit
 -- STEPS
attribute [local irreducible] World.alloc World.setRow Go.Ev.dw
abbrev Mj : Lay FrameD := GP 36
theorem Ty {M : Nat} {kind at' num key : Int} {text : ByteArray} {gone : Bool} {S : Nat → Prop} {cs : List Value} {st : WorldD} {w : World} (hf : BF M st) (hM : M ≤ 900000) (ho : O tW S w cs st) :
  Ae (EV P 116 #[.agg cs.toArray, .agg #[i64 kind, i64 at', i64 num, i64 key, .string text, .bool gone]] w) (Step M S w cs) := by
 have ho0 := ho
 have ho := ho.lt
 obtain ⟨pa, pc, sa, sc, na, nc, ha, hc, S3, rfl, on, hS3, put⟩ := O.T7 ho
 have ok : ∀ (w' : World), Ext w w' → Step M S w [.slice pa st.places.length pc, .slice sa st.Ar.length sc, .slice na st.net.length nc, .slice ha st.AE.length hc] (.tuple #[.agg #[.slice pa st.places.length pc, .slice sa st.Ar.length sc, .slice na st.net.length nc, .slice ha st.AE.length hc], .bool false], w') :=
  fun w' hE => Step.fail hf ho0 hE
 have nl12 := hf.2.2.2.2.1
 have nS3 : ∀ b, w.heap.size ≤ b → ¬ S3 b := fun b h h' => by have := (hS3 b h').2; omega
 refine Ae.post fun Q hQ => ?_
 refine Ae.enter plain mixed (Mr _ _ _) (by kernel_rfl) (n := 2) (by kernel_rfl) rfl ?_
 cases h10 : (kind == 10)
 case true =>
  simp (maxSteps := 1000000) (disch := first | exact xD | fail) [-Option.bind_some, qs, -Aa, -Ab, h10]
  refine Ae.bind (AD _ _ _ _) ?_
  rintro _ rfl
  cases hat : (decide (0 ≤ at') && decide (at' ≤ 2))
  ·simp (maxSteps := 1000000) (disch := first | exact xD | fail) [-Option.bind_some, qs, -Aa, -Ab, qm]
   exact hQ _ (ok _ xE)
  have hat' := hat
  simp only [Bool.and_eq_true, decide_eq_true_eq] at hat'
  obtain ⟨k, rfl⟩ := Int.eq_ofNat_of_zero_le hat'.1
  have hk3 : k < st.places.length := by rw [hf.1]; omega
  obtain ⟨p, hp', _⟩ := Ak hk3
  have hpf := hf.2.1 p (List.mem_of_getElem? hp')
  obtain ⟨c', a1', c1', a2', c2', a3', c3', gp, curp, dp, Sp, hcs, hSgp, hgpl, hgp, hlep, op, hSp, _⟩ := O.F6 ho hp'
  simp only [List.cons.injEq, Value.slice.injEq, and_true, true_and] at hcs
  obtain ⟨⟨rfl, rfl⟩, ⟨rfl, rfl⟩, ⟨rfl, rfl⟩, rfl, rfl⟩ := hcs
  have op' := op.d
  obtain ⟨ac, cc, al, cl, ag, cg, rfl, _, q2, _⟩ := D.place.1 op'
  have Ap := Dk hgp (by simpa using hlep)
  have m0 := Ap 0 _ rfl
  have m1 := Ap 1 _ rfl
  have m2 := Ap 2 _ rfl
  have m3 := Ap 3 _ rfl
  have m4 := Ap 4 _ rfl
  have m5 := Ap 5 _ rfl
  simp only [Nat.add_zero] at m0 m1 m2 m3 m4 m5
  have hw1 : IntKind.i64.wrap ((p.log.length : Int) - 1) = (p.log.length : Int) - 1 := Kv (by have := hpf.2.1; omega) (by have := hpf.2.1; omega)
  simp (maxSteps := 1000000) (disch := first | exact xD | fail) [-Option.bind_some, qs, -Aa, -Ab]
  refine Ae.bind (AD _ _ _ _) ?_
  rintro _ rfl
  cases hnm : (decide (0 ≤ num) && decide (num ≤ 2))
  ·simp (maxSteps := 1000000) (disch := first | exact xD | fail) [-Option.bind_some, qs, -Aa, -Ab, qm]
   exact hQ _ (ok _ xE)
  have hnm' := hnm
  simp only [Bool.and_eq_true, decide_eq_true_eq] at hnm'
  cases hkn : ((k : Int) == num)
  case true =>
   simp (maxSteps := 1000000) (disch := first | exact xD | fail) [-Option.bind_some, qs, -Aa, -Ab, qm, hkn]
   exact hQ _ (ok _ xE)
  by_cases h12 : st.net.length < 12
  ·simp (maxSteps := 1000000) (disch := first | exact xD | fail) [-Option.bind_some, qs, -Aa, -Ab, hkn, hw1, show ¬ (12 : Int) ≤ st.net.length by omega, CQ, m3]
   refine Ae.bind (AD _ _ _ _) ?_
   rintro _ rfl
   cases hky : (decide (0 ≤ key) && decide (key ≤ (p.log.length : Int) - 1))
   ·simp (maxSteps := 1000000) (disch := first | exact xD | fail) [-Option.bind_some, qs, -Aa, -Ab, qm]
    exact hQ _ (ok _ xE)
   have hky' := hky
   simp only [Bool.and_eq_true, decide_eq_true_eq] at hky'
   obtain ⟨j, rfl⟩ := Int.eq_ofNat_of_zero_le hky'.1
   have hjl : j < p.log.length := by omega
   obtain ⟨v, hv, _⟩ := Ak hjl
   have hvp := hpf.2.2.1 v (List.mem_of_getElem? hv)
   obtain ⟨b1, o1, cs1, rfl, A1, D1, _, _⟩ := q2.at (by decide) hv
   have D1' := D1
   obtain ⟨av, cv, rfl, _, _⟩ := D.BV.1 D1'
   have t0 := A1 0 _ rfl
   have t1 := A1 1 _ rfl
   have t2 := A1 2 _ rfl
   have t3 := A1 3 _ rfl
   have t4 := A1 4 _ rfl
   have t5 := A1 5 _ rfl
   simp only [Bw, Nat.add_zero] at t0 t1 t2 t3 t4 t5
   simp (maxSteps := 1000000) (disch := first | exact xD | fail) [-Option.bind_some, qs, -Aa, -Ab, CQ, BP, m3, t0, t1, t2, t3, t4, t5]
   refine Ae.bind (AX (D1.ext xE)) ?_
   rintro ⟨_, w1⟩ ⟨ds, rfl, o2, E1⟩
   try dsimp only at ds o2 E1
   have zE1 := E1.size
   try simp only [qz] at zE1
   have zo2 := O.BV.1 o2
   obtain ⟨a5, c5, rfl, _, _⟩ := zo2
   simp only [Ad, World.size_alloc] at o2 zE1
   have F1 : Ext w w1 := xE
   have B0 : hp w1 w.heap.size = some (.cells #[.slice (some ⟨gp, 0, none⟩) st.places.length pc, .slice sa st.Ar.length sc, .slice na st.net.length nc, .slice ha st.AE.length hc] 77 (0, 0)) := (E1.Ai xB).trans (by first | assumption | rfl | (simp (maxSteps := 1000000) (disch := first | exact xD | fail) [-Option.bind_some, qs, -Aa, -Ab]; done))
   have B1 : hp w1 (w.heap.size + 1) = some (.cells #[i64 kind, i64 k, i64 num, i64 j, .string text, .bool gone] 137 (0, 0)) := (E1.Ai xB).trans (by first | assumption | rfl | (simp (maxSteps := 1000000) (disch := first | exact xD | fail) [-Option.bind_some, qs, -Aa, -Ab]; done))
   have B2 : hp w1 (w.heap.size + 1 + 1) = some (.cells #[.slice none 0 0, .slice none 0 0, .slice none 0 0, .slice none 0 0] 77 (0, 0)) := (E1.Ai xB).trans (by first | assumption | rfl | (simp (maxSteps := 1000000) (disch := first | exact xD | fail) [-Option.bind_some, qs, -Aa, -Ab]; done))
   simp (maxSteps := 1000000) (disch := first | exact xD | fail) [-Option.bind_some, qs, -Aa, -Ab, B0, B1]
   have of : O Mj (In w.heap.size w1.heap.size) w1 [i64 k, i64 num, i64 j, i64 v.key, i64 v.tag.t, i64 v.tag.p, .slice a5 v.past.length c5, .string v.text, .bool v.gone] ⟨k, num, j, v⟩ := O.frame.2 ⟨_, rfl, o2.wide fun b hb _ => by simp only [In] at hb ⊢; omega⟩
   refine Ae.bind (O.app (L := Mj) (mx := 1466015503701) (S1 := In (w.heap.size + 1 + 1 + 1) w1.heap.size) (x := ⟨k, num, j, v⟩) (cs := [i64 k, i64 num, i64 j, i64 v.key, i64 v.tag.t, i64 v.tag.p, .slice a5 v.past.length c5, .string v.text, .bool v.gone]) Nv On rfl (by decide) (on.ext xE) (O.frame.2 ⟨_, rfl, (o2.Aj (fun b hb hbl => Ag hbl))⟩) (fun b hb h1 h2 => by have := (hS3 b h1).2; simp only [In] at h2; omega) (At.nw (by simp)) (by omega) (by decide) (by decide)) ?_
   rintro ⟨_, w2⟩ ⟨a7, c7, rfl, o7, M7⟩
   have zM7 := M7.size
   try simp only [qz] at zM7
   try dsimp only at o7 M7
   have zM7 := M7.size
   simp only [World.size_alloc] at zM7 o7
   have F2 : Ext w (w1.alloc (.cells #[i64 k, i64 num, i64 j, i64 v.key, i64 v.tag.t, i64 v.tag.p, .slice a5 v.past.length c5, .string v.text, .bool v.gone] 131)) := F1.al _
   have C0 := (M7.Ai w.heap.size xB (nS3 _ (by omega))).trans ((Ag (by omega)).trans B0)
   have C2 := (M7.Ai (w.heap.size + 1 + 1) xB (nS3 _ (by omega))).trans ((Ag (by omega)).trans B2)
   simp (maxSteps := 1000000) (disch := first | exact xD | fail) [-Option.bind_some, qs, -Aa, -Ab, qm, C0, C2]
   have kk : ∀ b, b < w.heap.size → ¬ S3 b → hp ((w2.setRow w.heap.size #[.slice (some ⟨gp, 0, none⟩) st.places.length pc, .slice sa st.Ar.length sc, .slice a7 (st.net.length + 1) c7, .slice ha st.AE.length hc]).setRow (w.heap.size + 1 + 1) #[.slice (some ⟨gp, 0, none⟩) st.places.length pc, .slice sa st.Ar.length sc, .slice a7 (st.net.length + 1) c7, .slice ha st.AE.length hc]) b = hp w b := fun b hb hn => (Ac (by omega)).trans ((Ac (by omega)).trans ((M7.Ai b xB hn).trans ((Ag (by omega)).trans (F1.Ai hb))))
   refine hQ _ ⟨_, _, true, rfl, by simp, ?_, (put _ (.slice a7 (st.net.length + 1) c7) (st.net ++ [⟨k, num, j, v⟩]) (fun b => S3 b ∨ w.heap.size + 3 ≤ b) ((o7.Aj fun b hb hbl => ?_).wide ?_) (fun b hb _ hn => kk b hb hn) (fun b _ h => by rcases h with h | h; exact .inl h; exact .inr (fun hh => by omega))).wide ?_, ?_⟩
   ·refine BF.up (M := M) ⟨hf.1, hf.2.1, hf.2.2.1, hf.2.2.2.1, by simp; omega, fun f hf' => ?_, hf.2.2.2.2.2.2⟩ (by omega)
    rcases List.mem_append.1 hf' with h | h
    ·exact hf.2.2.2.2.2.1 f h
    ·rw [List.mem_singleton.1 h]
     exact ⟨by show (0 : Int) ≤ k; omega, by show (k : Int) ≤ 2; omega, hnm'.1, hnm'.2, hvp⟩
   ·have : b ≠ w.heap.size ∧ b ≠ w.heap.size + 1 + 1 := by
     rcases hb with h | h | h
     ·have := (hS3 b h).2; omega
     ·simp only [In] at h; omega
     ·omega
    rw [Ac this.2, Ac this.1]
   ·intro b hb hbl
    rcases hb with h | h | h
    ·exact .inl h
    ·simp only [In] at h; exact .inr (by omega)
    ·exact .inr (by omega)
   ·intro b hb hbl
    simp only [In, size_setRow] at hbl ⊢
    rcases hb with h | h | h
    ·exact .inl h.1
    ·exact .inl (hS3 b h).1.1
    ·exact .inr (by omega)
   ·exact ((Mod.AW (Mod.of F2 S) M7 fun b _ h => (hS3 b h).1.1).AL (.inl (Nat.le_refl _)) _).AL (.inl (by omega)) _
  ·simp (maxSteps := 1000000) (disch := first | exact xD | fail) [-Option.bind_some, qs, -Aa, -Ab, qm, hkn, show (12 : Int) ≤ st.net.length by omega]
   exact hQ _ (ok _ xE)
 have hw2 : IntKind.i64.wrap ((st.net.length : Int) - 1) = (st.net.length : Int) - 1 := Kv (by omega) (by omega)
 simp (maxSteps := 1000000) (disch := first | exact xD | fail) [-Option.bind_some, qs, -Aa, -Ab, h10, hw2]
 refine Ae.bind (AD _ _ _ _) ?_
 rintro _ rfl
 cases hat : (decide (0 ≤ at') && decide (at' ≤ (st.net.length : Int) - 1))
 ·simp (maxSteps := 1000000) (disch := first | exact xD | fail) [-Option.bind_some, qs, -Aa, -Ab, qm]
  exact hQ _ (ok _ xE)
 have hat' := hat
 simp only [Bool.and_eq_true, decide_eq_true_eq] at hat'
 obtain ⟨i, rfl⟩ := Int.eq_ofNat_of_zero_le hat'.1
 have hi : i < st.net.length := by omega
 obtain ⟨f, hfi, _⟩ := Ak hi
 have hff := hf.2.2.2.2.2.1 f (List.mem_of_getElem? hfi)
 obtain ⟨css, S1, S2, a9, c9, Sf, cx, b1, o1, L1, L2, d1, d2, sl1, sl2, A3, A4, dB, rfl, A1, of, dF⟩ := on.T6 (by decide) Nv hfi
 obtain ⟨ds, rfl, D2⟩ := D.frame.1 of.d
 have D2' := D2
 obtain ⟨av, cv, rfl, _, _⟩ := D.BV.1 D2'
 have yb1 := A1.lt
 have t0 := A1 0 _ rfl
 have t1 := A1 1 _ rfl
 have t2 := A1 2 _ rfl
 have t3 := A1 3 _ rfl
 have t4 := A1 4 _ rfl
 have t5 := A1 5 _ rfl
 have t6 := A1 6 _ rfl
 have t7 := A1 7 _ rfl
 have t8 := A1 8 _ rfl
 simp only [Nat.add_zero] at t0 t1 t2 t3 t4 t5 t6 t7 t8
 simp only [ON] at t0 t1 t2 t3 t4 t5 t6 t7 t8
 cases h13 : (kind != 13)
 ·simp (maxSteps := 1000000) (disch := first | exact xD | fail) [-Option.bind_some, qs, -Aa, -Ab, qm, h13, RO, t0, t1, t2, t3, t4, t5, t6, t7, t8]
  exact Ae.mono (Pp (M := M) (b6 := w.heap.size + 1 + 1 + 1) (kind := kind) (at' := i) (num := num) (key := key) (text := text) (gone := gone) (T := fun b => S b ∧ b < w.heap.size) (f := f) hf hM hff (ho.ext xE) (fun b h => .inl h) xM (D2.ext xE) xB ⟨xB, fun h => by omega⟩ xA xA xA xA (by first | assumption | rfl | (simp (maxSteps := 1000000) (disch := first | exact xD | fail) [-Option.bind_some, qs, -Aa, -Ab]; done)) (by first | assumption | rfl | (simp (maxSteps := 1000000) (disch := first | exact xD | fail) [-Option.bind_some, qs, -Aa, -Ab]; done)) (by first | assumption | rfl | (simp (maxSteps := 1000000) (disch := first | exact xD | fail) [-Option.bind_some, qs, -Aa, -Ab]; done)) (by first | assumption | rfl | (simp (maxSteps := 1000000) (disch := first | exact xD | fail) [-Option.bind_some, qs, -Aa, -Ab]; done))) hQ
 have sl2' : ∀ w', sl P 75 (.slice (some ⟨b1, o1, none⟩) st.net.length nc) (some (i64 ((i : Int) + 1))) none none w' = some (.slice a9 (st.net.length - (i + 1)) c9, w') := fun w' => by
  have := sl2 w'
  rwa [show ((i + 1 : Nat) : Int) = (i : Int) + 1 by omega] at this
 simp (maxSteps := 1000000) (disch := first | exact xD | fail) [-Option.bind_some, qs, -Aa, -Ab, qm, h13, RO, sl1, sl2', t0, t1, t2, t3, t4, t5, t6, t7, t8]
 refine Ae.bind (O.OY (P := P) (L := Mj) (mx := 1466015503701) (xs := []) (ys := st.net.take i) (ty := 75) Nv On rfl (by decide) (O.empty (L := Mj) (mx := 1466015503701) (g := w.heap.size + 1 + 1 + 1 + 1) (by first | assumption | rfl | (simp (maxSteps := 1000000) (disch := first | exact xD | fail) [-Option.bind_some, qs, -Aa, -Ab]; done))) (L1.Aj (by intro b hS hb; (try dsimp only at hS); (try simp only [In, qz] at hS hb); first | rfl | (simp (disch := first | exact xF | fail) only [qk]; done))) (fun b hb h1 h2 => by have := (d1 b h2).2.2; have h1 : b = w.heap.size + 1 + 1 + 1 + 1 := h1; omega) (A3.imp id fun ⟨b, o, h1, h2, h4⟩ => ⟨b, o, h1, h4.mono (Ext.Aj xE)⟩) (by rw [List.length_take]; omega) (by simp; omega) (by decide) (by decide)) ?_
 rintro ⟨_, w1⟩ ⟨a1, c1, rfl, o1', M1⟩
 have zM1 := M1.size
 try simp only [qz] at zM1
 try dsimp only at o1' M1
 have zM1 := M1.size
 simp only [World.size_alloc, Ad, size_setRow, List.length_nil, Nat.zero_add, List.nil_append] at zM1 o1'
 have htk : (st.net.take i).length = i := by rw [List.length_take]; omega
 have F1 : Ext w w1 := Mod.after xE M1 (fun b h1 h2 => by have h2 : b = w.heap.size + 1 + 1 + 1 + 1 := h2; omega)
 have Y0 : hp w1 w.heap.size = some (.cells #[.slice pa st.places.length pc, .slice sa st.Ar.length sc, .slice (some ⟨b1, o1, none⟩) st.net.length nc, .slice ha st.AE.length hc] 77 (0, 0)) := (M1.Ai _ xB (by omega)).trans (by first | assumption | rfl | (simp (maxSteps := 1000000) (disch := first | exact xD | fail) [-Option.bind_some, qs, -Aa, -Ab]; done))
 have Y1 : hp w1 (w.heap.size + 1) = some (.cells #[i64 kind, i64 i, i64 num, i64 key, .string text, .bool gone] 137 (0, 0)) := (M1.Ai _ xB (by omega)).trans (by first | assumption | rfl | (simp (maxSteps := 1000000) (disch := first | exact xD | fail) [-Option.bind_some, qs, -Aa, -Ab]; done))
 have Y2 : hp w1 (w.heap.size + 1 + 1) = some (.cells #[.slice none 0 0, .slice none 0 0, .slice none 0 0, .slice none 0 0] 77 (0, 0)) := (M1.Ai _ xB (by omega)).trans (by first | assumption | rfl | (simp (maxSteps := 1000000) (disch := first | exact xD | fail) [-Option.bind_some, qs, -Aa, -Ab]; done))
 have Y3 : hp w1 (w.heap.size + 1 + 1 + 1) = some (.cells #[i64 f.src, i64 f.dst, i64 f.idx, i64 f.BV.key, i64 f.BV.tag.t, i64 f.BV.tag.p, .slice av f.BV.past.length cv, .string f.BV.text, .bool f.BV.gone] 131 (0, 0)) := (M1.Ai _ xB (by omega)).trans (by first | assumption | rfl | (simp (maxSteps := 1000000) (disch := first | exact xD | fail) [-Option.bind_some, qs, -Aa, -Ab]; done))
 simp (maxSteps := 1000000) (disch := first | exact xD | fail) [-Option.bind_some, -Aa, -Ab, Y0, Y1, List.length_nil, Nat.zero_add]
 refine Ae.bind (O.OY (P := P) (L := Mj) (mx := 1466015503701) (xs := st.net.take i) (ys := st.net.drop (i + 1)) (ty := 75) Nv On rfl (by decide) o1' (L2.Aj (fun b hS hb => F1.Ai hb)) (fun b hb h1 h2 => ?_) (A4.imp id fun ⟨b, o, h1, h2, h4⟩ => ⟨b, o, h1, h4.mono (Ext.Aj F1)⟩) (by rw [List.length_drop]) (by rw [htk]; omega) (by decide) (by decide)) ?_
 ·have q := d2 b h2
  rcases h1 with h | h | h
  ·have h : b = w.heap.size + 1 + 1 + 1 + 1 := h
   omega
  ·exact q.2.1 h
  ·omega
 rintro ⟨_, w2⟩ ⟨a3, c3, rfl, o3, M2⟩
 have zM2 := M2.size
 try simp only [] at zM2
 try dsimp only at o3 M2
 have zM2 := M2.size
 obtain ⟨ms, hms⟩ : ∃ ms, ms = st.net.take i ++ st.net.drop (i + 1) := ⟨_, rfl⟩
 have hml : ms.length = st.net.length - 1 := by rw [hms, List.length_append, htk, List.length_drop]; omega
 have hmf : ∀ x ∈ ms, UG x := by
  intro x hx
  rw [hms, List.mem_append] at hx
  rcases hx with h | h
  ·exact hf.2.2.2.2.2.1 x (List.mem_of_mem_take h)
  ·exact hf.2.2.2.2.2.1 x (List.mem_of_mem_drop h)
 rw [htk, ← hms, show i + (st.net.length - (i + 1)) = ms.length by omega] at o3
 rw [htk, show i + (st.net.length - (i + 1)) = ms.length by omega]
 have hS4 : ∀ b, ((b = w.heap.size + 1 + 1 + 1 + 1 ∨ S1 b ∨ w.heap.size + 1 + 1 + 1 + 1 + 1 ≤ b ∧ b < w1.heap.size) ∨ S2 b ∨ w1.heap.size ≤ b ∧ b < w2.heap.size) → (S3 b ∧ b < w.heap.size ∧ ¬ Sf b) ∨ (w.heap.size + 1 + 1 + 1 + 1 ≤ b ∧ b < w2.heap.size) := by
  rintro b ((h | h | h) | h | h)
  ·exact .inr (by omega)
  ·exact .inl ⟨(d1 b h).1, (d1 b h).2.2, fun hh => (dF b hh).2.1 h⟩
  ·exact .inr (by omega)
  ·exact .inl ⟨(d2 b h).1, (d2 b h).2.2, fun hh => (dF b hh).2.2.1 h⟩
  ·exact .inr (by omega)
 have nM : ∀ b, w.heap.size ≤ b → b < w.heap.size + 4 → ¬ (b = w.heap.size + 1 + 1 + 1 + 1 ∨ S1 b ∨ w.heap.size + 1 + 1 + 1 + 1 + 1 ≤ b ∧ b < w1.heap.size) := fun b h1 h2 h => by have := hS4 _ (.inl h); omega
 have Z0 := (M2.Ai w.heap.size (by omega) (nM _ (by omega) (by omega))).trans Y0
 have Z1 := (M2.Ai (w.heap.size + 1) (by omega) (nM _ (by omega) (by omega))).trans Y1
 have Z2 := (M2.Ai (w.heap.size + 1 + 1) (by omega) (nM _ (by omega) (by omega))).trans Y2
 have Z3 := (M2.Ai (w.heap.size + 1 + 1 + 1) (by omega) (nM _ (by omega) (by omega))).trans Y3
 have N2 : Mod S w w2 := Mod.AW (Mod.of F1 S) M2 (fun b hb h => by rcases hS4 _ (.inl h) with q | q; exact (hS3 b q.1).1.1; omega)
 simp (maxSteps := 1000000) (disch := first | exact xD | fail) [-Option.bind_some, -Aa, -Ab, qm, Z0]
 have kk : ∀ b, b < w.heap.size → (¬ S3 b ∨ Sf b) → hp (w2.setRow w.heap.size #[.slice pa st.places.length pc, .slice sa st.Ar.length sc, .slice a3 ms.length c3, .slice ha st.AE.length hc]) b = hp w b := fun b hb hn => (Ac (by omega)).trans ((M2.Ai b (by omega) (fun h => by rcases hS4 _ (.inl h) with q | q; rcases hn with hn | hn; exact hn q.1; exact q.2.2 hn; omega)).trans (F1.Ai hb))
 have oN := (put (w2.setRow w.heap.size #[.slice pa st.places.length pc, .slice sa st.Ar.length sc, .slice a3 ms.length c3, .slice ha st.AE.length hc]) (.slice a3 ms.length c3) ms (fun b => S3 b ∨ w.heap.size + 4 ≤ b) ((o3.Aj fun b hb hbl => Ac (by rcases hS4 b hb with h | h <;> omega)).wide fun b hb _ => by rcases hS4 b hb with h | h; exact .inl h.1; exact .inr (by omega)) (fun b hb _ hn => kk b hb (.inl hn)) (fun b _ h => by rcases h with h | h; exact .inl h; exact .inr (fun hh => by omega))).wide (S' := fun b => (S b ∧ b < w.heap.size) ∨ w.heap.size + 4 ≤ b) (fun b h _ => by rcases h with h | h | h; exact .inl h; exact .inl ⟨(hS3 b h).1.1, (hS3 b h).2⟩; exact .inr h)
 have fN : BF M { st with net := ms } := ⟨hf.1, hf.2.1, hf.2.2.1, hf.2.2.2.1, by show ms.length ≤ 12; omega, hmf, hf.2.2.2.2.2.2⟩
 exact Ae.mono (Pp (M := M) (b6 := w.heap.size + 1 + 1 + 1) (kind := kind) (at' := i) (num := num) (key := key) (text := text) (gone := gone) (cs1 := [.slice pa st.places.length pc, .slice sa st.Ar.length sc, .slice a3 ms.length c3, .slice ha st.AE.length hc]) (T := fun b => (S b ∧ b < w.heap.size) ∨ w.heap.size + 4 ≤ b) (Sf := Sf) (f := f) (w := w) fN hM hff oN (fun b h => h) (N2.AL (.inl (Nat.le_refl _)) _) (D2.Aj fun b hb hbl => kk b hbl (.inr hb)) (by simp only [size_setRow]; omega) ⟨by simp only [size_setRow]; omega, fun h => by omega⟩ xA xA xA xA (by first | assumption | rfl | (simp (maxSteps := 1000000) (disch := first | exact xD | fail) [-Option.bind_some, -Aa, -Ab, Z0]; done)) ((Ac (by omega)).trans Z1) ((Ac (by omega)).trans Z2) ((Ac (by omega)).trans Z3)) hQ
end Go.Proofs.YtjhhommnkaemlaaGreat.X
namespace Go.Proofs.YtjhhommnkaemlaaGreat.X
open Go Go.Ev Go.RowKit
attribute [local irreducible] World.alloc World.setRow Go.Ev.dw
theorem P4 {M : Nat} {kind at' num key : Int} {text : ByteArray} {gone : Bool} {S : Nat → Prop} {cs : List Value} {st : WorldD} {w : World} (hf : BF M st) (hM : M ≤ 900000) (htx : text.size ≤ 1000) (ho : O tW S w cs st) :
  Ae (EV P 100 #[.agg cs.toArray, .agg #[i64 kind, i64 at', i64 num, i64 key, .string text, .bool gone]] w) (Step M S w cs) := by
 have ho0 := ho
 have ho := ho.lt
 obtain ⟨pa, pn, pc, sa, sn, sc, na, nn, nc, ha, hn, hc, rfl⟩ := ho.BX
 refine Ae.post fun Q hQ => ?_
 refine Ae.enter plain mixed (Of _ _ _) (by kernel_rfl) (n := 2) (by kernel_rfl) rfl ?_
 simp (disch := first | exact xD | fail) [-Option.bind_some, qs, -Aa, -Ab]
 refine Ae.bind (AD _ _ _ _) ?_
 rintro _ rfl
 cases h1 : (decide (1 ≤ kind) && decide (kind ≤ 5))
 case true =>
  simp (disch := first | exact xD | fail) [-Option.bind_some, qs, -Aa, -Ab]
  refine Ae.bind (PZ hf hM htx (ho.ext xE)) ?_
  rintro ⟨_, w3⟩ h3
  obtain ⟨u1, n1, c1, u2, n2, c2, u3, n3, c3, u4, n4, c4, q, rfl, hg, hS⟩ := h3.out (g := w.heap.size + 1 + 1) xE (by omega) xB
  have hg' := hg.trans (by first | assumption | rfl | (simp (disch := first | exact xD | fail) [-Option.bind_some, qs, -Aa, -Ab, qm, hg]; done))
  simp (disch := first | exact xD | fail) [-Option.bind_some, qs, -Aa, -Ab, qm, hg']
  exact hQ _ hS
 simp (disch := first | exact xD | fail) [-Option.bind_some, qs, -Aa, -Ab]
 refine Ae.bind (AD _ _ _ _) ?_
 rintro _ rfl
 cases h2 : (decide (6 ≤ kind) && decide (kind ≤ 9))
 case true =>
  simp (disch := first | exact xD | fail) [-Option.bind_some, qs, -Aa, -Ab]
  refine Ae.bind (Q5 hf hM (ho.ext xE)) ?_
  rintro ⟨_, w3⟩ h3
  obtain ⟨u1, n1, c1, u2, n2, c2, u3, n3, c3, u4, n4, c4, q, rfl, hg, hS⟩ := h3.out (g := w.heap.size + 1 + 1) xE (by omega) xB
  have hg' := hg.trans (by first | assumption | rfl | (simp (disch := first | exact xD | fail) [-Option.bind_some, qs, -Aa, -Ab, qm, hg]; done))
  simp (disch := first | exact xD | fail) [-Option.bind_some, qs, -Aa, -Ab, qm, hg']
  exact hQ _ hS
 simp (disch := first | exact xD | fail) [-Option.bind_some, qs, -Aa, -Ab]
 refine Ae.bind (AD _ _ _ _) ?_
 rintro _ rfl
 cases h3 : (decide (10 ≤ kind) && decide (kind ≤ 13))
 case true =>
  simp (disch := first | exact xD | fail) [-Option.bind_some, qs, -Aa, -Ab]
  refine Ae.bind (Ty hf hM (ho.ext xE)) ?_
  rintro ⟨_, w3⟩ h3
  obtain ⟨u1, n1, c1, u2, n2, c2, u3, n3, c3, u4, n4, c4, q, rfl, hg, hS⟩ := h3.out (g := w.heap.size + 1 + 1) xE (by omega) xB
  have hg' := hg.trans (by first | assumption | rfl | (simp (disch := first | exact xD | fail) [-Option.bind_some, qs, -Aa, -Ab, qm, hg]; done))
  simp (disch := first | exact xD | fail) [-Option.bind_some, qs, -Aa, -Ab, qm, hg']
  exact hQ _ hS
 simp (disch := first | exact xD | fail) [-Option.bind_some, qs, -Aa, -Ab, qm]
 exact hQ _ (Step.fail hf ho0 xE)
end Go.Proofs.YtjhhommnkaemlaaGreat.X
namespace Go.Proofs.YtjhhommnkaemlaaGreat.X
open Go Go.Ev Go.RowKit
def NI (me nodes : Int) : PlaceD := ⟨me, 0, BA nodes, [], List.replicate 3 [], false⟩
theorem SH {me : Int} {m : Nat} (h : m < 4) : CK 0 (NI me (1 + (m : Int))) :=
 ⟨Rp h, by show ([] : List Ver).length ≤ 0; simp, fun v hv => by simp [NI] at hv, by show (List.replicate 3 ([] : List Ver)).length = 3; simp, fun l hl => by
  obtain rfl := List.eq_of_mem_replicate hl
  exact ⟨by simp, fun v hv => by simp at hv⟩⟩
theorem Tz {me nodes : Int} {g : Nat} {e : Env} {w : World} (e0 : e 0 = i64 me) (e1 : e 1 = i64 nodes) (e4 : e 4 = pt g 0) (X1 : hp w g = some (.cells #[i64 0, i64 0, .slice none 0 0, .slice none 0 0, .slice none 0 0, .bool false] 84 (0, 0))) :
  Ae (FI e w) fun r => ∃ ds, r.1 = .agg ds.toArray ∧ O Jf (In w.heap.size r.2.heap.size) r.2 ds (NI me nodes) ∧ Mod (fun b => b = g) w r.2 := by
 have y1 := Aq X1
 unfold NI
 refine Ae.post fun Q hQ => ?_
 refine Iv _ _ ?_
 simp (disch := first | exact xD | fail) [-Option.bind_some, -Aa, -Ab, e0, e1, e4]
 constructor
 ·skip
  refine Ae.mono (GB nodes) ?_
  rintro ⟨_, w1⟩ ⟨a1, c1, rfl, o1, E1⟩
  try dsimp only at a1 c1 o1 E1
  have zE1 := E1.size
  try simp only [qz] at zE1
  simp (disch := first | exact xD | fail) [-Option.bind_some, -Aa, -Ab]
  refine Ae.mono (O.make (L := AQ) (mx := 5864062014805) (n := 3) (x0 := ([] : List Ver)) Ql RR rfl (by decide) (fun w => O.nil) (by decide) (by decide) (by decide)) ?_
  rintro ⟨_, w2⟩ ⟨rfl, o2, z2, E2⟩
  have zE2 := E2.size
  try simp only [] at zE2
  try dsimp only at o2 z2 E2
  have Y1 : hp w2 g = hp w g := (E2.Ai (by omega)).trans ((E1.Ai (by simp only [Ad]; omega)).trans (BB _ _))
  simp (disch := first | exact xD | fail) [-Option.bind_some, qs, -Aa, -Ab, qm, e4, Y1, X1, FR]
  refine hQ _ ⟨[_, _, _, _, _, _], rfl, ((O.DY (p := ⟨me, 0, BA nodes, [], List.replicate 3 [], false⟩) (S2 := fun _ => False) (o1.Aj (fun b hS hb => (Ac (by simp only [In, Ad] at hS; omega)).trans (E2.Ai hb))) O.nil (o2.Aj (fun b hS hb => Ac (by (try simp only [Ad] at *); omega))) (fun _ _ _ h => h) (fun b _ h h' => by simp only [In] at h; omega) (fun _ _ h => h.elim))).wide ?_, (Mod.of (show Ext w w2 from ((BJ w).tr E1).tr E2) (fun b => b = g)).AL (.inr rfl) _⟩
  rintro b (h | h | h) hb
  ·simp only [In, size_setRow, Ad] at *
   omega
  ·exact h.elim
  ·simp only [In, size_setRow, Ad] at *
   omega
 ·skip
  refine Ae.mono (O.make (L := AQ) (mx := 5864062014805) (n := 3) (x0 := ([] : List Ver)) Ql RR rfl (by decide) (fun w => O.nil) (by decide) (by decide) (by decide)) ?_
  rintro ⟨_, w2⟩ ⟨rfl, o2, z2, E2⟩
  have zE2 := E2.size
  try simp only [qz] at zE2
  try dsimp only at o2 z2 E2
  rw [Ad] at z2
  simp (disch := first | exact xD | fail) [-Option.bind_some, -Aa, -Ab]
  refine Ae.mono (GB nodes) ?_
  rintro ⟨_, w1⟩ ⟨a1, c1, rfl, o1, E1⟩
  try dsimp only at a1 c1 o1 E1
  have zE1 := E1.size
  try simp only [qz] at zE1
  have Y1 : hp w1 g = hp w g := (E1.Ai (by omega)).trans ((E2.Ai (by simp only [Ad]; omega)).trans (BB _ _))
  have zE1' := E1.size
  simp (disch := first | exact xD | fail) [-Option.bind_some, qs, -Aa, -Ab, qm, e4, Y1, X1, FR]
  refine hQ _ ⟨[_, _, _, _, _, _], rfl, ((O.DY (p := ⟨me, 0, BA nodes, [], List.replicate 3 [], false⟩) (S2 := fun _ => False) (o1.Aj (fun b hS hb => Ac (by simp only [In] at hS; omega))) O.nil (o2.Aj (fun b hS hb => (Ac (by rw [Ad] at hS; omega)).trans (E1.Ai hb))) (fun _ _ _ h => h) (fun b _ h h' => by rw [Ad] at h'; simp only [In] at h; omega) (fun _ _ h => h.elim))).wide ?_, (Mod.of (show Ext w w1 from (BJ w).tr (E2.tr E1)) (fun b => b = g)).AL (.inr rfl) _⟩
  rintro b (h | h | h) hb
  ·simp only [In, size_setRow, Ad] at *
   omega
  ·exact h.elim
  ·simp only [In, size_setRow, Ad] at *
   omega
theorem TA (me nodes : Int) {w : World} : Ae (EV P 113 #[i64 me, i64 nodes] w) fun r => ∃ ds, r.1 = .agg ds.toArray ∧ O Jf (In w.heap.size r.2.heap.size) r.2 ds (NI me nodes) ∧ Ext w r.2 := by
 refine Ae.post fun Q hQ => ?_
 refine Ae.enter plain mixed (Mq _ _ _) (by kernel_rfl) (n := 2) (by kernel_rfl) rfl ?_
 simp (disch := first | exact xD | fail) [-Option.bind_some, -Aa, -Ab]
 refine Ae.mono (Tz (g := w.heap.size) rfl rfl rfl (by first | assumption | rfl | (simp (disch := first | exact xD | fail) [-Option.bind_some, qs, -Aa, -Ab]; done))) ?_
 rintro r ⟨ds, h1, h2, h3⟩
 exact hQ _ ⟨ds, h1, h2.wide (fun b h _ => by simp only [In, World.size_alloc] at h; simp only [In]; omega), Mod.after xE h3 (fun b h1 h2 => by have h2 : b = w.heap.size := h2; omega)⟩
attribute [local irreducible] World.alloc World.setRow Go.Ev.dw
theorem TB {g4 g5 sN c pn : Nat} {a : Option Addr} {T1 : Nat → Prop} {ps : List PlaceD} {w0 w1 : World} (hg4 : w0.heap.size ≤ g4) (hg5 : w0.heap.size ≤ g5) (h45 : g4 ≠ g5) (hg4' : g4 < w1.heap.size) (hg5' : g5 < w1.heap.size) (hps : ps.length = 3) (hpf : ∀ p ∈ ps, CK 0 p) (hsN : sN ≤ 4) (E01 : Ext w0 w1)
  (op : O (Fj 36 49 86 42 84) T1 w1 [.slice a 3 c] ps) (hT1 : ∀ b, T1 b → w0.heap.size ≤ b ∧ b < w1.heap.size ∧ b ≠ g4 ∧ b ≠ g5) :
  ∀ (d k : Nat) (e : Env) (W : World) (a1 : Option Addr) (c1 : Nat) (ss : List SessD), k + d = sN → e 1 = i64 sN → e 4 = pt g4 0 → e 5 = pt g5 0 → e 7 = i64 k → hp W g5 = some (.cells #[.slice a 3 c, .slice a1 k c1, .slice none 0 0, .slice none 0 0] 77 (0, 0)) → hp W g4 = some (.cells #[.slice none 0 0, .slice none 0 0, .slice none 0 0, .slice none 0 0] 77 (0, 0)) →
   ss.length = k → (∀ s ∈ ss, UF s) → O (HU 36 129) (In w1.heap.size W.heap.size) W [.slice a1 k c1] ss → (∀ b, T1 b → hp W b = hp w1 b) → Ext w0 W → w1.heap.size ≤ W.heap.size →
   Ae (DS e W) fun r => ∃ (cs : List Value) (st : WorldD), r.1 = .agg cs.toArray ∧ BF 0 st ∧ O tW (In w0.heap.size r.2.heap.size) r.2 cs st ∧ Ext w0 r.2 := by
 intro d
 induction d with
 | zero =>
  intro k e W a1 c1 ss hd e1 e4 e5 e7 X5 X4 hss hsf os hk E0 hz
  have zE0 := E0.size
  try simp only [qz] at zE0
  rw [FY]
  obtain rfl : k = sN := by omega
  refine Ae.post fun Q hQ => ?_
  simp (disch := first | exact xD | fail) [-Option.bind_some, -Aa, -Ab, qm, e1, e4, e5, e7, X4, X5]
  have Pt : Tt W ⟨ps, ss, [], []⟩ (.slice a 3 c) (.slice a1 k c1) (.slice none 0 0) (.slice none 0 0) T1 (In w1.heap.size W.heap.size) (fun _ => False) (fun _ => False) :=
   ⟨op.Aj fun b hb _ => hk b hb, os, O.nil, O.nil, fun b _ h h' => by have := hT1 b h; simp only [In] at h'; omega, fun _ _ _ h => h, fun _ _ _ h => h, fun _ _ _ h => h, fun _ _ _ h => h, fun _ _ _ h => h⟩
  refine hQ _ ⟨_, _, rfl, ⟨hps, hpf, by show ss.length ≤ 4; omega, hsf, by show ([] : List FrameD).length ≤ 12; simp, fun f h => by simp at h, by show ([] : List Done).length ≤ 80; simp⟩, (Pt.mk'.Aj fun b hb hbl => Ac ?_).wide ?_, E0.set hg4 _⟩
  ·rcases hb with h | h | h | h
   ·exact (hT1 b h).2.2.1
   ·simp only [In] at h; omega
   ·exact h.elim
   ·exact h.elim
  ·intro b hb hbl
   simp only [In, size_setRow] at hb hbl ⊢
   rcases hb with h | h | h | h
   ·have := hT1 b h; omega
   ·omega
   ·exact h.elim
   ·exact h.elim
 | succ d ih =>
  intro k e W a1 c1 ss hd e1 e4 e5 e7 X5 X4 hss hsf os hk E0 hz
  have zE0 := E0.size
  try simp only [qz] at zE0
  rw [FY]
  have hk4 : k < 4 := by omega
  have hkN : k < sN := by omega
  have hr : ((k : Int) % 3) = ((k % 3 : Nat) : Int) := by omega
  have hrt : (k : Int).tmod 3 = ((k % 3 : Nat) : Int) := by rw [Int.tmod_eq_emod_of_nonneg (by omega)]; omega
  have y5 := Aq X5
  have y4 := Aq X4
  refine Ae.post fun Q hQ => ?_
  simp (disch := first | exact xD | fail) [-Option.bind_some, qs, -Aa, -Ab, e1, e5, e7, X5, show (k : Int) < sN by omega, Ov, hrt]
  refine Ae.bind (FO) ?_
  rintro ⟨_, w2⟩ ⟨a7, c7, rfl, o7, E1⟩
  try dsimp only at a7 c7 o7 E1
  have zE1 := E1.size
  try simp only [qz] at zE1
  simp only [Ad] at zE1 o7
  have F1 : Ext W w2 := xE
  have N5 := (F1.Ai y5).trans X5
  have N4 := (F1.Ai y4).trans X4
  simp (disch := first | exact xD | fail) [-Option.bind_some, qs, -Aa, -Ab, N5]
  refine Ae.bind (O.app (L := VI) (mx := 2513169434916) (S1 := In W.heap.size w2.heap.size) (x := ⟨(k : Int) % 3, List.replicate 4 ⟨0, 0⟩, ⟨0, 0⟩, 0⟩) (cs := [i64 ((k : Int) % 3), .slice a7 4 c7, i64 0, i64 0, i64 0]) RN RQ rfl (by decide) (os.ext (F1.al _)) (O.Ar.2 ⟨a7, c7, rfl, o7.Aj fun b hb hbl => Ag hbl⟩) (fun b hb h1 h2 => by simp only [In] at h1 h2; omega) (At.nw rfl) (by omega) (by decide) (by decide)) ?_
  rintro ⟨_, w3⟩ ⟨a8, c8, rfl, o8, M8⟩
  have zM8 := M8.size
  try simp only [qz] at zM8
  try dsimp only at o8 M8
  have zM8 := M8.size
  simp only [World.size_alloc] at zM8 o8
  have nI : ∀ b, b < w1.heap.size → ¬ In w1.heap.size W.heap.size b := fun b h h' => by simp only [In] at h'; omega
  have L5 := (M8.Ai g5 xB (nI _ hg5')).trans ((Ag (by omega)).trans N5)
  have L4 := (M8.Ai g4 xB (nI _ hg4')).trans ((Ag (by omega)).trans N4)
  have F3 : Ext w0 w3 := Mod.after (E0.tr (F1.al _)) M8 (fun b h1 h2 => by have := E01.size; simp only [In] at h2; omega)
  rw [hss] at o8
  rw [hss]
  simp (disch := first | exact xD | fail) [-Option.bind_some, -Aa, -Ab, qm, L5]
  refine Ae.mono (ih (k + 1) _ _ a8 c8 (ss ++ [⟨(k : Int) % 3, List.replicate 4 ⟨0, 0⟩, ⟨0, 0⟩, 0⟩]) (by omega) xA xA xA xA (by first | assumption | rfl | (simp (disch := first | exact xD | fail) [-Option.bind_some, -Aa, -Ab, L5]; done)) ((Ac h45).trans L4) (by simp; omega) ?_ ((o8.Aj fun b hb hbl => Ac ?_).wide ?_) (fun b hb => (Ac (hT1 b hb).2.2.2).trans ((M8.Ai b (by have := (hT1 b hb).2.1; simp only [World.size_alloc]; omega) (nI _ (hT1 b hb).2.1)).trans ((Ag (by have := (hT1 b hb).2.1; omega)).trans ((F1.Ai (by have := (hT1 b hb).2.1; omega)).trans (hk b hb))))) (F3.set hg5 _) (by simp only [size_setRow]; omega)) hQ
  ·intro s hs
   rcases List.mem_append.1 hs with h | h
   ·exact hsf s h
   ·rw [List.mem_singleton.1 h]
    exact ⟨by show (0 : Int) ≤ (k : Int) % 3; omega, by show (k : Int) % 3 ≤ 2; omega, by simp, Int.le_refl 0, by show (0 : Int) ≤ 3; decide⟩
  ·rcases hb with h | h | h
   ·simp only [In] at h; omega
   ·simp only [In] at h; omega
   ·omega
  ·intro b hb hbl
   simp only [In, size_setRow] at hb hbl ⊢
   omega
theorem TC {g4 g5 sN m : Nat} {w0 : World} (hg4 : w0.heap.size ≤ g4) (hg5 : w0.heap.size ≤ g5) (h45 : g4 < g5) (hm : m < 4) (hsN : sN ≤ 4) :
  ∀ (d k : Nat) (e : Env) (W : World) (a : Option Addr) (c : Nat) (ps : List PlaceD), k + d = 3 → e 0 = i64 (1 + (m : Int)) → e 1 = i64 sN → e 4 = pt g4 0 → e 5 = pt g5 0 → e 6 = i64 k → hp W g5 = some (.cells #[.slice a k c, .slice none 0 0, .slice none 0 0, .slice none 0 0] 77 (0, 0)) → hp W g4 = some (.cells #[.slice none 0 0, .slice none 0 0, .slice none 0 0, .slice none 0 0] 77 (0, 0)) →
   ps.length = k → (∀ p ∈ ps, CK 0 p) → O (Fj 36 49 86 42 84) (In (g5 + 1) W.heap.size) W [.slice a k c] ps → Ext w0 W →
   Ae (DR e W) fun r => ∃ (cs : List Value) (st : WorldD), r.1 = .agg cs.toArray ∧ BF 0 st ∧ O tW (In w0.heap.size r.2.heap.size) r.2 cs st ∧ Ext w0 r.2 := by
 intro d
 induction d with
 | zero =>
  intro k e W a c ps hd e0 e1 e4 e5 e6 X5 X4 hps hpf op E0
  have zE0 := E0.size
  try simp only [qz] at zE0
  rw [FX]
  obtain rfl : k = 3 := by omega
  have y5 := Aq X5
  have y4 := Aq X4
  refine Ae.post fun Q hQ => ?_
  simp (disch := first | exact xD | fail) [-Option.bind_some, -Aa, -Ab, e6]
  exact Ae.mono (TB (g4 := g4) (g5 := g5) (pn := 0) (T1 := In (g5 + 1) W.heap.size) hg4 hg5 (by omega) y4 y5 hps hpf hsN E0 op (fun b h => by simp only [In] at h; omega) sN 0 _ W none 0 [] (by omega) xA xA xA rfl X5 X4 rfl (fun s h => by simp at h) O.nil (fun b _ => rfl) E0 (Nat.le_refl _)) hQ
 | succ d ih =>
  intro k e W a c ps hd e0 e1 e4 e5 e6 X5 X4 hps hpf op E0
  have zE0 := E0.size
  try simp only [qz] at zE0
  rw [FX]
  have hk3 : k < 3 := by omega
  have y5 := Aq X5
  have y4 := Aq X4
  refine Ae.post fun Q hQ => ?_
  simp (disch := first | exact xD | fail) [-Option.bind_some, qs, -Aa, -Ab, e0, e5, e6, X5, show (k : Int) < 3 by omega]
  refine Ae.bind (TA (k : Int) (1 + (m : Int))) ?_
  rintro ⟨_, w2⟩ ⟨ds, rfl, o7, E1⟩
  try dsimp only at ds o7 E1
  have zE1 := E1.size
  try simp only [qz] at zE1
  simp only [Ad] at zE1 o7
  have o7' := o7.d
  obtain ⟨ad, cd, ae, ce, af, cf, rfl, _, _, _⟩ := D.place.1 o7'
  have F1 : Ext W w2 := xE
  have N5 := (F1.Ai y5).trans X5
  have N4 := (F1.Ai y4).trans X4
  generalize hnp : NI (k : Int) (1 + (m : Int)) = np at *
  simp (disch := first | exact xD | fail) [-Option.bind_some, qs, -Aa, -Ab, N5]
  refine Ae.bind (O.app (L := Jf) (mx := 1466015503701) (S1 := In W.heap.size w2.heap.size) (x := np) (cs := [i64 np.me, i64 np.clock, .slice ad np.chain.length cd, .slice ae np.log.length ce, .slice af np.Bu.length cf, .bool np.fell]) RM TI rfl (by decide) (op.ext (F1.al _)) (o7.Aj fun b hb hbl => Ag hbl) (fun b hb h1 h2 => by simp only [In] at h1 h2; omega) (At.nw rfl) (by omega) (by decide) (by decide)) ?_
  rintro ⟨_, w3⟩ ⟨a8, c8, rfl, o8, M8⟩
  have zM8 := M8.size
  try simp only [qz] at zM8
  try dsimp only at o8 M8
  have zM8 := M8.size
  simp only [World.size_alloc] at zM8 o8
  have nI : ∀ b, b < g5 + 1 → ¬ In (g5 + 1) W.heap.size b := fun b h h' => by simp only [In] at h'; omega
  have L5 := (M8.Ai g5 xB (nI _ (by omega))).trans ((Ag (by omega)).trans N5)
  have L4 := (M8.Ai g4 xB (nI _ (by omega))).trans ((Ag (by omega)).trans N4)
  have F3 : Ext w0 w3 := Mod.after (E0.tr (F1.al _)) M8 (fun b h1 h2 => by simp only [In] at h2; omega)
  rw [hps] at o8
  rw [hps]
  simp (disch := first | exact xD | fail) [-Option.bind_some, -Aa, -Ab, qm, L5]
  refine Ae.mono (ih (k + 1) _ _ a8 c8 (ps ++ [np]) (by omega) xA xA xA xA xA (by first | assumption | rfl | (simp (disch := first | exact xD | fail) [-Option.bind_some, -Aa, -Ab, L5]; done)) ((Ac (by omega)).trans L4) (by simp; omega) ?_ ((o8.Aj fun b hb hbl => Ac ?_).wide ?_) (F3.set hg5 _)) hQ
  ·intro s hs
   rcases List.mem_append.1 hs with h | h
   ·exact hpf s h
   ·rw [List.mem_singleton.1 h, ← hnp]
    exact SH hm
  ·rcases hb with h | h | h
   ·simp only [In] at h; omega
   ·simp only [In] at h; omega
   ·omega
  ·intro b hb hbl
   simp only [In, size_setRow] at hb hbl ⊢
   omega
theorem Qu {m sN : Nat} (hm : m < 4) (hsN : sN ≤ 4) {w : World} :
  Ae (EV P 99 #[i64 (1 + (m : Int)), i64 sN] w) fun r => ∃ (cs : List Value) (st : WorldD), r.1 = .agg cs.toArray ∧ BF 0 st ∧ O tW (In w.heap.size r.2.heap.size) r.2 cs st ∧ Ext w r.2 := by
 refine Ae.post fun Q hQ => ?_
 refine Ae.enter plain mixed (MN _ _ _) (by kernel_rfl) (n := 2) (by kernel_rfl) rfl ?_
 simp (disch := first | exact xD | fail) [-Option.bind_some, qs, -Aa, -Ab, qm]
 exact Ae.mono (TC (g4 := w.heap.size) (g5 := w.heap.size + 1) (w0 := w) (Nat.le_refl _) (by omega) (by omega) hm hsN 3 0 _ _ none 0 [] (by omega) xA xA xA xA xA (by first | assumption | rfl | (simp (disch := first | exact xD | fail) [-Option.bind_some, qs, -Aa, -Ab]; done)) (by first | assumption | rfl | (simp (disch := first | exact xD | fail) [-Option.bind_some, qs, -Aa, -Ab]; done)) rfl (fun p h => by simp at h) O.nil xE) hQ
end Go.Proofs.YtjhhommnkaemlaaGreat.X
