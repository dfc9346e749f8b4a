/- A part of the proof, without conditions. -/
import Derived.Test.YtkhbpmhagpljiaaGreatDoorD13
import Derived.Test.YtkhbpmhagpljiaaGreatDoorEvWq
import Derived.Test.YtkhbpmhagpljiaaGreatDoorU17
set_option linter.unusedVariables false
set_option linter.unusedSimpArgs false
set_option linter.deprecated false
set_option maxRecDepth 100000
set_option maxHeartbeats 1000000
namespace Go.Proofs.YtkhbpmhagpljiaaGreatDoor.X
open Go Go.Ev Go.RowKit
open Option (bind_some)
attribute [local irreducible] World.alloc World.setRow Go.Ev.dw
theorem RZ {p : PlaceD} {ns' : List CNode} {a' a1 a2 : Option Addr} {c' c1 c2 : Nat} {S1 S2 S3 : Nat → Prop} {w w2 w3 : World} {clk : Int} {fell : Bool} (q2 : O AW S2 w [.slice a1 p.log.length c1] p.log) (q3 : O QV S3 w [.slice a2 p.BQ.length c2] p.BQ)
  (k1 : ∀ b, S1 b → ¬ S2 b ∧ ¬ S3 b ∧ b < w.heap.size) (k2 : ∀ b, S2 b → ¬ S1 b ∧ ¬ S3 b ∧ b < w.heap.size) (k3 : ∀ b, S3 b → ¬ S1 b ∧ ¬ S2 b ∧ b < w.heap.size) (o1 : O Bb (fun b => S1 b ∨ In w.heap.size w2.heap.size b) w2 [.slice a' ns'.length c'] ns') (M1 : Mod S1 w w2)
  (hk : ∀ b, (S1 b ∨ S2 b ∨ S3 b ∨ In w.heap.size w2.heap.size b) → b < w2.heap.size → hp w3 b = hp w2 b) :
  O Kp (fun b => S1 b ∨ S2 b ∨ S3 b ∨ In w.heap.size w2.heap.size b) w3 [i64 p.me, i64 clk, .slice a' ns'.length c', .slice a1 p.log.length c1, .slice a2 p.BQ.length c2, .bool fell] { p with clock := clk, chain := ns', fell := fell } := by
 have zM1 := M1.size
 have ho := O.Fi (p := { p with clock := clk, chain := ns', fell := fell }) (w := w3) (S1 := fun b => S1 b ∨ In w.heap.size w2.heap.size b) (S2 := S2) (S3 := S3) (s := .slice a' ns'.length c') (t := .slice a1 p.log.length c1) (u := .slice a2 p.BQ.length c2)
  (o1.Aj fun b hb hbl => hk b (by rcases hb with h | h; exact .inl h; exact .inr (.inr (.inr h))) hbl)
  (q2.Aj fun b hb hbl => (hk b (.inr (.inl hb)) Ad).trans (M1.Ai b hbl (k2 b hb).1))
  (q3.Aj fun b hb hbl => (hk b (.inr (.inr (.inl hb))) Ad).trans (M1.Ai b hbl (k3 b hb).1))
  (fun b _ h h' => by rcases h with h | h; exact (k1 b h).1 h'; have := (k2 b h').2.2; simp only [In] at h; omega)
  (fun b _ h h' => by rcases h with h | h; exact (k1 b h).2.1 h'; have := (k3 b h').2.2; simp only [In] at h; omega)
  (fun b _ h h' => (k2 b h).2.1 h')
 refine ho.wide fun b hb _ => ?_
 rcases hb with (h | h) | h | h
 ·exact .inl h
 ·exact .inr (.inr (.inr h))
 ·exact .inr (.inl h)
 ·exact .inr (.inr (.inl h))
set_option maxHeartbeats 4000000 in
theorem S6 {M : Nat} {kind at' num key : Int} {text : ByteArray} {gone : Bool} {S : Nat → Prop} {cs : List Value} {st : WorldD} {w : World} (hf : B6 M st) (hM : M ≤ 900000) (ho : O tW S w cs st) :
  Af (EV P 91 #[.agg cs.toArray, .agg #[i64 kind, i64 at', i64 num, i64 key, .string text, .bool gone]] w) (Step M S w cs) := by
 have ho0 := ho
 have ho := ho.lt
 obtain ⟨pa, pn, pc, sa, sn, sc, na, nn, nc, ha, hn, hc, rfl⟩ := ho.Cv
 have ok : ∀ (w' : World), Ext w w' → Step M S w [.slice pa pn pc, .slice sa sn sc, .slice na nn nc, .slice ha hn hc] (.tuple #[.agg #[.slice pa pn pc, .slice sa sn sc, .slice na nn nc, .slice ha hn hc], .bool false], w') :=
  fun w' hE => Step.fail hf ho0 hE
 refine Af.post fun Q hQ => ?_
 refine Bw (Lx _ _ _) ?_
 simp (disch := first | exact xD | fail) [-bind_some, qs, -Aa, -Ab]
 refine Af.bind (AN _ _ _ _) ?_
 rintro _ rfl
 cases hat : (decide (0 ≤ at') && decide (at' ≤ 2))
 ·simp (disch := first | exact xD | fail) [-bind_some, qs, -Aa, -Ab, qm]
  exact hQ _ (ok _ xE)
 have hat' := hat
 simp only [Bool.and_eq_true, decide_eq_true_eq] at hat'
 obtain ⟨k, rfl⟩ := Int.eq_ofNat_of_zero_le hat'.1
 have hk3 : k < st.places.length := by rw [hf.1]; omega
 obtain ⟨p, hp', _⟩ := An hk3
 have hpf := hf.2.1 p (List.mem_of_getElem? hp')
 obtain ⟨x, hx, _⟩ := An (l := p.chain) (k := 0) (by have := hpf.1.1; omega)
 obtain ⟨c', a1', c1', a2', c2', a3', c3', gp, curp, dp, Sp, hcs, hSgp, hgpl, hgp, hlep, op, hSp, putp⟩ := O.Ho ho hp'
 simp only [List.cons.injEq, Value.slice.injEq, and_true] at hcs
 obtain ⟨⟨rfl, rfl, rfl⟩, ⟨rfl, rfl, rfl⟩, ⟨rfl, rfl, rfl⟩, rfl, rfl, rfl⟩ := hcs
 obtain ⟨ac, cc, al, cl, ag, cg, S1, S2, S3, rfl, q1, q2, q3, k1, k2, k3⟩ := O.ID op
 have x0 := hpf.1.1
 have x4 := hpf.1.2.1
 have Ap := Ew hgp (by simpa using hlep)
 have m0 := Ap 0 _ rfl
 have m1 := Ap 1 _ rfl
 have m2 := Ap 2 _ rfl
 have m3 := Ap 3 _ rfl
 have m4 := Ap 4 _ rfl
 have m5 := Ap 5 _ rfl
 simp only [Nat.add_zero] at m0 m1 m2 m3 m4 m5
 have nSp : ∀ b, w.heap.size ≤ b → ¬ Sp b := fun b h h' => by have := (hSp b h').2.2; omega
 have fin : ∀ (e' : Env) (W : World) (ds' : List Value) (p' : PlaceD) (S' : Nat → Prop) (q : Bool), e' 2 = pt w.heap.size 0 → e' 3 = pt (w.heap.size + 1) 0 → e' 4 = pt (w.heap.size + 1 + 1) 0 → e' 6 = pt (w.heap.size + 1 + 1 + 1) 0 → e' 7 = .bool q →
   hp W w.heap.size = some (.cells #[.slice (some ⟨gp, 0, none⟩) st.places.length pc, .slice sa st.Ay.length sc, .slice na st.net.length nc, .slice ha st.AM.length hc] 67 (0, 0)) → hp W (w.heap.size + 1) = some (.cells #[i64 kind, i64 k, i64 num, i64 key, .string text, .bool gone] 118 (0, 0)) →
   hp W (w.heap.size + 1 + 1) = some (.cells #[.slice none 0 0, .slice none 0 0, .slice none 0 0, .slice none 0 0] 67 (0, 0)) → hp W (w.heap.size + 1 + 1 + 1) = some (.cells ds'.toArray 102 (0, 0)) →
   DA (M + 4) p' → O Kp S' W ds' p' → (∀ b, S' b → Sp b ∨ w.heap.size + 4 ≤ b) → (∀ b, b < w.heap.size → ¬ Sp b → hp W b = hp w b) → Mod S w W → Af (A8 e' W) Q := by
  intro e' W ds' p' S' q e2 e3 e4 e6 e7 X2 X3 X4 X6 fp op' hS' hk MW
  have y6 := Aq X6
  have op'' := op'.d
  obtain ⟨ad, cd, ae, ce, af, cf, rfl, _, _, _⟩ := D.place.1 op''
  have G0 := (hk gp hgpl (fun h => (hSp gp h).2.1 rfl)).trans hgp
  rw [Ju]
  simp (disch := first | exact xD | fail) [-bind_some, qs, -Aa, -Ab, qm, e2, e3, e4, e6, e7, X2, X3, X4, X6, G0, DJ]
  generalize hW1 : World.setRow _ gp _ = W1
  have sW1 : W1.heap.size = W.heap.size := by rw [← hW1]; simp
  have kW1 : ∀ b, b ≠ gp → hp W1 b = hp W b := fun b h1 => by
   rw [← hW1]
   simp (disch := omega) only [Ac]
  have G1 : hp W1 gp = some (.cells (Bu curp (k * 6) [i64 p'.me, i64 p'.clock, .slice ad p'.chain.length cd, .slice ae p'.log.length ce, .slice af p'.BQ.length cf, .bool p'.fell]).toArray 102 (0, 0)) := by
   rw [← hW1]
   exact (by first | assumption | rfl | (simp (disch := first | exact xD | fail) [-bind_some, -Aa, -Ab, G0]; done))
  have MW1 : Mod S w W1 := by
   rw [← hW1]
   exact MW.AQ (.inr hSgp.1) _
  have oW1 := (putp W1 _ p' S' (op'.Aj fun b hb hbl => kW1 b (by rcases hS' b hb with h | h; exact (hSp b h).2.1; omega)) G1 (fun b hb _ hne hn => (kW1 b hne).trans (hk b hb hn)) (fun b _ h => by rcases hS' b h with h | h; exact .inl h; exact .inr (fun hh => by omega))).wide (S' := fun b => (S b ∧ b < w.heap.size) ∨ w.heap.size + 4 ≤ b) (fun b h _ => by rcases h with h | h; exact .inl h; rcases hS' b h with h | h; exact .inl (hSp b h).1; exact .inr h)
  refine hQ _ ⟨_, _, q, rfl, fun _ => rfl, (hf.place (i := k) (M' := M + 4) Ad fp).up Ad, (oW1.Aj fun b hb hbl => Ac (by rcases hb with h | h <;> omega)).wide ?_, MW1.AQ (.inl Ad) _⟩
  intro b hb hbl
  simp only [In, size_setRow] at hbl ⊢
  rcases hb with h | h
  ·exact .inl h.1
  ·exact .inr Ad
 have same : ∀ (e' : Env) (W : World) (q : Bool), e' 2 = pt w.heap.size 0 → e' 3 = pt (w.heap.size + 1) 0 → e' 4 = pt (w.heap.size + 1 + 1) 0 → e' 6 = pt (w.heap.size + 1 + 1 + 1) 0 → e' 7 = .bool q →
   hp W w.heap.size = some (.cells #[.slice (some ⟨gp, 0, none⟩) st.places.length pc, .slice sa st.Ay.length sc, .slice na st.net.length nc, .slice ha st.AM.length hc] 67 (0, 0)) → hp W (w.heap.size + 1) = some (.cells #[i64 kind, i64 k, i64 num, i64 key, .string text, .bool gone] 118 (0, 0)) →
   hp W (w.heap.size + 1 + 1) = some (.cells #[.slice none 0 0, .slice none 0 0, .slice none 0 0, .slice none 0 0] 67 (0, 0)) → hp W (w.heap.size + 1 + 1 + 1) = some (.cells #[i64 p.me, i64 p.clock, .slice ac p.chain.length cc, .slice al p.log.length cl, .slice ag p.BQ.length cg, .bool p.fell] 102 (0, 0)) →
   Ext w W → Af (A8 e' W) Q := by
  intro e' W q e2 e3 e4 e6 e7 X2 X3 X4 X6 hE
  exact fin e' W _ p Sp q e2 e3 e4 e6 e7 X2 X3 X4 X6 (hpf.up Ad) (op.ext hE) (fun b h => .inl h) (fun b hb _ => hE.Ai hb) (Mod.of hE S)
 cases hk6 : (kind == 6)
 case true =>
  simp (disch := first | exact xD | fail) [-bind_some, qs, -Aa, -Ab, qm, hk6, DJ, m0, m1, m2, m3, m4, m5]
  refine Af.bind (PC (i := num) Ad (q1.d.ext xE)) ?_
  rintro ⟨_, w1⟩ ⟨rfl, E1⟩
  try dsimp only at E1
  have zE1 := E1.size
  try simp only [qz] at zE1
  have B0 : hp w1 w.heap.size = some (.cells #[.slice (some ⟨gp, 0, none⟩) st.places.length pc, .slice sa st.Ay.length sc, .slice na st.net.length nc, .slice ha st.AM.length hc] 67 (0, 0)) := (E1.Ai xB).trans (by first | assumption | rfl | (simp (disch := first | exact xD | fail) [-bind_some, qs, -Aa, -Ab]; done))
  have B1 : hp w1 (w.heap.size + 1) = some (.cells #[i64 kind, i64 k, i64 num, i64 key, .string text, .bool gone] 118 (0, 0)) := (E1.Ai xB).trans (by first | assumption | rfl | (simp (disch := first | exact xD | fail) [-bind_some, qs, -Aa, -Ab]; done))
  have B2 : hp w1 (w.heap.size + 1 + 1) = some (.cells #[.slice none 0 0, .slice none 0 0, .slice none 0 0, .slice none 0 0] 67 (0, 0)) := (E1.Ai xB).trans (by first | assumption | rfl | (simp (disch := first | exact xD | fail) [-bind_some, qs, -Aa, -Ab]; done))
  have B3 : hp w1 (w.heap.size + 1 + 1 + 1) = some (.cells #[i64 p.me, i64 p.clock, .slice ac p.chain.length cc, .slice al p.log.length cl, .slice ag p.BQ.length cg, .bool p.fell] 102 (0, 0)) := (E1.Ai xB).trans (by first | assumption | rfl | (simp (disch := first | exact xD | fail) [-bind_some, qs, -Aa, -Ab]; done))
  have F1 : Ext w w1 := xE
  have zF1 := F1.size
  have kk1 : ∀ b, S1 b → ¬ S2 b ∧ ¬ S3 b ∧ b < w1.heap.size := fun b h => ⟨(k1 b h).2.1, (k1 b h).2.2.1, by have := (k1 b h).2.2.2; omega⟩
  have kk2 : ∀ b, S2 b → ¬ S1 b ∧ ¬ S3 b ∧ b < w1.heap.size := fun b h => ⟨(k2 b h).2.1, (k2 b h).2.2.1, by have := (k2 b h).2.2.2; omega⟩
  have kk3 : ∀ b, S3 b → ¬ S1 b ∧ ¬ S2 b ∧ b < w1.heap.size := fun b h => ⟨(k3 b h).2.1, (k3 b h).2.2.1, by have := (k3 b h).2.2.2; omega⟩
  have toSp : ∀ b, S1 b ∨ S2 b ∨ S3 b → Sp b := by
   rintro b (h | h | h)
   ·exact (k1 b h).1
   ·exact (k2 b h).1
   ·exact (k3 b h).1
  cases hcp : Gy p.chain num
  ·simp (disch := first | exact xD | fail) [-bind_some, -Aa, -Ab]
   exact same _ _ false xA xA xA xA xA (by first | assumption | rfl | (simp (disch := first | exact xD | fail) [-bind_some, qs, -Aa, -Ab, qm, B0, m0, m1, m2, m3, m4, m5, E1.Ai]; done)) (by first | assumption | rfl | (simp (disch := first | exact xD | fail) [-bind_some, qs, -Aa, -Ab, qm, B1, m0, m1, m2, m3, m4, m5, E1.Ai]; done)) (by first | assumption | rfl | (simp (disch := first | exact xD | fail) [-bind_some, qs, -Aa, -Ab, qm, B2, m0, m1, m2, m3, m4, m5, E1.Ai]; done)) (by first | assumption | rfl | (simp (disch := first | exact xD | fail) [-bind_some, qs, -Aa, -Ab, qm, B3, m0, m1, m2, m3, m4, m5, E1.Ai]; done)) F1
  obtain ⟨kn, nx, ny, v, lv, rfl, hkn, hxn, hyn, hnw, hy6⟩ := Oy hcp
  have fx := hpf.1.2.2 nx (List.mem_of_getElem? hxn)
  have fy := hpf.1.2.2 ny (List.mem_of_getElem? hyn)
  have hvK : OD v := fx.2.2.2 v (by rw [hnw]; exact List.mem_cons_self)
  have hI' := SK hpf.1 hxn hyn hnw hy6
  have hal : (HB p.chain kn).length = p.chain.length := by rw [KW hxn hnw, Ka, List.length_set]
  simp (disch := first | exact xD | fail) [-bind_some, -Aa, -Ab, B1, B3]
  refine Af.bind (Oz Ad ⟨hvK.1, hvK.2.1⟩ fy.1 hxn hyn hnw hy6 (q1.ext F1)) ?_
  rintro ⟨_, w2⟩ ⟨rfl, o2, M2⟩
  try dsimp only at o2 M2
  have zM2 := M2.size
  try simp only [qz] at zM2
  have o2 : O Bb (fun b => S1 b ∨ In w1.heap.size w2.heap.size b) w2 [.slice ac (HB p.chain kn).length cc] (HB p.chain kn) := by rw [hal]; exact o2
  have K2 : ∀ b, b < w1.heap.size → ¬ Sp b → hp w2 b = hp w1 b := fun b hb h => M2.Ai b hb (fun h' => h (k1 b h').1)
  have C0 := (K2 w.heap.size Ad (nSp _ Ad)).trans B0
  have C1 := (K2 (w.heap.size + 1) Ad (nSp _ Ad)).trans B1
  have C2 := (K2 (w.heap.size + 1 + 1) Ad (nSp _ Ad)).trans B2
  have C3 := (K2 (w.heap.size + 1 + 1 + 1) Ad (nSp _ Ad)).trans B3
  have bx2 : ∀ b, (S1 b ∨ S2 b ∨ S3 b ∨ In w1.heap.size w2.heap.size b) → Sp b ∨ w.heap.size + 4 ≤ b := by
   rintro b (h | h | h | h)
   ·exact .inl (k1 b h).1
   ·exact .inl (k2 b h).1
   ·exact .inl (k3 b h).1
   ·simp only [In] at h; exact .inr Ad
  have nbx : ∀ b, (Sp b ∨ w.heap.size + 4 ≤ b) → b ≠ w.heap.size + 1 + 1 + 1 := by
   rintro b (h | h)
   ·have := (hSp b h).2.2; omega
   ·omega
  have MW2 : Mod S w w2 := Mod.Bd (Mod.of F1 S) M2 (fun b hb h => (hSp b (k1 b h).1).1.1)
  rw [← hal]
  simp (disch := first | exact xD | fail) [-bind_some, -Aa, -Ab, qm, C3]
  generalize hW2 : World.setRow _ (w.heap.size + 1 + 1 + 1) _ = W2
  have sW2 : W2.heap.size = w2.heap.size := by rw [← hW2]; simp
  have kW2 : ∀ b, b ≠ w.heap.size + 1 + 1 + 1 → hp W2 b = hp w2 b := fun b h1 => by
   rw [← hW2]
   simp (disch := omega) only [Ac]
  have MWb : Mod S w W2 := by
   rw [← hW2]
   first | exact MW2.AQ (.inl Ad) _ | exact (MW2.AQ (.inl Ad) _).AQ (.inl Ad) _
  have D3 : hp W2 (w.heap.size + 1 + 1 + 1) = some (.cells #[i64 p.me, i64 p.clock, .slice ac (HB p.chain kn).length cc, .slice al p.log.length cl, .slice ag p.BQ.length cg, .bool p.fell] 102 (0, 0)) := by
   rw [← hW2]
   exact (by first | assumption | rfl | (simp (disch := first | exact xD | fail) [-bind_some, -Aa, -Ab, C3]; done))
  have oP := RZ (p := p) (clk := p.clock) (fell := p.fell) (w3 := W2) (q2.ext F1) (q3.ext F1) kk1 kk2 kk3 o2 M2 (fun b hb hbl => kW2 b (nbx b (bx2 b hb)))
  refine Af.bind (L6 (M := M) (p := { p with clock := p.clock, chain := (HB p.chain kn), fell := p.fell }) ⟨hI', hpf.2⟩ Ad oP) ?_
  rintro ⟨_, w3⟩ ⟨ds3, p3, rfl, f3, o3, M3⟩
  have zM3 := M3.size
  try simp only [] at zM3
  try dsimp only at o3 M3
  have zM3 := M3.size
  have L0 := (M3.Ai w.heap.size Ad (fun h => by rcases bx2 _ h with h | h; exact nSp _ (Nat.le_refl _) h; omega)).trans ((kW2 _ Ad).trans C0)
  have L1 := (M3.Ai (w.heap.size + 1) Ad (fun h => by rcases bx2 _ h with h | h; exact nSp _ Ad h; omega)).trans ((kW2 _ Ad).trans C1)
  have L2 := (M3.Ai (w.heap.size + 1 + 1) Ad (fun h => by rcases bx2 _ h with h | h; exact nSp _ Ad h; omega)).trans ((kW2 _ Ad).trans C2)
  have L3 := (M3.Ai (w.heap.size + 1 + 1 + 1) Ad (fun h => by rcases bx2 _ h with h | h; exact nSp _ Ad h; omega)).trans D3
  have o3' := o3.d
  obtain ⟨ad, cd, ae, ce, af, cf, rfl, _, _, _⟩ := D.place.1 o3'
  simp (disch := first | exact xD | fail) [-bind_some, -Aa, -Ab, qm, L3]
  refine fin _ _ _ p3 _ true xA xA xA xA xA ((Ac Ad).trans L0) ((Ac Ad).trans L1) ((Ac Ad).trans L2) (by first | assumption | rfl | (simp (disch := first | exact xD | fail) [-bind_some, -Aa, -Ab, L3]; done)) f3 (o3.Aj fun b hb hbl => Ac ?_) ?_ ?_ ?_
  ·rcases hb with h | h
   ·exact nbx b (bx2 b h)
   ·simp only [In] at h; omega
  ·intro b hb
   rcases hb with h | h
   ·exact bx2 b h
   ·simp only [In] at h; exact .inr Ad
  ·intro b hb hn
   exact (Ac Ad).trans ((M3.Ai b Ad (fun h => by rcases bx2 b h with h | h; exact hn h; omega)).trans ((kW2 b Ad).trans ((K2 b Ad hn).trans (F1.Ai hb))))
  ·exact (Mod.Bd MWb M3 fun b hb h => by rcases bx2 b h with h | h; exact (hSp b h).1.1; omega).AQ (.inl Ad) _
 cases hk7 : (kind == 7)
 case true =>
  simp (disch := first | exact xD | fail) [-bind_some, qs, -Aa, -Ab, qm, hk6, hk7, DJ, m0, m1, m2, m3, m4, m5]
  refine Af.bind (PZ (n := num) hpf (op.d.ext xE)) ?_
  rintro ⟨_, w1⟩ ⟨q, rfl, hq, E1⟩
  try dsimp only at q hq E1
  have zE1 := E1.size
  try simp only [qz] at zE1
  have B0 : hp w1 w.heap.size = some (.cells #[.slice (some ⟨gp, 0, none⟩) st.places.length pc, .slice sa st.Ay.length sc, .slice na st.net.length nc, .slice ha st.AM.length hc] 67 (0, 0)) := (E1.Ai xB).trans (by first | assumption | rfl | (simp (disch := first | exact xD | fail) [-bind_some, qs, -Aa, -Ab]; done))
  have B1 : hp w1 (w.heap.size + 1) = some (.cells #[i64 kind, i64 k, i64 num, i64 key, .string text, .bool gone] 118 (0, 0)) := (E1.Ai xB).trans (by first | assumption | rfl | (simp (disch := first | exact xD | fail) [-bind_some, qs, -Aa, -Ab]; done))
  have B2 : hp w1 (w.heap.size + 1 + 1) = some (.cells #[.slice none 0 0, .slice none 0 0, .slice none 0 0, .slice none 0 0] 67 (0, 0)) := (E1.Ai xB).trans (by first | assumption | rfl | (simp (disch := first | exact xD | fail) [-bind_some, qs, -Aa, -Ab]; done))
  have B3 : hp w1 (w.heap.size + 1 + 1 + 1) = some (.cells #[i64 p.me, i64 p.clock, .slice ac p.chain.length cc, .slice al p.log.length cl, .slice ag p.BQ.length cg, .bool p.fell] 102 (0, 0)) := (E1.Ai xB).trans (by first | assumption | rfl | (simp (disch := first | exact xD | fail) [-bind_some, qs, -Aa, -Ab]; done))
  have F1 : Ext w w1 := xE
  have zF1 := F1.size
  have kk1 : ∀ b, S1 b → ¬ S2 b ∧ ¬ S3 b ∧ b < w1.heap.size := fun b h => ⟨(k1 b h).2.1, (k1 b h).2.2.1, by have := (k1 b h).2.2.2; omega⟩
  have kk2 : ∀ b, S2 b → ¬ S1 b ∧ ¬ S3 b ∧ b < w1.heap.size := fun b h => ⟨(k2 b h).2.1, (k2 b h).2.2.1, by have := (k2 b h).2.2.2; omega⟩
  have kk3 : ∀ b, S3 b → ¬ S1 b ∧ ¬ S2 b ∧ b < w1.heap.size := fun b h => ⟨(k3 b h).2.1, (k3 b h).2.2.1, by have := (k3 b h).2.2.2; omega⟩
  have toSp : ∀ b, S1 b ∨ S2 b ∨ S3 b → Sp b := by
   rintro b (h | h | h)
   ·exact (k1 b h).1
   ·exact (k2 b h).1
   ·exact (k3 b h).1
  cases q
  ·simp (disch := first | exact xD | fail) [-bind_some, -Aa, -Ab]
   exact same _ _ false xA xA xA xA xA (by first | assumption | rfl | (simp (disch := first | exact xD | fail) [-bind_some, qs, -Aa, -Ab, qm, B0, m0, m1, m2, m3, m4, m5, E1.Ai]; done)) (by first | assumption | rfl | (simp (disch := first | exact xD | fail) [-bind_some, qs, -Aa, -Ab, qm, B1, m0, m1, m2, m3, m4, m5, E1.Ai]; done)) (by first | assumption | rfl | (simp (disch := first | exact xD | fail) [-bind_some, qs, -Aa, -Ab, qm, B2, m0, m1, m2, m3, m4, m5, E1.Ai]; done)) (by first | assumption | rfl | (simp (disch := first | exact xD | fail) [-bind_some, qs, -Aa, -Ab, qm, B3, m0, m1, m2, m3, m4, m5, E1.Ai]; done)) F1
  obtain ⟨hc1, hn0, hnl⟩ := hq rfl
  obtain ⟨kn, rfl⟩ := Int.eq_ofNat_of_zero_le hn0
  simp (disch := first | exact xD | fail) [-bind_some, -Aa, -Ab, B1, B3]
  refine Af.bind (OG (k := kn) hc1 Ad Ad hpf.1.2.2 (q1.ext F1)) ?_
  rintro ⟨_, w2⟩ ⟨ms', a8, c8, rfl, o2, hml, hmf, M2⟩
  try dsimp only at ms' a8 c8 o2 hml hmf M2
  have zM2 := M2.size
  try simp only [qz] at zM2
  have hI' : Nm ms' := ⟨by omega, by omega, hmf⟩
  have K2 : ∀ b, b < w1.heap.size → ¬ Sp b → hp w2 b = hp w1 b := fun b hb h => M2.Ai b hb (fun h' => h (k1 b h').1)
  have C0 := (K2 w.heap.size Ad (nSp _ Ad)).trans B0
  have C1 := (K2 (w.heap.size + 1) Ad (nSp _ Ad)).trans B1
  have C2 := (K2 (w.heap.size + 1 + 1) Ad (nSp _ Ad)).trans B2
  have C3 := (K2 (w.heap.size + 1 + 1 + 1) Ad (nSp _ Ad)).trans B3
  have bx2 : ∀ b, (S1 b ∨ S2 b ∨ S3 b ∨ In w1.heap.size w2.heap.size b) → Sp b ∨ w.heap.size + 4 ≤ b := by
   rintro b (h | h | h | h)
   ·exact .inl (k1 b h).1
   ·exact .inl (k2 b h).1
   ·exact .inl (k3 b h).1
   ·simp only [In] at h; exact .inr Ad
  have nbx : ∀ b, (Sp b ∨ w.heap.size + 4 ≤ b) → b ≠ w.heap.size + 1 + 1 + 1 := by
   rintro b (h | h)
   ·have := (hSp b h).2.2; omega
   ·omega
  have MW2 : Mod S w w2 := Mod.Bd (Mod.of F1 S) M2 (fun b hb h => (hSp b (k1 b h).1).1.1)
  simp (disch := first | exact xD | fail) [-bind_some, -Aa, -Ab, qm, C3]
  generalize hW2 : World.setRow _ (w.heap.size + 1 + 1 + 1) _ = W2
  have sW2 : W2.heap.size = w2.heap.size := by rw [← hW2]; simp
  have kW2 : ∀ b, b ≠ w.heap.size + 1 + 1 + 1 → hp W2 b = hp w2 b := fun b h1 => by
   rw [← hW2]
   simp (disch := omega) only [Ac]
  have MWb : Mod S w W2 := by
   rw [← hW2]
   first | exact MW2.AQ (.inl Ad) _ | exact (MW2.AQ (.inl Ad) _).AQ (.inl Ad) _
  have D3 : hp W2 (w.heap.size + 1 + 1 + 1) = some (.cells #[i64 p.me, i64 p.clock, .slice a8 ms'.length c8, .slice al p.log.length cl, .slice ag p.BQ.length cg, .bool true] 102 (0, 0)) := by
   rw [← hW2]
   exact (by first | assumption | rfl | (simp (disch := first | exact xD | fail) [-bind_some, -Aa, -Ab, C3]; done))
  have oP := RZ (p := p) (clk := p.clock) (fell := true) (w3 := W2) (q2.ext F1) (q3.ext F1) kk1 kk2 kk3 o2 M2 (fun b hb hbl => kW2 b (nbx b (bx2 b hb)))
  refine Af.bind (L6 (M := M) (p := { p with clock := p.clock, chain := ms', fell := true }) ⟨hI', hpf.2⟩ Ad oP) ?_
  rintro ⟨_, w3⟩ ⟨ds3, p3, rfl, f3, o3, M3⟩
  have zM3 := M3.size
  try simp only [] at zM3
  try dsimp only at o3 M3
  have zM3 := M3.size
  have L0 := (M3.Ai w.heap.size Ad (fun h => by rcases bx2 _ h with h | h; exact nSp _ (Nat.le_refl _) h; omega)).trans ((kW2 _ Ad).trans C0)
  have L1 := (M3.Ai (w.heap.size + 1) Ad (fun h => by rcases bx2 _ h with h | h; exact nSp _ Ad h; omega)).trans ((kW2 _ Ad).trans C1)
  have L2 := (M3.Ai (w.heap.size + 1 + 1) Ad (fun h => by rcases bx2 _ h with h | h; exact nSp _ Ad h; omega)).trans ((kW2 _ Ad).trans C2)
  have L3 := (M3.Ai (w.heap.size + 1 + 1 + 1) Ad (fun h => by rcases bx2 _ h with h | h; exact nSp _ Ad h; omega)).trans D3
  have o3' := o3.d
  obtain ⟨ad, cd, ae, ce, af, cf, rfl, _, _, _⟩ := D.place.1 o3'
  simp (disch := first | exact xD | fail) [-bind_some, -Aa, -Ab, qm, L3]
  refine fin _ _ _ p3 _ true xA xA xA xA xA ((Ac Ad).trans L0) ((Ac Ad).trans L1) ((Ac Ad).trans L2) (by first | assumption | rfl | (simp (disch := first | exact xD | fail) [-bind_some, -Aa, -Ab, L3]; done)) f3 (o3.Aj fun b hb hbl => Ac ?_) ?_ ?_ ?_
  ·rcases hb with h | h
   ·exact nbx b (bx2 b h)
   ·simp only [In] at h; omega
  ·intro b hb
   rcases hb with h | h
   ·exact bx2 b h
   ·simp only [In] at h; exact .inr Ad
  ·intro b hb hn
   exact (Ac Ad).trans ((M3.Ai b Ad (fun h => by rcases bx2 b h with h | h; exact hn h; omega)).trans ((kW2 b Ad).trans ((K2 b Ad hn).trans (F1.Ai hb))))
  ·exact (Mod.Bd MWb M3 fun b hb h => by rcases bx2 b h with h | h; exact (hSp b h).1.1; omega).AQ (.inl Ad) _
 cases hk8 : (kind == 8)
 case true =>
  by_cases h4 : p.chain.length < 4
  ·simp (disch := first | exact xD | fail) [-bind_some, qs, -Aa, -Ab, qm, hk6, hk7, hk8, DJ, show (p.chain.length : Int) < 4 by omega, m0, m1, m2, m3, m4, m5]
   refine Af.bind (Ox x0 h4 (q1.ext xE)) ?_
   rintro ⟨_, w2⟩ ⟨a8, c8, rfl, o2, M2⟩
   try dsimp only at a8 c8 o2 M2
   have zM2 := M2.size
   try simp only [qz] at zM2
   have hI' := SL hpf.1 h4
   have nS1 : ∀ b, w.heap.size ≤ b → ¬ S1 b := fun b h h' => nSp b h (k1 b h').1
   simp only [World.size_alloc, size_setRow] at o2
   have C0 : hp w2 w.heap.size = some (.cells #[.slice (some ⟨gp, 0, none⟩) st.places.length pc, .slice sa st.Ay.length sc, .slice na st.net.length nc, .slice ha st.AM.length hc] 67 (0, 0)) := (M2.Ai _ xB (nS1 _ Ad)).trans (by first | assumption | rfl | (simp (disch := first | exact xD | fail) [-bind_some, qs, -Aa, -Ab]; done))
   have C1 : hp w2 (w.heap.size + 1) = some (.cells #[i64 kind, i64 k, i64 num, i64 key, .string text, .bool gone] 118 (0, 0)) := (M2.Ai _ xB (nS1 _ Ad)).trans (by first | assumption | rfl | (simp (disch := first | exact xD | fail) [-bind_some, qs, -Aa, -Ab]; done))
   have C2 : hp w2 (w.heap.size + 1 + 1) = some (.cells #[.slice none 0 0, .slice none 0 0, .slice none 0 0, .slice none 0 0] 67 (0, 0)) := (M2.Ai _ xB (nS1 _ Ad)).trans (by first | assumption | rfl | (simp (disch := first | exact xD | fail) [-bind_some, qs, -Aa, -Ab]; done))
   have C3 : hp w2 (w.heap.size + 1 + 1 + 1) = some (.cells #[i64 p.me, i64 p.clock, .slice ac p.chain.length cc, .slice al p.log.length cl, .slice ag p.BQ.length cg, .bool p.fell] 102 (0, 0)) := (M2.Ai _ xB (nS1 _ Ad)).trans (by first | assumption | rfl | (simp (disch := first | exact xD | fail) [-bind_some, qs, -Aa, -Ab]; done))
   have K2 : ∀ b, b < w.heap.size → ¬ S1 b → hp w2 b = hp w b := fun b hb h => (M2.Ai b xB h).trans (by simp (disch := (first | omega | (simp only [World.size_alloc, size_setRow]; omega))) only [Ac, Ag])
   have MS : Mod S w w2 := Mod.Bd xM M2 (fun b hb h => (hSp b (k1 b h).1).1.1)
   simp (disch := first | exact xD | fail) [-bind_some, -Aa, -Ab, qm, C3]
   generalize hW2 : World.setRow _ (w.heap.size + 1 + 1 + 1) _ = W2
   have sW2 : W2.heap.size = w2.heap.size := by rw [← hW2]; simp
   have kW2 : ∀ b, b ≠ w.heap.size + 1 + 1 + 1 → hp W2 b = hp w2 b := fun b h1 => by
    rw [← hW2]
    simp (disch := omega) only [Ac]
   have MWb : Mod S w W2 := by
    rw [← hW2]
    exact MS.AQ (.inl Ad) _
   have D3 : hp W2 (w.heap.size + 1 + 1 + 1) = some (.cells #[i64 p.me, i64 p.clock, .slice a8 (Fs p.chain).length c8, .slice al p.log.length cl, .slice ag p.BQ.length cg, .bool p.fell] 102 (0, 0)) := by
    rw [← hW2]
    exact (by first | assumption | rfl | (simp (disch := first | exact xD | fail) [-bind_some, -Aa, -Ab, C3]; done))
   have oP := O.Fi (p := { p with chain := Fs p.chain }) (w := W2) (S1 := fun b => S1 b ∨ w.heap.size + 4 ≤ b) (S2 := S2) (S3 := S3) ((o2.Aj fun b hb hbl => kW2 b (by rcases hb with h | h; have := (k1 b h).2.2.2; omega; simp only [In] at h; omega)).wide fun b hb _ => by rcases hb with h | h; exact .inl h; simp only [In] at h; exact .inr Ad)
    (q2.Aj fun b hb hbl => (kW2 b Ad).trans (K2 b hbl (k2 b hb).2.1)) (q3.Aj fun b hb hbl => (kW2 b Ad).trans (K2 b hbl (k3 b hb).2.1))
    (fun b _ h h' => by rcases h with h | h; exact (k1 b h).2.1 h'; have := (k2 b h').2.2.2; omega) (fun b _ h h' => by rcases h with h | h; exact (k1 b h).2.2.1 h'; have := (k3 b h').2.2.2; omega) (fun b _ h h' => (k2 b h).2.2.1 h')
   refine fin _ _ _ { p with chain := Fs p.chain } _ true xA xA xA xA xA ((kW2 _ Ad).trans C0) ((kW2 _ Ad).trans C1) ((kW2 _ Ad).trans C2) D3 ⟨hI', by have := hpf.2.1; show p.log.length ≤ M + 4; omega, hpf.2.2⟩ oP ?_ (fun b hb hn => (kW2 b Ad).trans (K2 b hb (fun h => hn (k1 b h).1))) MWb
   rintro b ((h | h) | h | h)
   ·exact .inl (k1 b h).1
   ·exact .inr h
   ·exact .inl (k2 b h).1
   ·exact .inl (k3 b h).1
  ·simp (disch := first | exact xD | fail) [-bind_some, qs, -Aa, -Ab, qm, hk6, hk7, hk8, DJ, show ¬ (p.chain.length : Int) < 4 by omega, m0, m1, m2, m3, m4, m5]
   exact same _ _ false xA xA xA xA xA (by first | assumption | rfl | (simp (disch := first | exact xD | fail) [-bind_some, qs, -Aa, -Ab]; done)) (by first | assumption | rfl | (simp (disch := first | exact xD | fail) [-bind_some, qs, -Aa, -Ab]; done)) (by first | assumption | rfl | (simp (disch := first | exact xD | fail) [-bind_some, qs, -Aa, -Ab]; done)) (by first | assumption | rfl | (simp (disch := first | exact xD | fail) [-bind_some, qs, -Aa, -Ab]; done)) xE
 simp (disch := first | exact xD | fail) [-bind_some, qs, -Aa, -Ab, qm, hk6, hk7, hk8, DJ, m0, m1, m2, m3, m4, m5]
 refine Af.bind (AN _ _ _ _) ?_
 rintro _ rfl
 cases hnm : (decide (0 ≤ num) && decide (num ≤ 2))
 ·simp (disch := first | exact xD | fail) [-bind_some, qs, -Aa, -Ab]
  exact same _ _ false xA xA xA xA xA (by first | assumption | rfl | (simp (disch := first | exact xD | fail) [-bind_some, qs, -Aa, -Ab]; done)) (by first | assumption | rfl | (simp (disch := first | exact xD | fail) [-bind_some, qs, -Aa, -Ab]; done)) (by first | assumption | rfl | (simp (disch := first | exact xD | fail) [-bind_some, qs, -Aa, -Ab]; done)) (by first | assumption | rfl | (simp (disch := first | exact xD | fail) [-bind_some, qs, -Aa, -Ab]; done)) xE
 have hnm' := hnm
 simp only [Bool.and_eq_true, decide_eq_true_eq] at hnm'
 obtain ⟨nn', rfl⟩ := Int.eq_ofNat_of_zero_le hnm'.1
 simp (disch := first | exact xD | fail) [-bind_some, qs, -Aa, -Ab]
 refine Af.bind (PY (i := nn') hpf Ad hx (op.d.ext xE)) ?_
 rintro ⟨_, w1⟩ ⟨q, rfl, hq, E1⟩
 try dsimp only at q hq E1
 have zE1 := E1.size
 try simp only [qz] at zE1
 have B0 : hp w1 w.heap.size = some (.cells #[.slice (some ⟨gp, 0, none⟩) st.places.length pc, .slice sa st.Ay.length sc, .slice na st.net.length nc, .slice ha st.AM.length hc] 67 (0, 0)) := (E1.Ai xB).trans (by first | assumption | rfl | (simp (disch := first | exact xD | fail) [-bind_some, qs, -Aa, -Ab]; done))
 have B1 : hp w1 (w.heap.size + 1) = some (.cells #[i64 kind, i64 k, i64 nn', i64 key, .string text, .bool gone] 118 (0, 0)) := (E1.Ai xB).trans (by first | assumption | rfl | (simp (disch := first | exact xD | fail) [-bind_some, qs, -Aa, -Ab]; done))
 have B2 : hp w1 (w.heap.size + 1 + 1) = some (.cells #[.slice none 0 0, .slice none 0 0, .slice none 0 0, .slice none 0 0] 67 (0, 0)) := (E1.Ai xB).trans (by first | assumption | rfl | (simp (disch := first | exact xD | fail) [-bind_some, qs, -Aa, -Ab]; done))
 have B3 : hp w1 (w.heap.size + 1 + 1 + 1) = some (.cells #[i64 p.me, i64 p.clock, .slice ac p.chain.length cc, .slice al p.log.length cl, .slice ag p.BQ.length cg, .bool p.fell] 102 (0, 0)) := (E1.Ai xB).trans (by first | assumption | rfl | (simp (disch := first | exact xD | fail) [-bind_some, qs, -Aa, -Ab]; done))
 have F1 : Ext w w1 := xE
 have zF1 := F1.size
 cases q
 ·simp (disch := first | exact xD | fail) [-bind_some, -Aa, -Ab]
  exact same _ _ false xA xA xA xA xA (by first | assumption | rfl | (simp (disch := first | exact xD | fail) [-bind_some, qs, -Aa, -Ab, qm, B0, m0, m1, m2, m3, m4, m5, E1.Ai]; done)) (by first | assumption | rfl | (simp (disch := first | exact xD | fail) [-bind_some, qs, -Aa, -Ab, qm, B1, m0, m1, m2, m3, m4, m5, E1.Ai]; done)) (by first | assumption | rfl | (simp (disch := first | exact xD | fail) [-bind_some, qs, -Aa, -Ab, qm, B2, m0, m1, m2, m3, m4, m5, E1.Ai]; done)) (by first | assumption | rfl | (simp (disch := first | exact xD | fail) [-bind_some, qs, -Aa, -Ab, qm, B3, m0, m1, m2, m3, m4, m5, E1.Ai]; done)) F1
 obtain ⟨hlk, h6⟩ := hq rfl
 simp (disch := first | exact xD | fail) [-bind_some, -Aa, -Ab, B1, B3]
 refine Af.bind (Tn (M := M) (i := nn') hpf Ad Ad hx h6 hlk (op.ext F1)) ?_
 rintro ⟨_, w2⟩ ⟨ds3, p3, rfl, f3, o3, M2⟩
 try dsimp only at ds3 p3 f3 o3 M2
 have zM2 := M2.size
 try simp only [qz] at zM2
 have K2 : ∀ b, b < w1.heap.size → ¬ Sp b → hp w2 b = hp w1 b := fun b hb h => M2.Ai b hb h
 have C0 := (K2 w.heap.size Ad (nSp _ Ad)).trans B0
 have C1 := (K2 (w.heap.size + 1) Ad (nSp _ Ad)).trans B1
 have C2 := (K2 (w.heap.size + 1 + 1) Ad (nSp _ Ad)).trans B2
 have C3 := (K2 (w.heap.size + 1 + 1 + 1) Ad (nSp _ Ad)).trans B3
 have MS : Mod S w w2 := Mod.Bd (Mod.of F1 S) M2 (fun b hb h => (hSp b h).1.1)
 have o3' := o3.d
 obtain ⟨ad, cd, ae, ce, af, cf, rfl, _, _, _⟩ := D.place.1 o3'
 simp (disch := first | exact xD | fail) [-bind_some, -Aa, -Ab, qm, C3]
 refine fin _ _ _ p3 _ true xA xA xA xA xA ((Ac Ad).trans C0) ((Ac Ad).trans C1) ((Ac Ad).trans C2) (by first | assumption | rfl | (simp (disch := first | exact xD | fail) [-bind_some, -Aa, -Ab, C3]; done)) f3 (o3.Aj fun b hb hbl => Ac ?_) ?_ (fun b hb hn => (Ac Ad).trans ((K2 b Ad hn).trans (F1.Ai hb))) (MS.AQ (.inl Ad) _)
 ·rcases hb with h | h
  ·have := (hSp b h).2.2; omega
  ·simp only [In] at h; omega
 ·intro b hb
  rcases hb with h | h
  ·exact .inl h
  ·simp only [In] at h; exact .inr Ad
end Go.Proofs.YtkhbpmhagpljiaaGreatDoor.X
namespace Go.Proofs.YtkhbpmhagpljiaaGreatDoor.X
open Go Go.Ev Go.RowKit
open Option (bind_some)
attribute [local irreducible] World.alloc World.setRow Go.Ev.dw
theorem QM {M M' : Nat} {S T : Nat → Prop} {cs0 cs1 : List Value} {st1 : WorldD} {e : Env} {w W : World} (hf : B6 M' st1) (hM' : M' ≤ M + 16)
  (ho : O tW T W cs1 st1) (hT : ∀ b, T b → (S b ∧ b < w.heap.size) ∨ w.heap.size + 3 ≤ b) (hMod : Mod S w W)
  (e2 : e 2 = pt w.heap.size 0) (e4 : e 4 = pt (w.heap.size + 1 + 1) 0) (X2 : hp W w.heap.size = some (.cells cs1.toArray 67 (0, 0)))
  (X4 : hp W (w.heap.size + 1 + 1) = some (.cells #[.slice none 0 0, .slice none 0 0, .slice none 0 0, .slice none 0 0] 67 (0, 0))) :
  Af (EP e W) (Step M S w cs0) := by
 have y4 := Aq X4
 obtain ⟨u1, l1, d1, u2, l2, d2, u3, l3, d3, u4, l4, d4, rfl⟩ := ho.Cv
 rw [KN]
 refine Af.post fun Q hQ => ?_
 simp (disch := first | exact xD | fail) [-bind_some, -Aa, -Ab, qm, e2, e4, X2, X4]
 refine hQ _ ⟨_, _, true, rfl, by simp, hf.up hM', (ho.Aj fun b hb hbl => Ac ?_).wide ?_, hMod.AQ (.inl Ad) _⟩
 ·rintro rfl
  have := hT _ hb
  omega
 ·intro b hb hbl
  simp only [In, size_setRow] at hbl ⊢
  rcases hT b hb with h | h
  ·exact .inl h.1
  ·exact .inr Ad
theorem Un {M k b6 b7 gp n c : Nat} {q : Bool} {S T Sp S' : Nat → Prop} {cs0 ds' : List Value} {v2 v3 v4 : Value} {st1 : WorldD} {p' : PlaceD} {src idx : Int} {vcs : List Value} {curp : List Value} {e : Env} {w W W1 : World} (hv : [v2, v3, v4].all Value.oneCell' = true) (hf : B6 M st1) (hk3 : k < n)
  (hgl : gp < W.heap.size) (hTg : T gp) (hSp : ∀ b, Sp b → T b ∧ b ≠ gp ∧ b < W.heap.size) (hle : k * 6 + 6 ≤ curp.length)
  (putp : ∀ (w' : World) (ds' : List Value) (p' : PlaceD) (S' : Nat → Prop), O Kp S' w' ds' p' → hp w' gp = some (.cells (Bu curp (k * 6) ds').toArray 102 (0, 0)) → (∀ b, b < W.heap.size → T b → b ≠ gp → ¬ Sp b → hp w' b = hp W b) → (∀ b, b < w'.heap.size → S' b → Sp b ∨ ¬ (b < W.heap.size ∧ T b)) →
    O tW (fun b => T b ∨ S' b) w' [.slice (some ⟨gp, 0, none⟩) n c, v2, v3, v4] { st1 with places := st1.places.set k p' })
  (hT : ∀ b, T b → (S b ∧ b < w.heap.size) ∨ w.heap.size + 4 ≤ b) (hMod : Mod S w W1)
  (ho : q = false → O tW T W1 [.slice (some ⟨gp, 0, none⟩) n c, v2, v3, v4] st1) (fp : DA M p') (op : O Kp S' W1 ds' p') (hS' : ∀ b, S' b → Sp b ∨ (W.heap.size ≤ b ∧ b ≠ b7)) (hK : ∀ b, b < W.heap.size → ¬ Sp b → hp W1 b = hp W b) (hz : W.heap.size ≤ W1.heap.size) (hz2 : w.heap.size + 4 ≤ W.heap.size)
  (hg : ∃ ds, ds.length = 6 ∧ hp W gp = some (.cells (Bu curp (k * 6) ds).toArray 102 (0, 0)))
  (e2 : e 2 = pt w.heap.size 0) (e4 : e 4 = pt (w.heap.size + 1 + 1) 0) (e6 : e 6 = pt b6 0) (e7 : e 7 = pt b7 0) (e8 : e 8 = .bool q) (hb6 : b6 < W.heap.size ∧ ¬ T b6) (hb7 : W.heap.size ≤ b7)
  (X2 : hp W w.heap.size = some (.cells #[.slice (some ⟨gp, 0, none⟩) n c, v2, v3, v4] 67 (0, 0))) (X4 : hp W (w.heap.size + 1 + 1) = some (.cells #[.slice none 0 0, .slice none 0 0, .slice none 0 0, .slice none 0 0] 67 (0, 0)))
  (X6 : hp W b6 = some (.cells (i64 src :: i64 k :: i64 idx :: vcs).toArray 112 (0, 0))) (X7 : hp W1 b7 = some (.cells ds'.toArray 102 (0, 0))) :
  Af (Dk e W1) (Step M S w cs0) := by
 have nT : ∀ b, w.heap.size ≤ b → b < w.heap.size + 4 → ¬ T b := fun b h1 h2 h => by have := hT b h; omega
 have Y2 := (hK w.heap.size Ad (fun h => nT _ Ad Ad (hSp _ h).1)).trans X2
 have Y4 := (hK (w.heap.size + 1 + 1) Ad (fun h => nT _ Ad Ad (hSp _ h).1)).trans X4
 have Y6 := (hK b6 hb6.1 (fun h => hb6.2 (hSp _ h).1)).trans X6
 rw [KM]
 cases q
 ·simp (disch := first | exact xD | fail) [-bind_some, -Aa, -Ab, e8]
  exact QM hf Ad (ho rfl) (fun b h => by rcases hT b h with h | h; exact .inl h; exact .inr Ad) hMod xA xA Y2 Y4
 ·obtain ⟨ds, hds, hg⟩ := hg
  have Yg := (hK gp hgl (fun h => (hSp gp h).2.1 rfl)).trans hg
  have op' := op.d
  obtain ⟨ad, cd, ae, ce, af, cf, rfl, _, _, _⟩ := D.place.1 op'
  obtain ⟨t0, t1, t2, t3, t4, t5, rfl⟩ := aG hds
  simp (disch := first | exact xD | fail) [-bind_some, -Aa, -Ab, qm, e2, e6, e7, e8, Y2, Y6, X7, Yg, DJ]
  generalize hW2 : World.setRow _ gp _ = W2
  have sW2 : W2.heap.size = W1.heap.size := by rw [← hW2]; simp
  have kW2 : ∀ b, b ≠ gp → hp W2 b = hp W1 b := fun b h1 => by
   rw [← hW2]
   simp (disch := omega) only [Ac]
  have G2 : hp W2 gp = some (.cells (Bu curp (k * 6) [i64 p'.me, i64 p'.clock, .slice ad p'.chain.length cd, .slice ae p'.log.length ce, .slice af p'.BQ.length cf, .bool p'.fell]).toArray 102 (0, 0)) := by
   rw [← hW2]
   exact (by first | assumption | rfl | (simp (disch := first | exact xD | fail) [-bind_some, -Aa, -Ab, Yg]; done))
  have hgS : w.heap.size ≤ gp ∨ S gp := by rcases hT gp hTg with h | h; exact .inr h.1; exact .inl Ad
  have MW2 : Mod S w W2 := by
   rw [← hW2]
   exact hMod.AQ hgS _
  have oW2 := putp W2 _ p' S' (op.Aj fun b hb hbl => kW2 b (by rcases hS' b hb with h | h; exact (hSp b h).2.1; omega)) G2 (fun b hb _ hne hn => (kW2 b hne).trans (hK b hb hn)) (fun b _ h => by rcases hS' b h with h | h; exact .inl h; exact .inr (fun hh => by omega))
  have ng : ∀ b, w.heap.size ≤ b → b < w.heap.size + 4 → b ≠ gp := fun b h1 h2 h => nT b h1 h2 (h ▸ hTg)
  exact QM (hf.place (i := k) (M' := M) Ad fp) Ad oW2 (fun b h => by rcases h with h | h; rcases hT b h with h | h; exact .inl h; exact .inr Ad; rcases hS' b h with h | h; rcases hT b (hSp b h).1 with h | h; exact .inl h; exact .inr Ad; exact .inr Ad) MW2 xA xA ((kW2 _ (ng _ Ad Ad)).trans Y2) ((kW2 _ (ng _ Ad Ad)).trans Y4)
theorem QN {M b6 : Nat} {kind at' num key : Int} {text : ByteArray} {gone : Bool} {S T Sf : Nat → Prop} {cs0 cs1 vcs : List Value} {st1 : WorldD} {f : FrameD} {e : Env} {w W : World} (hf : B6 M st1) (hM : M ≤ 900000) (hff : VT f)
  (ho : O tW T W cs1 st1) (hT : ∀ b, T b → (S b ∧ b < w.heap.size) ∨ w.heap.size + 4 ≤ b) (hMod : Mod S w W) (dv : D Cu Sf W vcs f.Cq) (hz2 : w.heap.size + 4 ≤ W.heap.size) (hb6 : b6 < W.heap.size ∧ ¬ T b6)
  (e2 : e 2 = pt w.heap.size 0) (e3 : e 3 = pt (w.heap.size + 1) 0) (e4 : e 4 = pt (w.heap.size + 1 + 1) 0) (e6 : e 6 = pt b6 0)
  (X2 : hp W w.heap.size = some (.cells cs1.toArray 67 (0, 0))) (X3 : hp W (w.heap.size + 1) = some (.cells #[i64 kind, i64 at', i64 num, i64 key, .string text, .bool gone] 118 (0, 0)))
  (X4 : hp W (w.heap.size + 1 + 1) = some (.cells #[.slice none 0 0, .slice none 0 0, .slice none 0 0, .slice none 0 0] 67 (0, 0)))
  (X6 : hp W b6 = some (.cells (i64 f.src :: i64 f.dst :: i64 f.idx :: vcs).toArray 112 (0, 0))) :
  Af (EO e W) (Step M S w cs0) := by
 have y4 := Aq X4
 have ho := ho.lt
 obtain ⟨u1, l1, d1, u2, l2, d2, u3, l3, d3, u4, l4, d4, rfl⟩ := ho.Cv
 rw [KL]
 refine Af.post fun Q hQ => ?_
 cases h12 : (kind == 12)
 case true =>
  simp (disch := first | exact xD | fail) [-bind_some, -Aa, -Ab, qm, e2, e3, e4, X2, X3, X4, h12]
  refine hQ _ ⟨_, _, true, rfl, by simp, hf.up Ad, (ho.Aj fun b hb hbl => Ac ?_).wide ?_, hMod.AQ (.inl Ad) _⟩
  ·rintro rfl
   have := hT _ hb.1
   omega
  ·intro b hb hbl
   simp only [In, size_setRow] at hbl ⊢
   rcases hT b hb.1 with h | h
   ·exact .inl h.1
   ·exact .inr Ad
 obtain ⟨hs0, hs2, hd0, hd2, hvp⟩ := hff
 obtain ⟨k, hk⟩ := Int.eq_ofNat_of_zero_le hd0
 obtain ⟨i, hi⟩ := Int.eq_ofNat_of_zero_le hs0
 have hk3 : k < st1.places.length := by rw [hf.1]; omega
 obtain ⟨p, hp', _⟩ := An hk3
 have hpf := hf.2.1 p (List.mem_of_getElem? hp')
 obtain ⟨c', a1', c1', a2', c2', a3', c3', gp, curp, dp, Sp, hcs, hSgp, hgpl, hgp, hlep, op, hSp, putp⟩ := O.Ho ho hp'
 simp only [List.cons.injEq, Value.slice.injEq, and_true] at hcs
 obtain ⟨⟨rfl, rfl, rfl⟩, ⟨rfl, rfl, rfl⟩, ⟨rfl, rfl, rfl⟩, rfl, rfl, rfl⟩ := hcs
 have op' := op.d
 obtain ⟨ac, cc, al, cl, ag, cg, rfl, _, _, _⟩ := D.place.1 op'
 obtain ⟨av, cv, rfl, dv1, dv2⟩ := D.Cq.1 dv
 have dv : D Cu Sf W [i64 f.Cq.key, i64 f.Cq.tag.t, i64 f.Cq.tag.p, .slice av f.Cq.past.length cv, .string f.Cq.text, .bool f.Cq.gone] f.Cq := dv
 have Ap := Ew hgp (by simpa using hlep)
 have m0 := Ap 0 _ rfl
 have m1 := Ap 1 _ rfl
 have m2 := Ap 2 _ rfl
 have m3 := Ap 3 _ rfl
 have m4 := Ap 4 _ rfl
 have m5 := Ap 5 _ rfl
 simp only [Nat.add_zero] at m0 m1 m2 m3 m4 m5
 rw [hk, hi] at X6
 have nb6 : ¬ (T b6 ∧ b6 < W.heap.size) := fun h => hb6.2 h.1
 have fin : ∀ (e' : Env) (W1 : World) (b7 : Nat) (ds' : List Value) (p' : PlaceD) (S' : Nat → Prop) (q : Bool), Mod S w W1 → (q = false → Ext W W1) → DA M p' → O Kp S' W1 ds' p' → (∀ b, S' b → Sp b ∨ (W.heap.size ≤ b ∧ b ≠ b7)) → (∀ b, b < W.heap.size → ¬ Sp b → hp W1 b = hp W b) → W.heap.size ≤ W1.heap.size →
   e' 2 = pt w.heap.size 0 → e' 4 = pt (w.heap.size + 1 + 1) 0 → e' 6 = pt b6 0 → e' 7 = pt b7 0 → e' 8 = .bool q → W.heap.size ≤ b7 → hp W1 b7 = some (.cells ds'.toArray 102 (0, 0)) → Af (Dk e' W1) Q := by
  intro e' W1 b7 ds' p' S' q g1 g2 g3 g4 g5 g6 g7 e2' e4' e6' e7' e8' hb7 X7
  exact Af.mono (Un (M := M) (k := k) (T := fun b => T b ∧ b < W.heap.size) (Sp := Sp) (v2 := .slice u2 st1.Ay.length d2) (v3 := .slice u3 st1.net.length d3) (v4 := .slice u4 st1.AM.length d4) (src := i) (idx := f.idx) rfl hf hk3 hgpl hSgp hSp hlep putp (fun b h => hT b h.1) g1 (fun hq => ho.ext (g2 hq)) g3 g4 g5 g6 g7 hz2 ⟨_, rfl, hgp⟩ e2' e4' e6' e7' e8' ⟨hb6.1, nb6⟩ hb7 X2 X4 X6 X7) hQ
 simp (disch := first | exact xD | fail) [-bind_some, -Aa, -Ab, e3, X3, h12]
 refine JU _ _ ?_
 simp (disch := first | exact xD | fail) [-bind_some, qs, -Aa, -Ab, e2, e6, X2, X6, DJ, m0, m1, m2, m3, m4, m5]
 constructor
 ·skip
  refine Af.mono (P4 (i := i) hpf Ad hvp (dv.ext xE) (op.ext xE)) ?_
  rintro ⟨_, w1⟩ ⟨cs', p', q, rfl, hq, f1, o1, M1⟩
  try dsimp only at cs' p' q hq f1 o1 M1
  have zM1 := M1.size
  try simp only [qz] at zM1
  simp only [Ak] at zM1 o1
  have o1' := o1.d
  obtain ⟨ad, cd, ae, ce, af, cf, rfl, _, _, _⟩ := D.place.1 o1'
  have K1 : ∀ b, b < W.heap.size → ¬ Sp b → hp w1 b = hp W b := fun b hb h => (M1.Ai b xB h).trans (by simp (disch := (first | omega | (simp only [World.size_alloc, size_setRow, Ak]; omega))) only [BW])
  have nT : ∀ b, w.heap.size ≤ b → b < w.heap.size + 4 → ¬ Sp b := fun b h1 h2 h => by have := hT b (hSp b h).1.1; omega
  have N2 := K1 w.heap.size Ad (nT _ Ad Ad)
  have N4 := K1 (w.heap.size + 1 + 1) Ad (nT _ Ad Ad)
  have N6 := K1 b6 hb6.1 (fun h => nb6 (hSp _ h).1)
  have Ng := K1 gp hgpl (fun h => (hSp gp h).2.1 rfl)
  have hSm : ∀ b, Sp b → w.heap.size ≤ b ∨ S b := fun b h => by rcases hT b (hSp b h).1.1 with h | h; exact .inr h.1; exact .inl Ad
  have MS : Mod S w w1 := by
   refine Mod.Bd (by first | exact hMod.Ud | exact (hMod.Ud).al _) M1 fun b hb h => ?_
   rcases hSm b h with h | h
   ·omega
   ·exact h
  simp (disch := first | exact xD | fail) [-bind_some, qs, -Aa, -Ab, qm, N2, N6, Ng, X2, X6, m0, m1, m2, m3, m4, m5]
  refine fin _ _ w1.heap.size _ p' (fun b => Sp b ∨ In W.heap.size w1.heap.size b) q ((MS.al _).AQ (.inl Ad) _) (fun h => ?_) f1 (o1.Aj fun b hb hbl => (Ac Ad).trans (Ag hbl)) (fun b h => by rcases h with h | h; exact .inl h; simp only [In] at h; exact .inr ⟨h.1, by omega⟩) (fun b hb h => (Ac Ad).trans ((Ag Ad).trans (K1 b hb h))) (by simp only [size_setRow, World.size_alloc]; omega) xA xA xA xA xA Ad (by first | assumption | rfl | (simp (disch := first | exact xD | fail) [-bind_some, qs, -Aa, -Ab]; done))
  exact (((Cn W).tr (hq h)).al _).set Ad _
 ·skip
  refine Af.mono (P4 (i := i) hpf Ad hvp (dv.ext xE) (op.ext xE)) ?_
  rintro ⟨_, w1⟩ ⟨cs', p', q, rfl, hq, f1, o1, M1⟩
  try dsimp only at cs' p' q hq f1 o1 M1
  have zM1 := M1.size
  try simp only [qz] at zM1
  simp only [Ak, World.size_alloc] at zM1 o1
  have o1' := o1.d
  obtain ⟨ad, cd, ae, ce, af, cf, rfl, _, _, _⟩ := D.place.1 o1'
  have K1 : ∀ b, b < W.heap.size → ¬ Sp b → hp w1 b = hp W b := fun b hb h => (M1.Ai b xB h).trans (by simp (disch := (first | omega | (simp only [World.size_alloc, size_setRow, Ak]; omega))) only [Ag, BW])
  have nT : ∀ b, w.heap.size ≤ b → b < w.heap.size + 4 → ¬ Sp b := fun b h1 h2 h => by have := hT b (hSp b h).1.1; omega
  have N2 := K1 w.heap.size Ad (nT _ Ad Ad)
  have N4 := K1 (w.heap.size + 1 + 1) Ad (nT _ Ad Ad)
  have N6 := K1 b6 hb6.1 (fun h => nb6 (hSp _ h).1)
  have Ng := K1 gp hgpl (fun h => (hSp gp h).2.1 rfl)
  have hSm : ∀ b, Sp b → w.heap.size ≤ b ∨ S b := fun b h => by rcases hT b (hSp b h).1.1 with h | h; exact .inr h.1; exact .inl Ad
  have MS : Mod S w w1 := by
   refine Mod.Bd (by first | exact hMod.Ud | exact (hMod.Ud).al _) M1 fun b hb h => ?_
   rcases hSm b h with h | h
   ·omega
   ·exact h
  have N7 : hp w1 W.heap.size = some (.cells #[i64 0, i64 0, .slice none 0 0, .slice none 0 0, .slice none 0 0, .bool false] 102 (0, 0)) := (M1.Ai _ xB (fun h => by have := (hSp _ h).2.2; omega)).trans (by first | assumption | rfl | (simp (disch := first | exact xD | fail) [-bind_some, qs, -Aa, -Ab]; done))
  simp (disch := first | exact xD | fail) [-bind_some, qs, -Aa, -Ab, qm, N7]
  refine fin _ _ W.heap.size _ p' (fun b => Sp b ∨ In (W.heap.size + 1) w1.heap.size b) q (MS.AQ (.inl Ad) _) (fun h => ?_) f1 (o1.Aj fun b hb hbl => Ac ?_) (fun b h => by rcases h with h | h; exact .inl h; simp only [In] at h; exact .inr ⟨by omega, by omega⟩) (fun b hb h => (Ac Ad).trans (K1 b hb h)) (by simp only [size_setRow]; omega) xA xA xA xA xA Ad (by first | assumption | rfl | (simp (disch := first | exact xD | fail) [-bind_some, -Aa, -Ab, N7]; done))
  ·exact (((Cn W).al _).tr (hq h)).set Ad _
  ·rcases hb with h | h
   ·have := (hSp b h).2.2; omega
   ·simp only [In] at h; omega
end Go.Proofs.YtkhbpmhagpljiaaGreatDoor.X
namespace Go.Proofs.YtkhbpmhagpljiaaGreatDoor.X
open Go Go.Ev Go.RowKit
open Option (bind_some)
 -- STEPS
attribute [local irreducible] World.alloc World.setRow Go.Ev.dw
abbrev NN : Lay FrameD := Ik 39
theorem Vp {M : Nat} {kind at' num key : Int} {text : ByteArray} {gone : Bool} {S : Nat → Prop} {cs : List Value} {st : WorldD} {w : World} (hf : B6 M st) (hM : M ≤ 900000) (ho : O tW S w cs st) :
  Af (EV P 92 #[.agg cs.toArray, .agg #[i64 kind, i64 at', i64 num, i64 key, .string text, .bool gone]] w) (Step M S w cs) := by
 have ho0 := ho
 have ho := ho.lt
 obtain ⟨pa, pc, sa, sc, na, nc, ha, hc, S3, rfl, on, hS3, put⟩ := O.Wf ho
 have ok : ∀ (w' : World), Ext w w' → Step M S w [.slice pa st.places.length pc, .slice sa st.Ay.length sc, .slice na st.net.length nc, .slice ha st.AM.length hc] (.tuple #[.agg #[.slice pa st.places.length pc, .slice sa st.Ay.length sc, .slice na st.net.length nc, .slice ha st.AM.length hc], .bool false], w') :=
  fun w' hE => Step.fail hf ho0 hE
 have nl12 := hf.2.2.2.2.1
 have nS3 : ∀ b, w.heap.size ≤ b → ¬ S3 b := fun b h h' => by have := (hS3 b h').2; omega
 refine Af.post fun Q hQ => ?_
 refine Bw (Oh _ _ _) ?_
 cases h10 : (kind == 10)
 case true =>
  simp (maxSteps := 1000000) (disch := first | exact xD | fail) [-bind_some, qs, -Aa, -Ab, h10]
  refine Af.bind (AN _ _ _ _) ?_
  rintro _ rfl
  cases hat : (decide (0 ≤ at') && decide (at' ≤ 2))
  ·simp (maxSteps := 1000000) (disch := first | exact xD | fail) [-bind_some, qs, -Aa, -Ab, qm]
   exact hQ _ (ok _ xE)
  have hat' := hat
  simp only [Bool.and_eq_true, decide_eq_true_eq] at hat'
  obtain ⟨k, rfl⟩ := Int.eq_ofNat_of_zero_le hat'.1
  have hk3 : k < st.places.length := by rw [hf.1]; omega
  obtain ⟨p, hp', _⟩ := An hk3
  have hpf := hf.2.1 p (List.mem_of_getElem? hp')
  obtain ⟨c', a1', c1', a2', c2', a3', c3', gp, curp, dp, Sp, hcs, hSgp, hgpl, hgp, hlep, op, hSp, _⟩ := O.Ho ho hp'
  simp only [List.cons.injEq, Value.slice.injEq, and_true, true_and] at hcs
  obtain ⟨⟨rfl, rfl⟩, ⟨rfl, rfl⟩, ⟨rfl, rfl⟩, rfl, rfl⟩ := hcs
  have op' := op.d
  obtain ⟨ac, cc, al, cl, ag, cg, rfl, _, q2, _⟩ := D.place.1 op'
  have Ap := Ew hgp (by simpa using hlep)
  have m0 := Ap 0 _ rfl
  have m1 := Ap 1 _ rfl
  have m2 := Ap 2 _ rfl
  have m3 := Ap 3 _ rfl
  have m4 := Ap 4 _ rfl
  have m5 := Ap 5 _ rfl
  simp only [Nat.add_zero] at m0 m1 m2 m3 m4 m5
  have hw1 : IntKind.i64.wrap ((p.log.length : Int) - 1) = (p.log.length : Int) - 1 := HS (by have := hpf.2.1; omega) (by have := hpf.2.1; omega)
  simp (maxSteps := 1000000) (disch := first | exact xD | fail) [-bind_some, qs, -Aa, -Ab]
  refine Af.bind (AN _ _ _ _) ?_
  rintro _ rfl
  cases hnm : (decide (0 ≤ num) && decide (num ≤ 2))
  ·simp (maxSteps := 1000000) (disch := first | exact xD | fail) [-bind_some, qs, -Aa, -Ab, qm]
   exact hQ _ (ok _ xE)
  have hnm' := hnm
  simp only [Bool.and_eq_true, decide_eq_true_eq] at hnm'
  cases hkn : ((k : Int) == num)
  case true =>
   simp (maxSteps := 1000000) (disch := first | exact xD | fail) [-bind_some, qs, -Aa, -Ab, qm, hkn]
   exact hQ _ (ok _ xE)
  by_cases h12 : st.net.length < 12
  ·simp (maxSteps := 1000000) (disch := first | exact xD | fail) [-bind_some, qs, -Aa, -Ab, hkn, hw1, show ¬ (12 : Int) ≤ st.net.length by omega, DJ, m3]
   refine Af.bind (AN _ _ _ _) ?_
   rintro _ rfl
   cases hky : (decide (0 ≤ key) && decide (key ≤ (p.log.length : Int) - 1))
   ·simp (maxSteps := 1000000) (disch := first | exact xD | fail) [-bind_some, qs, -Aa, -Ab, qm]
    exact hQ _ (ok _ xE)
   have hky' := hky
   simp only [Bool.and_eq_true, decide_eq_true_eq] at hky'
   obtain ⟨j, rfl⟩ := Int.eq_ofNat_of_zero_le hky'.1
   have hjl : j < p.log.length := by omega
   obtain ⟨v, hv, _⟩ := An hjl
   have hvp := hpf.2.2.1 v (List.mem_of_getElem? hv)
   obtain ⟨b1, o1, cs1, rfl, A1, D1, _, _⟩ := q2.at AD hv
   have D1' := D1
   obtain ⟨av, cv, rfl, _, _⟩ := D.Cq.1 D1'
   have t0 := A1 0 _ rfl
   have t1 := A1 1 _ rfl
   have t2 := A1 2 _ rfl
   have t3 := A1 3 _ rfl
   have t4 := A1 4 _ rfl
   have t5 := A1 5 _ rfl
   simp only [Co, Nat.add_zero] at t0 t1 t2 t3 t4 t5
   simp (maxSteps := 1000000) (disch := first | exact xD | fail) [-bind_some, qs, -Aa, -Ab, DJ, Ck, m3, t0, t1, t2, t3, t4, t5]
   refine Af.bind (Bf (D1.ext xE)) ?_
   rintro ⟨_, w1⟩ ⟨ds, rfl, o2, E1⟩
   try dsimp only at ds o2 E1
   have zE1 := E1.size
   try simp only [qz] at zE1
   have zo2 := O.Cq.1 o2
   obtain ⟨a5, c5, rfl, _, _⟩ := zo2
   simp only [Ak, World.size_alloc] at o2 zE1
   have F1 : Ext w w1 := xE
   have B0 : hp w1 w.heap.size = some (.cells #[.slice (some ⟨gp, 0, none⟩) st.places.length pc, .slice sa st.Ay.length sc, .slice na st.net.length nc, .slice ha st.AM.length hc] 67 (0, 0)) := (E1.Ai xB).trans (by first | assumption | rfl | (simp (maxSteps := 1000000) (disch := first | exact xD | fail) [-bind_some, qs, -Aa, -Ab]; done))
   have B1 : hp w1 (w.heap.size + 1) = some (.cells #[i64 kind, i64 k, i64 num, i64 j, .string text, .bool gone] 118 (0, 0)) := (E1.Ai xB).trans (by first | assumption | rfl | (simp (maxSteps := 1000000) (disch := first | exact xD | fail) [-bind_some, qs, -Aa, -Ab]; done))
   have B2 : hp w1 (w.heap.size + 1 + 1) = some (.cells #[.slice none 0 0, .slice none 0 0, .slice none 0 0, .slice none 0 0] 67 (0, 0)) := (E1.Ai xB).trans (by first | assumption | rfl | (simp (maxSteps := 1000000) (disch := first | exact xD | fail) [-bind_some, qs, -Aa, -Ab]; done))
   simp (maxSteps := 1000000) (disch := first | exact xD | fail) [-bind_some, qs, -Aa, -Ab, B0, B1]
   have of : O NN (In w.heap.size w1.heap.size) w1 [i64 k, i64 num, i64 j, i64 v.key, i64 v.tag.t, i64 v.tag.p, .slice a5 v.past.length c5, .string v.text, .bool v.gone] ⟨k, num, j, v⟩ := O.frame.2 ⟨_, rfl, o2.wide fun b hb _ => by simp only [In] at hb ⊢; omega⟩
   refine Af.bind (O.app (L := NN) (mx := 1466015503701) (S1 := In (w.heap.size + 1 + 1 + 1) w1.heap.size) (x := ⟨k, num, j, v⟩) (cs := [i64 k, i64 num, i64 j, i64 v.key, i64 v.tag.t, i64 v.tag.p, .slice a5 v.past.length c5, .string v.text, .bool v.gone]) OR Pv rfl AD (on.ext xE) (O.frame.2 ⟨_, rfl, (o2.Aj (fun b hb hbl => Ag hbl))⟩) (fun b hb h1 h2 => by have := (hS3 b h1).2; simp only [In] at h2; omega) (At.nw (by simp)) Ad AD AD) ?_
   rintro ⟨_, w2⟩ ⟨a7, c7, rfl, o7, M7⟩
   have zM7 := M7.size
   try simp only [qz] at zM7
   try dsimp only at o7 M7
   have zM7 := M7.size
   simp only [World.size_alloc] at zM7 o7
   have F2 : Ext w (w1.alloc (.cells #[i64 k, i64 num, i64 j, i64 v.key, i64 v.tag.t, i64 v.tag.p, .slice a5 v.past.length c5, .string v.text, .bool v.gone] 112)) := F1.al _
   have C0 := (M7.Ai w.heap.size xB (nS3 _ Ad)).trans ((Ag Ad).trans B0)
   have C2 := (M7.Ai (w.heap.size + 1 + 1) xB (nS3 _ Ad)).trans ((Ag Ad).trans B2)
   simp (maxSteps := 1000000) (disch := first | exact xD | fail) [-bind_some, qs, -Aa, -Ab, qm, C0, C2]
   have kk : ∀ b, b < w.heap.size → ¬ S3 b → hp ((w2.setRow w.heap.size #[.slice (some ⟨gp, 0, none⟩) st.places.length pc, .slice sa st.Ay.length sc, .slice a7 (st.net.length + 1) c7, .slice ha st.AM.length hc]).setRow (w.heap.size + 1 + 1) #[.slice (some ⟨gp, 0, none⟩) st.places.length pc, .slice sa st.Ay.length sc, .slice a7 (st.net.length + 1) c7, .slice ha st.AM.length hc]) b = hp w b := fun b hb hn => (Ac Ad).trans ((Ac Ad).trans ((M7.Ai b xB hn).trans ((Ag Ad).trans (F1.Ai hb))))
   refine hQ _ ⟨_, _, true, rfl, by simp, ?_, (put _ (.slice a7 (st.net.length + 1) c7) (st.net ++ [⟨k, num, j, v⟩]) (fun b => S3 b ∨ w.heap.size + 3 ≤ b) ((o7.Aj fun b hb hbl => ?_).wide ?_) (fun b hb _ hn => kk b hb hn) (fun b _ h => by rcases h with h | h; exact .inl h; exact .inr (fun hh => by omega))).wide ?_, ?_⟩
   ·refine B6.up (M := M) ⟨hf.1, hf.2.1, hf.2.2.1, hf.2.2.2.1, by simp; omega, fun f hf' => ?_, hf.2.2.2.2.2.2⟩ Ad
    rcases List.mem_append.1 hf' with h | h
    ·exact hf.2.2.2.2.2.1 f h
    ·rw [List.mem_singleton.1 h]
     exact ⟨by show (0 : Int) ≤ k; omega, by show (k : Int) ≤ 2; omega, hnm'.1, hnm'.2, hvp⟩
   ·have : b ≠ w.heap.size ∧ b ≠ w.heap.size + 1 + 1 := by
     rcases hb with h | h | h
     ·have := (hS3 b h).2; omega
     ·simp only [In] at h; omega
     ·omega
    rw [Ac this.2, Ac this.1]
   ·intro b hb hbl
    rcases hb with h | h | h
    ·exact .inl h
    ·simp only [In] at h; exact .inr Ad
    ·exact .inr Ad
   ·intro b hb hbl
    simp only [In, size_setRow] at hbl ⊢
    rcases hb with h | h | h
    ·exact .inl h.1
    ·exact .inl (hS3 b h).1.1
    ·exact .inr Ad
   ·exact ((Mod.Bd (Mod.of F2 S) M7 fun b _ h => (hS3 b h).1.1).AQ (.inl (Nat.le_refl _)) _).AQ (.inl Ad) _
  ·simp (maxSteps := 1000000) (disch := first | exact xD | fail) [-bind_some, qs, -Aa, -Ab, qm, hkn, show (12 : Int) ≤ st.net.length by omega]
   exact hQ _ (ok _ xE)
 have hw2 : IntKind.i64.wrap ((st.net.length : Int) - 1) = (st.net.length : Int) - 1 := HS Ad Ad
 simp (maxSteps := 1000000) (disch := first | exact xD | fail) [-bind_some, qs, -Aa, -Ab, h10, hw2]
 refine Af.bind (AN _ _ _ _) ?_
 rintro _ rfl
 cases hat : (decide (0 ≤ at') && decide (at' ≤ (st.net.length : Int) - 1))
 ·simp (maxSteps := 1000000) (disch := first | exact xD | fail) [-bind_some, qs, -Aa, -Ab, qm]
  exact hQ _ (ok _ xE)
 have hat' := hat
 simp only [Bool.and_eq_true, decide_eq_true_eq] at hat'
 obtain ⟨i, rfl⟩ := Int.eq_ofNat_of_zero_le hat'.1
 have hi : i < st.net.length := by omega
 obtain ⟨f, hfi, _⟩ := An hi
 have hff := hf.2.2.2.2.2.1 f (List.mem_of_getElem? hfi)
 obtain ⟨css, S1, S2, a9, c9, Sf, cx, b1, o1, L1, L2, d1, d2, sl1, sl2, A3, A4, dB, rfl, A1, of, dF⟩ := on.We AD OR hfi
 obtain ⟨ds, rfl, D2⟩ := D.frame.1 of.d
 have D2' := D2
 obtain ⟨av, cv, rfl, _, _⟩ := D.Cq.1 D2'
 have yb1 := A1.lt
 have t0 := A1 0 _ rfl
 have t1 := A1 1 _ rfl
 have t2 := A1 2 _ rfl
 have t3 := A1 3 _ rfl
 have t4 := A1 4 _ rfl
 have t5 := A1 5 _ rfl
 have t6 := A1 6 _ rfl
 have t7 := A1 7 _ rfl
 have t8 := A1 8 _ rfl
 simp only [Nat.add_zero] at t0 t1 t2 t3 t4 t5 t6 t7 t8
 simp only [Qi] at t0 t1 t2 t3 t4 t5 t6 t7 t8
 cases h13 : (kind != 13)
 ·simp (maxSteps := 1000000) (disch := first | exact xD | fail) [-bind_some, qs, -Aa, -Ab, qm, h13, Tv, t0, t1, t2, t3, t4, t5, t6, t7, t8]
  exact Af.mono (QN (M := M) (b6 := w.heap.size + 1 + 1 + 1) (kind := kind) (at' := i) (num := num) (key := key) (text := text) (gone := gone) (T := fun b => S b ∧ b < w.heap.size) (f := f) hf hM hff (ho.ext xE) (fun b h => .inl h) xM (D2.ext xE) xB ⟨xB, fun h => by omega⟩ xA xA xA xA (by first | assumption | rfl | (simp (maxSteps := 1000000) (disch := first | exact xD | fail) [-bind_some, qs, -Aa, -Ab]; done)) (by first | assumption | rfl | (simp (maxSteps := 1000000) (disch := first | exact xD | fail) [-bind_some, qs, -Aa, -Ab]; done)) (by first | assumption | rfl | (simp (maxSteps := 1000000) (disch := first | exact xD | fail) [-bind_some, qs, -Aa, -Ab]; done)) (by first | assumption | rfl | (simp (maxSteps := 1000000) (disch := first | exact xD | fail) [-bind_some, qs, -Aa, -Ab]; done))) hQ
 have sl2' : ∀ w', sl P 65 (.slice (some ⟨b1, o1, none⟩) st.net.length nc) (some (i64 ((i : Int) + 1))) none none w' = some (.slice a9 (st.net.length - (i + 1)) c9, w') := fun w' => by
  have := sl2 w'
  rwa [show ((i + 1 : Nat) : Int) = (i : Int) + 1 by omega] at this
 simp (maxSteps := 1000000) (disch := first | exact xD | fail) [-bind_some, qs, -Aa, -Ab, qm, h13, Tv, sl1, sl2', t0, t1, t2, t3, t4, t5, t6, t7, t8]
 refine Af.bind (O.QR (P := P) (L := NN) (mx := 1466015503701) (xs := []) (ys := st.net.take i) (ty := 65) OR Pv rfl AD (O.empty (L := NN) (mx := 1466015503701) (g := w.heap.size + 1 + 1 + 1 + 1) (by first | assumption | rfl | (simp (maxSteps := 1000000) (disch := first | exact xD | fail) [-bind_some, qs, -Aa, -Ab]; done))) (L1.Aj (by intro b hS hb; (try dsimp only at hS); (try simp only [In, qz] at hS hb); first | rfl | (simp (disch := first | exact xF | fail) only [qk]; done))) (fun b hb h1 h2 => by have := (d1 b h2).2.2; have h1 : b = w.heap.size + 1 + 1 + 1 + 1 := h1; omega) (A3.imp id fun ⟨b, o, h1, h2, h4⟩ => ⟨b, o, h1, h4.mono (Ext.Aj xE)⟩) (by rw [List.length_take]; omega) (by simp; omega) AD AD) ?_
 rintro ⟨_, w1⟩ ⟨a1, c1, rfl, o1', M1⟩
 have zM1 := M1.size
 try simp only [qz] at zM1
 try dsimp only at o1' M1
 have zM1 := M1.size
 simp only [World.size_alloc, Ak, size_setRow, List.length_nil, Nat.zero_add, List.nil_append] at zM1 o1'
 have htk : (st.net.take i).length = i := by rw [List.length_take]; omega
 have F1 : Ext w w1 := Mod.after xE M1 (fun b h1 h2 => by have h2 : b = w.heap.size + 1 + 1 + 1 + 1 := h2; omega)
 have Y0 : hp w1 w.heap.size = some (.cells #[.slice pa st.places.length pc, .slice sa st.Ay.length sc, .slice (some ⟨b1, o1, none⟩) st.net.length nc, .slice ha st.AM.length hc] 67 (0, 0)) := (M1.Ai _ xB Ad).trans (by first | assumption | rfl | (simp (maxSteps := 1000000) (disch := first | exact xD | fail) [-bind_some, qs, -Aa, -Ab]; done))
 have Y1 : hp w1 (w.heap.size + 1) = some (.cells #[i64 kind, i64 i, i64 num, i64 key, .string text, .bool gone] 118 (0, 0)) := (M1.Ai _ xB Ad).trans (by first | assumption | rfl | (simp (maxSteps := 1000000) (disch := first | exact xD | fail) [-bind_some, qs, -Aa, -Ab]; done))
 have Y2 : hp w1 (w.heap.size + 1 + 1) = some (.cells #[.slice none 0 0, .slice none 0 0, .slice none 0 0, .slice none 0 0] 67 (0, 0)) := (M1.Ai _ xB Ad).trans (by first | assumption | rfl | (simp (maxSteps := 1000000) (disch := first | exact xD | fail) [-bind_some, qs, -Aa, -Ab]; done))
 have Y3 : hp w1 (w.heap.size + 1 + 1 + 1) = some (.cells #[i64 f.src, i64 f.dst, i64 f.idx, i64 f.Cq.key, i64 f.Cq.tag.t, i64 f.Cq.tag.p, .slice av f.Cq.past.length cv, .string f.Cq.text, .bool f.Cq.gone] 112 (0, 0)) := (M1.Ai _ xB Ad).trans (by first | assumption | rfl | (simp (maxSteps := 1000000) (disch := first | exact xD | fail) [-bind_some, qs, -Aa, -Ab]; done))
 simp (maxSteps := 1000000) (disch := first | exact xD | fail) [-bind_some, -Aa, -Ab, Y0, Y1, List.length_nil, Nat.zero_add]
 refine Af.bind (O.QR (P := P) (L := NN) (mx := 1466015503701) (xs := st.net.take i) (ys := st.net.drop (i + 1)) (ty := 65) OR Pv rfl AD o1' (L2.Aj (fun b hS hb => F1.Ai hb)) (fun b hb h1 h2 => ?_) (A4.imp id fun ⟨b, o, h1, h2, h4⟩ => ⟨b, o, h1, h4.mono (Ext.Aj F1)⟩) (by rw [List.length_drop]) (by rw [htk]; omega) AD AD) ?_
 ·have q := d2 b h2
  rcases h1 with h | h | h
  ·have h : b = w.heap.size + 1 + 1 + 1 + 1 := h
   omega
  ·exact q.2.1 h
  ·omega
 rintro ⟨_, w2⟩ ⟨a3, c3, rfl, o3, M2⟩
 have zM2 := M2.size
 try simp only [] at zM2
 try dsimp only at o3 M2
 have zM2 := M2.size
 obtain ⟨ms, hms⟩ : ∃ ms, ms = st.net.take i ++ st.net.drop (i + 1) := ⟨_, rfl⟩
 have hml : ms.length = st.net.length - 1 := by rw [hms, List.length_append, htk, List.length_drop]; omega
 have hmf : ∀ x ∈ ms, VT x := by
  intro x hx
  rw [hms, List.mem_append] at hx
  rcases hx with h | h
  ·exact hf.2.2.2.2.2.1 x (List.mem_of_mem_take h)
  ·exact hf.2.2.2.2.2.1 x (List.mem_of_mem_drop h)
 rw [htk, ← hms, show i + (st.net.length - (i + 1)) = ms.length by omega] at o3
 rw [htk, show i + (st.net.length - (i + 1)) = ms.length by omega]
 have hS4 : ∀ b, ((b = w.heap.size + 1 + 1 + 1 + 1 ∨ S1 b ∨ w.heap.size + 1 + 1 + 1 + 1 + 1 ≤ b ∧ b < w1.heap.size) ∨ S2 b ∨ w1.heap.size ≤ b ∧ b < w2.heap.size) → (S3 b ∧ b < w.heap.size ∧ ¬ Sf b) ∨ (w.heap.size + 1 + 1 + 1 + 1 ≤ b ∧ b < w2.heap.size) := by
  rintro b ((h | h | h) | h | h)
  ·exact .inr Ad
  ·exact .inl ⟨(d1 b h).1, (d1 b h).2.2, fun hh => (dF b hh).2.1 h⟩
  ·exact .inr Ad
  ·exact .inl ⟨(d2 b h).1, (d2 b h).2.2, fun hh => (dF b hh).2.2.1 h⟩
  ·exact .inr Ad
 have nM : ∀ b, w.heap.size ≤ b → b < w.heap.size + 4 → ¬ (b = w.heap.size + 1 + 1 + 1 + 1 ∨ S1 b ∨ w.heap.size + 1 + 1 + 1 + 1 + 1 ≤ b ∧ b < w1.heap.size) := fun b h1 h2 h => by have := hS4 _ (.inl h); omega
 have Z0 := (M2.Ai w.heap.size Ad (nM _ Ad Ad)).trans Y0
 have Z1 := (M2.Ai (w.heap.size + 1) Ad (nM _ Ad Ad)).trans Y1
 have Z2 := (M2.Ai (w.heap.size + 1 + 1) Ad (nM _ Ad Ad)).trans Y2
 have Z3 := (M2.Ai (w.heap.size + 1 + 1 + 1) Ad (nM _ Ad Ad)).trans Y3
 have N2 : Mod S w w2 := Mod.Bd (Mod.of F1 S) M2 (fun b hb h => by rcases hS4 _ (.inl h) with q | q; exact (hS3 b q.1).1.1; omega)
 simp (maxSteps := 1000000) (disch := first | exact xD | fail) [-bind_some, -Aa, -Ab, qm, Z0]
 have kk : ∀ b, b < w.heap.size → (¬ S3 b ∨ Sf b) → hp (w2.setRow w.heap.size #[.slice pa st.places.length pc, .slice sa st.Ay.length sc, .slice a3 ms.length c3, .slice ha st.AM.length hc]) b = hp w b := fun b hb hn => (Ac Ad).trans ((M2.Ai b Ad (fun h => by rcases hS4 _ (.inl h) with q | q; rcases hn with hn | hn; exact hn q.1; exact q.2.2 hn; omega)).trans (F1.Ai hb))
 have oN := (put (w2.setRow w.heap.size #[.slice pa st.places.length pc, .slice sa st.Ay.length sc, .slice a3 ms.length c3, .slice ha st.AM.length hc]) (.slice a3 ms.length c3) ms (fun b => S3 b ∨ w.heap.size + 4 ≤ b) ((o3.Aj fun b hb hbl => Ac (by rcases hS4 b hb with h | h <;> omega)).wide fun b hb _ => by rcases hS4 b hb with h | h; exact .inl h.1; exact .inr Ad) (fun b hb _ hn => kk b hb (.inl hn)) (fun b _ h => by rcases h with h | h; exact .inl h; exact .inr (fun hh => by omega))).wide (S' := fun b => (S b ∧ b < w.heap.size) ∨ w.heap.size + 4 ≤ b) (fun b h _ => by rcases h with h | h | h; exact .inl h; exact .inl ⟨(hS3 b h).1.1, (hS3 b h).2⟩; exact .inr h)
 have fN : B6 M { st with net := ms } := ⟨hf.1, hf.2.1, hf.2.2.1, hf.2.2.2.1, by show ms.length ≤ 12; omega, hmf, hf.2.2.2.2.2.2⟩
 exact Af.mono (QN (M := M) (b6 := w.heap.size + 1 + 1 + 1) (kind := kind) (at' := i) (num := num) (key := key) (text := text) (gone := gone) (cs1 := [.slice pa st.places.length pc, .slice sa st.Ay.length sc, .slice a3 ms.length c3, .slice ha st.AM.length hc]) (T := fun b => (S b ∧ b < w.heap.size) ∨ w.heap.size + 4 ≤ b) (Sf := Sf) (f := f) (w := w) fN hM hff oN (fun b h => h) (N2.AQ (.inl (Nat.le_refl _)) _) (D2.Aj fun b hb hbl => kk b hbl (.inr hb)) (by simp only [size_setRow]; omega) ⟨by simp only [size_setRow]; omega, fun h => by omega⟩ xA xA xA xA (by first | assumption | rfl | (simp (maxSteps := 1000000) (disch := first | exact xD | fail) [-bind_some, -Aa, -Ab, Z0]; done)) ((Ac Ad).trans Z1) ((Ac Ad).trans Z2) ((Ac Ad).trans Z3)) hQ
end Go.Proofs.YtkhbpmhagpljiaaGreatDoor.X
namespace Go.Proofs.YtkhbpmhagpljiaaGreatDoor.X
open Go Go.Ev Go.RowKit
open Option (bind_some)
attribute [local irreducible] World.alloc World.setRow Go.Ev.dw
theorem Rs {M : Nat} {kind at' num key : Int} {text : ByteArray} {gone : Bool} {S : Nat → Prop} {cs : List Value} {st : WorldD} {w : World} (hf : B6 M st) (hM : M ≤ 900000) (htx : text.size ≤ 1000) (ho : O tW S w cs st) :
  Af (EV P 68 #[.agg cs.toArray, .agg #[i64 kind, i64 at', i64 num, i64 key, .string text, .bool gone]] w) (Step M S w cs) := by
 have ho0 := ho
 have ho := ho.lt
 obtain ⟨pa, pn, pc, sa, sn, sc, na, nn, nc, ha, hn, hc, rfl⟩ := ho.Cv
 refine Af.post fun Q hQ => ?_
 refine Bw (Ps _ _ _) ?_
 simp (disch := first | exact xD | fail) [-bind_some, qs, -Aa, -Ab]
 refine Af.bind (AN _ _ _ _) ?_
 rintro _ rfl
 cases h1 : (decide (1 ≤ kind) && decide (kind ≤ 5))
 case true =>
  simp (disch := first | exact xD | fail) [-bind_some, qs, -Aa, -Ab]
  refine Af.bind (QX hf hM htx (ho.ext xE)) ?_
  rintro ⟨_, w3⟩ h3
  obtain ⟨u1, n1, c1, u2, n2, c2, u3, n3, c3, u4, n4, c4, q, rfl, hg, hS⟩ := h3.out (g := w.heap.size + 1 + 1) xE Ad xB
  have hg' := hg.trans (by first | assumption | rfl | (simp (disch := first | exact xD | fail) [-bind_some, qs, -Aa, -Ab, qm, hg]; done))
  simp (disch := first | exact xD | fail) [-bind_some, qs, -Aa, -Ab, qm, hg']
  exact hQ _ hS
 simp (disch := first | exact xD | fail) [-bind_some, qs, -Aa, -Ab]
 refine Af.bind (AN _ _ _ _) ?_
 rintro _ rfl
 cases h2 : (decide (6 ≤ kind) && decide (kind ≤ 9))
 case true =>
  simp (disch := first | exact xD | fail) [-bind_some, qs, -Aa, -Ab]
  refine Af.bind (S6 hf hM (ho.ext xE)) ?_
  rintro ⟨_, w3⟩ h3
  obtain ⟨u1, n1, c1, u2, n2, c2, u3, n3, c3, u4, n4, c4, q, rfl, hg, hS⟩ := h3.out (g := w.heap.size + 1 + 1) xE Ad xB
  have hg' := hg.trans (by first | assumption | rfl | (simp (disch := first | exact xD | fail) [-bind_some, qs, -Aa, -Ab, qm, hg]; done))
  simp (disch := first | exact xD | fail) [-bind_some, qs, -Aa, -Ab, qm, hg']
  exact hQ _ hS
 simp (disch := first | exact xD | fail) [-bind_some, qs, -Aa, -Ab]
 refine Af.bind (AN _ _ _ _) ?_
 rintro _ rfl
 cases h3 : (decide (10 ≤ kind) && decide (kind ≤ 13))
 case true =>
  simp (disch := first | exact xD | fail) [-bind_some, qs, -Aa, -Ab]
  refine Af.bind (Vp hf hM (ho.ext xE)) ?_
  rintro ⟨_, w3⟩ h3
  obtain ⟨u1, n1, c1, u2, n2, c2, u3, n3, c3, u4, n4, c4, q, rfl, hg, hS⟩ := h3.out (g := w.heap.size + 1 + 1) xE Ad xB
  have hg' := hg.trans (by first | assumption | rfl | (simp (disch := first | exact xD | fail) [-bind_some, qs, -Aa, -Ab, qm, hg]; done))
  simp (disch := first | exact xD | fail) [-bind_some, qs, -Aa, -Ab, qm, hg']
  exact hQ _ hS
 simp (disch := first | exact xD | fail) [-bind_some, qs, -Aa, -Ab, qm]
 exact hQ _ (Step.fail hf ho0 xE)
end Go.Proofs.YtkhbpmhagpljiaaGreatDoor.X
namespace Go.Proofs.YtkhbpmhagpljiaaGreatDoor.X
open Go Go.Ev Go.RowKit
open Option (bind_some)
def Pd (me nodes : Int) : PlaceD := ⟨me, 0, BU nodes, [], List.replicate 3 [], false⟩
theorem Uo {me : Int} {m : Nat} (h : m < 4) : DA 0 (Pd me (1 + (m : Int))) :=
 ⟨TT h, by show ([] : List Ver).length ≤ 0; simp, fun v hv => by simp [Pd] at hv, by show (List.replicate 3 ([] : List Ver)).length = 3; simp, fun l hl => by
  obtain rfl := List.eq_of_mem_replicate hl
  exact ⟨by simp, fun v hv => by simp at hv⟩⟩
theorem Vq {me nodes : Int} {g : Nat} {e : Env} {w : World} (e0 : e 0 = i64 me) (e1 : e 1 = i64 nodes) (e4 : e 4 = pt g 0) (X1 : hp w g = some (.cells #[i64 0, i64 0, .slice none 0 0, .slice none 0 0, .slice none 0 0, .bool false] 102 (0, 0))) :
  Af (GU e w) fun r => ∃ ds, r.1 = .agg ds.toArray ∧ O Kp (In w.heap.size r.2.heap.size) r.2 ds (Pd me nodes) ∧ Mod (fun b => b = g) w r.2 := by
 have y1 := Aq X1
 unfold Pd
 refine Af.post fun Q hQ => ?_
 refine JT _ _ ?_
 simp (disch := first | exact xD | fail) [-bind_some, -Aa, -Ab, e0, e1, e4]
 constructor
 ·skip
  refine Af.mono (HO nodes) ?_
  rintro ⟨_, w1⟩ ⟨a1, c1, rfl, o1, E1⟩
  try dsimp only at a1 c1 o1 E1
  have zE1 := E1.size
  try simp only [qz] at zE1
  simp (disch := first | exact xD | fail) [-bind_some, -Aa, -Ab]
  refine Af.mono (O.make (L := AW) (mx := 5864062014805) (n := 3) (x0 := ([] : List Ver)) Pu TA rfl AD (fun w => O.nil) AD AD AD) ?_
  rintro ⟨_, w2⟩ ⟨rfl, o2, z2, E2⟩
  have zE2 := E2.size
  try simp only [] at zE2
  try dsimp only at o2 z2 E2
  have Y1 : hp w2 g = hp w g := (E2.Ai Ad).trans ((E1.Ai (by simp only [Ak]; omega)).trans (BW _ _))
  simp (disch := first | exact xD | fail) [-bind_some, qs, -Aa, -Ab, qm, e4, Y1, X1, Hh]
  refine hQ _ ⟨[_, _, _, _, _, _], rfl, ((O.Fi (p := ⟨me, 0, BU nodes, [], List.replicate 3 [], false⟩) (S2 := fun _ => False) (o1.Aj (fun b hS hb => (Ac (by simp only [In, Ak] at hS; omega)).trans (E2.Ai hb))) O.nil (o2.Aj (fun b hS hb => Ac (by (try simp only [Ak] at *); omega))) (fun _ _ _ h => h) (fun b _ h h' => by simp only [In] at h; omega) (fun _ _ h => h.elim))).wide ?_, (Mod.of (show Ext w w2 from ((Cn w).tr E1).tr E2) (fun b => b = g)).AQ (.inr rfl) _⟩
  rintro b (h | h | h) hb
  ·simp only [In, size_setRow, Ak] at *
   omega
  ·exact h.elim
  ·simp only [In, size_setRow, Ak] at *
   omega
 ·skip
  refine Af.mono (O.make (L := AW) (mx := 5864062014805) (n := 3) (x0 := ([] : List Ver)) Pu TA rfl AD (fun w => O.nil) AD AD AD) ?_
  rintro ⟨_, w2⟩ ⟨rfl, o2, z2, E2⟩
  have zE2 := E2.size
  try simp only [qz] at zE2
  try dsimp only at o2 z2 E2
  rw [Ak] at z2
  simp (disch := first | exact xD | fail) [-bind_some, -Aa, -Ab]
  refine Af.mono (HO nodes) ?_
  rintro ⟨_, w1⟩ ⟨a1, c1, rfl, o1, E1⟩
  try dsimp only at a1 c1 o1 E1
  have zE1 := E1.size
  try simp only [qz] at zE1
  have Y1 : hp w1 g = hp w g := (E1.Ai Ad).trans ((E2.Ai (by simp only [Ak]; omega)).trans (BW _ _))
  have zE1' := E1.size
  simp (disch := first | exact xD | fail) [-bind_some, qs, -Aa, -Ab, qm, e4, Y1, X1, Hh]
  refine hQ _ ⟨[_, _, _, _, _, _], rfl, ((O.Fi (p := ⟨me, 0, BU nodes, [], List.replicate 3 [], false⟩) (S2 := fun _ => False) (o1.Aj (fun b hS hb => Ac (by simp only [In] at hS; omega))) O.nil (o2.Aj (fun b hS hb => (Ac (by rw [Ak] at hS; omega)).trans (E1.Ai hb))) (fun _ _ _ h => h) (fun b _ h h' => by rw [Ak] at h'; simp only [In] at h; omega) (fun _ _ h => h.elim))).wide ?_, (Mod.of (show Ext w w1 from (Cn w).tr (E2.tr E1)) (fun b => b = g)).AQ (.inr rfl) _⟩
  rintro b (h | h | h) hb
  ·simp only [In, size_setRow, Ak] at *
   omega
  ·exact h.elim
  ·simp only [In, size_setRow, Ak] at *
   omega
theorem Vr (me nodes : Int) {w : World} : Af (EV P 88 #[i64 me, i64 nodes] w) fun r => ∃ ds, r.1 = .agg ds.toArray ∧ O Kp (In w.heap.size r.2.heap.size) r.2 ds (Pd me nodes) ∧ Ext w r.2 := by
 refine Af.post fun Q hQ => ?_
 refine Bw (Og _ _ _) ?_
 simp (disch := first | exact xD | fail) [-bind_some, -Aa, -Ab]
 refine Af.mono (Vq (g := w.heap.size) rfl rfl rfl (by first | assumption | rfl | (simp (disch := first | exact xD | fail) [-bind_some, qs, -Aa, -Ab]; done))) ?_
 rintro r ⟨ds, h1, h2, h3⟩
 exact hQ _ ⟨ds, h1, h2.wide (fun b h _ => by simp only [In, World.size_alloc] at h; simp only [In]; omega), Mod.after xE h3 (fun b h1 h2 => by have h2 : b = w.heap.size := h2; omega)⟩
attribute [local irreducible] World.alloc World.setRow Go.Ev.dw
theorem Vs {g4 g5 sN c pn : Nat} {a : Option Addr} {T1 : Nat → Prop} {ps : List PlaceD} {w0 w1 : World} (hg4 : w0.heap.size ≤ g4) (hg5 : w0.heap.size ≤ g5) (h45 : g4 ≠ g5) (hg4' : g4 < w1.heap.size) (hg5' : g5 < w1.heap.size) (hps : ps.length = 3) (hpf : ∀ p ∈ ps, DA 0 p) (hsN : sN ≤ 4) (E01 : Ext w0 w1)
  (op : O (Gz 39 110 159 99 102) T1 w1 [.slice a 3 c] ps) (hT1 : ∀ b, T1 b → w0.heap.size ≤ b ∧ b < w1.heap.size ∧ b ≠ g4 ∧ b ≠ g5) :
  ∀ (d k : Nat) (e : Env) (W : World) (a1 : Option Addr) (c1 : Nat) (ss : List SessD), k + d = sN → e 1 = i64 sN → e 4 = pt g4 0 → e 5 = pt g5 0 → e 7 = i64 k → hp W g5 = some (.cells #[.slice a 3 c, .slice a1 k c1, .slice none 0 0, .slice none 0 0] 67 (0, 0)) → hp W g4 = some (.cells #[.slice none 0 0, .slice none 0 0, .slice none 0 0, .slice none 0 0] 67 (0, 0)) →
   ss.length = k → (∀ s ∈ ss, VS s) → O (JA 39 108) (In w1.heap.size W.heap.size) W [.slice a1 k c1] ss → (∀ b, T1 b → hp W b = hp w1 b) → Ext w0 W → w1.heap.size ≤ W.heap.size →
   Af (EM e W) fun r => ∃ (cs : List Value) (st : WorldD), r.1 = .agg cs.toArray ∧ B6 0 st ∧ O tW (In w0.heap.size r.2.heap.size) r.2 cs st ∧ Ext w0 r.2 := by
 intro d
 induction d with
 | zero =>
  intro k e W a1 c1 ss hd e1 e4 e5 e7 X5 X4 hss hsf os hk E0 hz
  have zE0 := E0.size
  try simp only [qz] at zE0
  rw [Hf]
  obtain rfl : k = sN := by omega
  refine Af.post fun Q hQ => ?_
  simp (disch := first | exact xD | fail) [-bind_some, -Aa, -Ab, qm, e1, e4, e5, e7, X4, X5]
  have Pt : UL W ⟨ps, ss, [], []⟩ (.slice a 3 c) (.slice a1 k c1) (.slice none 0 0) (.slice none 0 0) T1 (In w1.heap.size W.heap.size) (fun _ => False) (fun _ => False) :=
   ⟨op.Aj fun b hb _ => hk b hb, os, O.nil, O.nil, fun b _ h h' => by have := hT1 b h; simp only [In] at h'; omega, fun _ _ _ h => h, fun _ _ _ h => h, fun _ _ _ h => h, fun _ _ _ h => h, fun _ _ _ h => h⟩
  refine hQ _ ⟨_, _, rfl, ⟨hps, hpf, by show ss.length ≤ 4; omega, hsf, by show ([] : List FrameD).length ≤ 12; simp, fun f h => by simp at h, by show ([] : List Done).length ≤ 80; simp⟩, (Pt.mk'.Aj fun b hb hbl => Ac ?_).wide ?_, E0.set hg4 _⟩
  ·rcases hb with h | h | h | h
   ·exact (hT1 b h).2.2.1
   ·simp only [In] at h; omega
   ·exact h.elim
   ·exact h.elim
  ·intro b hb hbl
   simp only [In, size_setRow] at hb hbl ⊢
   rcases hb with h | h | h | h
   ·have := hT1 b h; omega
   ·omega
   ·exact h.elim
   ·exact h.elim
 | succ d ih =>
  intro k e W a1 c1 ss hd e1 e4 e5 e7 X5 X4 hss hsf os hk E0 hz
  have zE0 := E0.size
  try simp only [qz] at zE0
  rw [Hf]
  have hk4 : k < 4 := by omega
  have hkN : k < sN := by omega
  have hr : ((k : Int) % 3) = ((k % 3 : Nat) : Int) := by omega
  have hrt : (k : Int).tmod 3 = ((k % 3 : Nat) : Int) := by rw [Int.tmod_eq_emod_of_nonneg Ad]; omega
  have y5 := Aq X5
  have y4 := Aq X4
  refine Af.post fun Q hQ => ?_
  simp (disch := first | exact xD | fail) [-bind_some, qs, -Aa, -Ab, e1, e5, e7, X5, show (k : Int) < sN by omega, KZ, hrt]
  refine Af.bind (OB) ?_
  rintro ⟨_, w2⟩ ⟨a7, c7, rfl, o7, E1⟩
  try dsimp only at a7 c7 o7 E1
  have zE1 := E1.size
  try simp only [qz] at zE1
  simp only [Ak] at zE1 o7
  have F1 : Ext W w2 := xE
  have N5 := (F1.Ai y5).trans X5
  have N4 := (F1.Ai y4).trans X4
  simp (disch := first | exact xD | fail) [-bind_some, qs, -Aa, -Ab, N5]
  refine Af.bind (O.app (L := Xa) (mx := 2513169434916) (S1 := In W.heap.size w2.heap.size) (x := ⟨(k : Int) % 3, List.replicate 4 ⟨0, 0⟩, ⟨0, 0⟩, 0⟩) (cs := [i64 ((k : Int) % 3), .slice a7 4 c7, i64 0, i64 0, i64 0]) Tu Ty rfl AD (os.ext (F1.al _)) (O.Ay.2 ⟨a7, c7, rfl, o7.Aj fun b hb hbl => Ag hbl⟩) (fun b hb h1 h2 => by simp only [In] at h1 h2; omega) (At.nw rfl) Ad AD AD) ?_
  rintro ⟨_, w3⟩ ⟨a8, c8, rfl, o8, M8⟩
  have zM8 := M8.size
  try simp only [qz] at zM8
  try dsimp only at o8 M8
  have zM8 := M8.size
  simp only [World.size_alloc] at zM8 o8
  have nI : ∀ b, b < w1.heap.size → ¬ In w1.heap.size W.heap.size b := fun b h h' => by simp only [In] at h'; omega
  have L5 := (M8.Ai g5 xB (nI _ hg5')).trans ((Ag Ad).trans N5)
  have L4 := (M8.Ai g4 xB (nI _ hg4')).trans ((Ag Ad).trans N4)
  have F3 : Ext w0 w3 := Mod.after (E0.tr (F1.al _)) M8 (fun b h1 h2 => by have := E01.size; simp only [In] at h2; omega)
  rw [hss] at o8
  rw [hss]
  simp (disch := first | exact xD | fail) [-bind_some, -Aa, -Ab, qm, L5]
  refine Af.mono (ih (k + 1) _ _ a8 c8 (ss ++ [⟨(k : Int) % 3, List.replicate 4 ⟨0, 0⟩, ⟨0, 0⟩, 0⟩]) Ad xA xA xA xA (by first | assumption | rfl | (simp (disch := first | exact xD | fail) [-bind_some, -Aa, -Ab, L5]; done)) ((Ac h45).trans L4) (by simp; omega) ?_ ((o8.Aj fun b hb hbl => Ac ?_).wide ?_) (fun b hb => (Ac (hT1 b hb).2.2.2).trans ((M8.Ai b (by have := (hT1 b hb).2.1; simp only [World.size_alloc]; omega) (nI _ (hT1 b hb).2.1)).trans ((Ag (by have := (hT1 b hb).2.1; omega)).trans ((F1.Ai (by have := (hT1 b hb).2.1; omega)).trans (hk b hb))))) (F3.set hg5 _) (by simp only [size_setRow]; omega)) hQ
  ·intro s hs
   rcases List.mem_append.1 hs with h | h
   ·exact hsf s h
   ·rw [List.mem_singleton.1 h]
    exact ⟨by show (0 : Int) ≤ (k : Int) % 3; omega, by show (k : Int) % 3 ≤ 2; omega, by simp, Int.le_refl 0, by show (0 : Int) ≤ 3; decide⟩
  ·rcases hb with h | h | h
   ·simp only [In] at h; omega
   ·simp only [In] at h; omega
   ·omega
  ·intro b hb hbl
   simp only [In, size_setRow] at hb hbl ⊢
   omega
theorem Vt {g4 g5 sN m : Nat} {w0 : World} (hg4 : w0.heap.size ≤ g4) (hg5 : w0.heap.size ≤ g5) (h45 : g4 < g5) (hm : m < 4) (hsN : sN ≤ 4) :
  ∀ (d k : Nat) (e : Env) (W : World) (a : Option Addr) (c : Nat) (ps : List PlaceD), k + d = 3 → e 0 = i64 (1 + (m : Int)) → e 1 = i64 sN → e 4 = pt g4 0 → e 5 = pt g5 0 → e 6 = i64 k → hp W g5 = some (.cells #[.slice a k c, .slice none 0 0, .slice none 0 0, .slice none 0 0] 67 (0, 0)) → hp W g4 = some (.cells #[.slice none 0 0, .slice none 0 0, .slice none 0 0, .slice none 0 0] 67 (0, 0)) →
   ps.length = k → (∀ p ∈ ps, DA 0 p) → O (Gz 39 110 159 99 102) (In (g5 + 1) W.heap.size) W [.slice a k c] ps → Ext w0 W →
   Af (EL e W) fun r => ∃ (cs : List Value) (st : WorldD), r.1 = .agg cs.toArray ∧ B6 0 st ∧ O tW (In w0.heap.size r.2.heap.size) r.2 cs st ∧ Ext w0 r.2 := by
 intro d
 induction d with
 | zero =>
  intro k e W a c ps hd e0 e1 e4 e5 e6 X5 X4 hps hpf op E0
  have zE0 := E0.size
  try simp only [qz] at zE0
  rw [He]
  obtain rfl : k = 3 := by omega
  have y5 := Aq X5
  have y4 := Aq X4
  refine Af.post fun Q hQ => ?_
  simp (disch := first | exact xD | fail) [-bind_some, -Aa, -Ab, e6]
  exact Af.mono (Vs (g4 := g4) (g5 := g5) (pn := 0) (T1 := In (g5 + 1) W.heap.size) hg4 hg5 Ad y4 y5 hps hpf hsN E0 op (fun b h => by simp only [In] at h; omega) sN 0 _ W none 0 [] Ad xA xA xA rfl X5 X4 rfl (fun s h => by simp at h) O.nil (fun b _ => rfl) E0 (Nat.le_refl _)) hQ
 | succ d ih =>
  intro k e W a c ps hd e0 e1 e4 e5 e6 X5 X4 hps hpf op E0
  have zE0 := E0.size
  try simp only [qz] at zE0
  rw [He]
  have hk3 : k < 3 := by omega
  have y5 := Aq X5
  have y4 := Aq X4
  refine Af.post fun Q hQ => ?_
  simp (disch := first | exact xD | fail) [-bind_some, qs, -Aa, -Ab, e0, e5, e6, X5, show (k : Int) < 3 by omega]
  refine Af.bind (Vr (k : Int) (1 + (m : Int))) ?_
  rintro ⟨_, w2⟩ ⟨ds, rfl, o7, E1⟩
  try dsimp only at ds o7 E1
  have zE1 := E1.size
  try simp only [qz] at zE1
  simp only [Ak] at zE1 o7
  have o7' := o7.d
  obtain ⟨ad, cd, ae, ce, af, cf, rfl, _, _, _⟩ := D.place.1 o7'
  have F1 : Ext W w2 := xE
  have N5 := (F1.Ai y5).trans X5
  have N4 := (F1.Ai y4).trans X4
  generalize hnp : Pd (k : Int) (1 + (m : Int)) = np at *
  simp (disch := first | exact xD | fail) [-bind_some, qs, -Aa, -Ab, N5]
  refine Af.bind (O.app (L := Kp) (mx := 1466015503701) (S1 := In W.heap.size w2.heap.size) (x := np) (cs := [i64 np.me, i64 np.clock, .slice ad np.chain.length cd, .slice ae np.log.length ce, .slice af np.BQ.length cf, .bool np.fell]) Tt Tx rfl AD (op.ext (F1.al _)) (o7.Aj fun b hb hbl => Ag hbl) (fun b hb h1 h2 => by simp only [In] at h1 h2; omega) (At.nw rfl) Ad AD AD) ?_
  rintro ⟨_, w3⟩ ⟨a8, c8, rfl, o8, M8⟩
  have zM8 := M8.size
  try simp only [qz] at zM8
  try dsimp only at o8 M8
  have zM8 := M8.size
  simp only [World.size_alloc] at zM8 o8
  have nI : ∀ b, b < g5 + 1 → ¬ In (g5 + 1) W.heap.size b := fun b h h' => by simp only [In] at h'; omega
  have L5 := (M8.Ai g5 xB (nI _ Ad)).trans ((Ag Ad).trans N5)
  have L4 := (M8.Ai g4 xB (nI _ Ad)).trans ((Ag Ad).trans N4)
  have F3 : Ext w0 w3 := Mod.after (E0.tr (F1.al _)) M8 (fun b h1 h2 => by simp only [In] at h2; omega)
  rw [hps] at o8
  rw [hps]
  simp (disch := first | exact xD | fail) [-bind_some, -Aa, -Ab, qm, L5]
  refine Af.mono (ih (k + 1) _ _ a8 c8 (ps ++ [np]) Ad xA xA xA xA xA (by first | assumption | rfl | (simp (disch := first | exact xD | fail) [-bind_some, -Aa, -Ab, L5]; done)) ((Ac Ad).trans L4) (by simp; omega) ?_ ((o8.Aj fun b hb hbl => Ac ?_).wide ?_) (F3.set hg5 _)) hQ
  ·intro s hs
   rcases List.mem_append.1 hs with h | h
   ·exact hpf s h
   ·rw [List.mem_singleton.1 h, ← hnp]
    exact Uo hm
  ·rcases hb with h | h | h
   ·simp only [In] at h; omega
   ·simp only [In] at h; omega
   ·omega
  ·intro b hb hbl
   simp only [In, size_setRow] at hb hbl ⊢
   omega
theorem R7 {m sN : Nat} (hm : m < 4) (hsN : sN ≤ 4) {w : World} :
  Af (EV P 67 #[i64 (1 + (m : Int)), i64 sN] w) fun r => ∃ (cs : List Value) (st : WorldD), r.1 = .agg cs.toArray ∧ B6 0 st ∧ O tW (In w.heap.size r.2.heap.size) r.2 cs st ∧ Ext w r.2 := by
 refine Af.post fun Q hQ => ?_
 refine Bw (Oa _ _ _) ?_
 simp (disch := first | exact xD | fail) [-bind_some, qs, -Aa, -Ab, qm]
 exact Af.mono (Vt (g4 := w.heap.size) (g5 := w.heap.size + 1) (w0 := w) (Nat.le_refl _) Ad Ad hm hsN 3 0 _ _ none 0 [] Ad xA xA xA xA xA (by first | assumption | rfl | (simp (disch := first | exact xD | fail) [-bind_some, qs, -Aa, -Ab]; done)) (by first | assumption | rfl | (simp (disch := first | exact xD | fail) [-bind_some, qs, -Aa, -Ab]; done)) rfl (fun p h => by simp at h) O.nil xE) hQ
end Go.Proofs.YtkhbpmhagpljiaaGreatDoor.X
namespace Go.Proofs.YtkhbpmhagpljiaaGreatDoor.X
open Go Go.Ev Go.RowKit
open Option (bind_some)
attribute [local irreducible] World.alloc World.setRow Go.Ev.dw
def Cw (w0 : World) (B g p : Nat) (r : Value × World) : Prop := ∃ (kind at' num key : Int) (text : ByteArray) (gone : Bool) (p' : Nat), r.1 = .agg #[i64 kind, i64 at', i64 num, i64 key, .string text, .bool gone] ∧ text.size ≤ 1000 ∧ p' ≤ p + 10 ∧ R r.2 B g p' ∧ Mod (fun b => b = g) w0 r.2
theorem Cw.fin {w0 w : World} {B g p0 p' b4 : Nat} {kind at' num key : Int} {text : ByteArray} {gone : Bool} {z : Array Value} (hz : w0.heap.size ≤ w.heap.size) (hb4 : w0.heap.size ≤ b4) (hg0 : g < w0.heap.size) (htx : text.size ≤ 1000) (hp' : p' ≤ p0 + 10) (hR : R w B g p') (hN : Mod (fun b => b = g) w0 w) : Cw w0 B g p0 (.agg #[i64 kind, i64 at', i64 num, i64 key, .string text, .bool gone], w.setRow b4 z) :=
 ⟨kind, at', num, key, text, gone, p', rfl, htx, hp', hR.Aj (fun b h _ => Ac (by have := hR.lt; rcases h with h | h <;> omega)), hN.AQ (.inl hb4) _⟩
theorem Up : ∀ n ∈ PD, n.size ≤ 1000 := by decide
theorem IB {w0 w : World} {B g p b3 b4 m a : Nat} {q : Bool} {T : Nat → Prop} {cs : List Value} {st : WorldD} {e : Env} (hst : st.places.length = 3) (hgot : ∀ p ∈ st.places, p.BQ.length = 3) (ho : D tW T w0 cs st) (hT : ∀ b, T b → b ≠ g) (hp0 : p ≤ 800000000000) (ha3 : a < 3) (hb3 : w0.heap.size ≤ b3) (hb4 : w0.heap.size ≤ b4) (h34 : b3 ≠ b4) (hg0 : g < w0.heap.size)
  (R0 : R w B g p) (N0 : Mod (fun b => b = g) w0 w) (e0 : e 0 = pt g 0) (e3 : e 3 = pt b3 0) (e4 : e 4 = pt b4 0) (e5 : e 5 = i64 a) (e10 : e 10 = i64 m) (V3_0 : hp w b3 = some (.cells cs.toArray 67 (0, 0))) (V4_0 : hp w b4 = some (.cells #[i64 0, i64 0, i64 0, i64 0, .string ⟨#[]⟩, .bool false] 118 (0, 0))) (e82 : e 82 = .bool q) : Af (CW e w) (Cw w0 B g p) := by
 rw [IX]
 refine Af.post fun Q hQ => ?_
 cases q
 ·simp (disch := first | exact xD | fail) [-bind_some, -Aa, -Ab, e0, e4, e82]
  refine Af.bind (BG (ints := [11, 11, 11, 12, 13, 0, 14]) (k := 7) Ad Ad Ad rfl (At.nw rfl) (by have := N0.size; omega) (R0.ext xE)) ?_
  rintro ⟨_, w1⟩ ⟨m1, hm1, rfl, R1, K1⟩
  try dsimp only at R1 K1
  have zK1 := K1.size
  try simp only [World.size_alloc] at zK1
  have N1 : Mod (fun b => b = g) w0 w1 := (N0.al _).tr K1
  have V4_1 := (K1.Ai b4 (by have := Aq V4_0; (try simp only [World.size_alloc]); omega) Ad).trans ((Ag (Aq V4_0)).trans V4_0)
  simp (disch := first | exact xD | fail) [-bind_some, -Aa, -Ab]
  refine Af.bind (Al (k := 3) Ad Ad Ad (R1.ext xE)) ?_
  rintro ⟨_, w2⟩ ⟨m2, rfl, hm2, R2, K2⟩
  try dsimp only at R2 K2
  have zK2 := K2.size
  try simp only [World.size_alloc] at zK2
  have N2 : Mod (fun b => b = g) w0 w2 := (N1).tr K2
  have V4_2 := (K2.Ai b4 (by have := Aq V4_1; (try simp only [World.size_alloc]); omega) Ad).trans (V4_1)
  simp (disch := first | exact xD | fail) [-bind_some, -Aa, -Ab, qm, V4_2]
  exact hQ _ (Cw.fin (p0 := p) (by have := N2.size; omega) hb4 hg0 (by show ByteArray.size ⟨#[]⟩ ≤ 1000; decide) Ad R2 N2)
 ·simp (disch := first | exact xD | fail) [-bind_some, -Aa, -Ab, e0, e4, e5, e82]
  refine Af.bind (Al (k := 3) Ad Ad Ad (R0.ext xE)) ?_
  rintro ⟨_, w1⟩ ⟨m1, rfl, hm1, R1, K1⟩
  try dsimp only at R1 K1
  have zK1 := K1.size
  try simp only [World.size_alloc] at zK1
  have N1 : Mod (fun b => b = g) w0 w1 := (N0).tr K1
  have V4_1 := (K1.Ai b4 (by have := Aq V4_0; (try simp only [World.size_alloc]); omega) Ad).trans (V4_0)
  have V3_1 := (K1.Ai b3 (by have := Aq V3_0; (try simp only [World.size_alloc]); omega) Ad).trans (V3_0)
  simp (disch := first | exact xD | fail) [-bind_some, -Aa, -Ab]
  obtain ⟨pa, pc, sa, sc, na, nc, ha, hc, rfl, dp, _, _, _⟩ := D.world.1 ho
  have hk : m1 < st.places.length := by omega
  obtain ⟨pl, hpl, _⟩ := An hk
  have hg3 := hgot pl (List.mem_of_getElem? hpl)
  have dp1 : D (Gz 39 110 159 99 102) T w1 [.slice pa st.places.length pc] st.places := dp.Aj fun b hb hbl => N1.Ai b hbl (hT b hb)
  obtain ⟨b5, o5, cs5, rfl, A5, D5, _, _⟩ := dp1.at (by show 0 < 6; decide) hpl
  obtain ⟨ac, cc, al, cl, ag, cg, rfl, _, _, q3⟩ := D.place.1 D5
  obtain ⟨gl, hgl, _⟩ := An (l := pl.BQ) (k := a) Ad
  obtain ⟨b6, o6, cs6, rfl, A6, D6, _, _⟩ := q3.at AD hgl
  obtain ⟨a7, c7, rfl, _⟩ := D6.It
  have t0 := A5 0 _ rfl
  have t1 := A5 1 _ rfl
  have t2 := A5 2 _ rfl
  have t3 := A5 3 _ rfl
  have t4 := A5 4 _ rfl
  have t5 := A5 5 _ rfl
  simp only [Nat.add_zero] at t0 t1 t2 t3 t4 t5
  simp only [NQ] at t0 t1 t2 t3 t4 t5
  have u0 := A6 0 _ rfl
  simp only [Nat.add_zero] at u0
  simp only [HK, Nat.mul_one] at u0
  simp (disch := first | exact xD | fail) [-bind_some, -Aa, -Ab, qm, e3, V4_1, V3_1, DJ, GR, hg3, t4, u0]
  exact hQ _ (Cw.fin (p0 := p) (by have := N1.size; omega) hb4 hg0 (by show ByteArray.size ⟨#[]⟩ ≤ 1000; decide) Ad R1 N1)
theorem IC {w0 w : World} {B g p b3 b4 m a : Nat} {q : Bool} {T : Nat → Prop} {cs : List Value} {st : WorldD} {e : Env} (hst : st.places.length = 3) (hgot : ∀ p ∈ st.places, p.BQ.length = 3) (ho : D tW T w0 cs st) (hT : ∀ b, T b → b ≠ g) (hp0 : p ≤ 800000000000) (ha3 : a < 3) (hb3 : w0.heap.size ≤ b3) (hb4 : w0.heap.size ≤ b4) (h34 : b3 ≠ b4) (hg0 : g < w0.heap.size)
  (R0 : R w B g p) (N0 : Mod (fun b => b = g) w0 w) (e0 : e 0 = pt g 0) (e3 : e 3 = pt b3 0) (e4 : e 4 = pt b4 0) (e5 : e 5 = i64 a) (e10 : e 10 = i64 m) (V3_0 : hp w b3 = some (.cells cs.toArray 67 (0, 0))) (V4_0 : hp w b4 = some (.cells #[i64 0, i64 0, i64 0, i64 0, .string ⟨#[]⟩, .bool false] 118 (0, 0))) (e75 : e 75 = .bool q) : Af (CV e w) (Cw w0 B g p) := by
 rw [IW]
 refine Af.post fun Q hQ => ?_
 cases q
 ·skip
  cases h17 : ((m : Int) == 17)
  case true =>
   simp (disch := first | exact xD | fail) [-bind_some, -Aa, -Ab, e10, e75, h17]
   exact Af.mono (IB (q := true) hst hgot ho hT hp0 ha3 hb3 hb4 h34 hg0 R0 N0 xA xA xA xA xA V3_0 V4_0 xA) hQ
  cases h18 : ((m : Int) == 18)
  case true =>
   simp (disch := first | exact xD | fail) [-bind_some, -Aa, -Ab, e10, e75, h17, h18]
   exact Af.mono (IB (q := true) hst hgot ho hT hp0 ha3 hb3 hb4 h34 hg0 R0 N0 xA xA xA xA xA V3_0 V4_0 xA) hQ
  simp (disch := first | exact xD | fail) [-bind_some, -Aa, -Ab, e10, e75, h17, h18]
  exact Af.mono (IB (q := false) hst hgot ho hT hp0 ha3 hb3 hb4 h34 hg0 R0 N0 xA xA xA xA xA V3_0 V4_0 xA) hQ
 ·simp (disch := first | exact xD | fail) [-bind_some, -Aa, -Ab, e0, e4, e5, e75]
  refine Af.bind (Al (k := 3) Ad Ad Ad (R0.ext xE)) ?_
  rintro ⟨_, w1⟩ ⟨m1, rfl, hm1, R1, K1⟩
  try dsimp only at R1 K1
  have zK1 := K1.size
  try simp only [World.size_alloc] at zK1
  have N1 : Mod (fun b => b = g) w0 w1 := (N0).tr K1
  have V4_1 := (K1.Ai b4 (by have := Aq V4_0; (try simp only [World.size_alloc]); omega) Ad).trans (V4_0)
  simp (disch := first | exact xD | fail) [-bind_some, -Aa, -Ab, qm, V4_1]
  exact hQ _ (Cw.fin (p0 := p) (by have := N1.size; omega) hb4 hg0 (by show ByteArray.size ⟨#[]⟩ ≤ 1000; decide) Ad R1 N1)
theorem GH {w0 w : World} {B g p b3 b4 m a : Nat} {q : Bool} {T : Nat → Prop} {cs : List Value} {st : WorldD} {e : Env} (hst : st.places.length = 3) (hgot : ∀ p ∈ st.places, p.BQ.length = 3) (ho : D tW T w0 cs st) (hT : ∀ b, T b → b ≠ g) (hp0 : p ≤ 800000000000) (ha3 : a < 3) (hb3 : w0.heap.size ≤ b3) (hb4 : w0.heap.size ≤ b4) (h34 : b3 ≠ b4) (hg0 : g < w0.heap.size)
  (R0 : R w B g p) (N0 : Mod (fun b => b = g) w0 w) (e0 : e 0 = pt g 0) (e3 : e 3 = pt b3 0) (e4 : e 4 = pt b4 0) (e5 : e 5 = i64 a) (e10 : e 10 = i64 m) (V3_0 : hp w b3 = some (.cells cs.toArray 67 (0, 0))) (V4_0 : hp w b4 = some (.cells #[i64 0, i64 0, i64 0, i64 0, .string ⟨#[]⟩, .bool false] 118 (0, 0))) (e57 : e 57 = .bool q) : Af (Cj e w) (Cw w0 B g p) := by
 rw [IV]
 refine Af.post fun Q hQ => ?_
 cases q
 ·skip
  cases h14 : ((m : Int) == 14)
  case true =>
   simp (disch := first | exact xD | fail) [-bind_some, -Aa, -Ab, e0, e4, e5, e10, e57, h14]
   refine Af.bind (BG (ints := [7, 8]) (k := 2) Ad Ad Ad rfl (At.nw rfl) (by have := N0.size; omega) (R0.ext xE)) ?_
   rintro ⟨_, w1⟩ ⟨m1, hm1, rfl, R1, K1⟩
   try dsimp only at R1 K1
   have zK1 := K1.size
   try simp only [World.size_alloc] at zK1
   have N1 : Mod (fun b => b = g) w0 w1 := (N0.al _).tr K1
   have V4_1 := (K1.Ai b4 (by have := Aq V4_0; (try simp only [World.size_alloc]); omega) Ad).trans ((Ag (Aq V4_0)).trans V4_0)
   simp (disch := first | exact xD | fail) [-bind_some, -Aa, -Ab]
   refine Af.bind (Al (k := 4) Ad Ad Ad (R1.ext xE)) ?_
   rintro ⟨_, w2⟩ ⟨m2, rfl, hm2, R2, K2⟩
   try dsimp only at R2 K2
   have zK2 := K2.size
   try simp only [World.size_alloc] at zK2
   have N2 : Mod (fun b => b = g) w0 w2 := (N1).tr K2
   have V4_2 := (K2.Ai b4 (by have := Aq V4_1; (try simp only [World.size_alloc]); omega) Ad).trans (V4_1)
   simp (disch := first | exact xD | fail) [-bind_some, -Aa, -Ab, qm, V4_2]
   exact hQ _ (Cw.fin (p0 := p) (by have := N2.size; omega) hb4 hg0 (by show ByteArray.size ⟨#[]⟩ ≤ 1000; decide) Ad R2 N2)
  cases h15 : ((m : Int) == 15)
  case true =>
   simp (disch := first | exact xD | fail) [-bind_some, -Aa, -Ab, e10, e57, h14, h15]
   exact Af.mono (IC (q := true) hst hgot ho hT hp0 ha3 hb3 hb4 h34 hg0 R0 N0 xA xA xA xA xA V3_0 V4_0 xA) hQ
  cases h16 : ((m : Int) == 16)
  case true =>
   simp (disch := first | exact xD | fail) [-bind_some, -Aa, -Ab, e10, e57, h14, h15, h16]
   exact Af.mono (IC (q := true) hst hgot ho hT hp0 ha3 hb3 hb4 h34 hg0 R0 N0 xA xA xA xA xA V3_0 V4_0 xA) hQ
  simp (disch := first | exact xD | fail) [-bind_some, -Aa, -Ab, e10, e57, h14, h15, h16]
  exact Af.mono (IC (q := false) hst hgot ho hT hp0 ha3 hb3 hb4 h34 hg0 R0 N0 xA xA xA xA xA V3_0 V4_0 xA) hQ
 ·simp (disch := first | exact xD | fail) [-bind_some, -Aa, -Ab, e0, e4, e5, e57]
  refine Af.bind (BG (ints := [0, 0, 1, 2]) (k := 4) Ad Ad Ad rfl (At.nw rfl) (by have := N0.size; omega) (R0.ext xE)) ?_
  rintro ⟨_, w1⟩ ⟨m1, hm1, rfl, R1, K1⟩
  try dsimp only at R1 K1
  have zK1 := K1.size
  try simp only [World.size_alloc] at zK1
  have N1 : Mod (fun b => b = g) w0 w1 := (N0.al _).tr K1
  have V4_1 := (K1.Ai b4 (by have := Aq V4_0; (try simp only [World.size_alloc]); omega) Ad).trans ((Ag (Aq V4_0)).trans V4_0)
  simp (disch := first | exact xD | fail) [-bind_some, -Aa, -Ab, qm, V4_1]
  exact hQ _ (Cw.fin (p0 := p) (by have := N1.size; omega) hb4 hg0 (by show ByteArray.size ⟨#[]⟩ ≤ 1000; decide) Ad R1 N1)
theorem GI {w0 w : World} {B g p b3 b4 m a : Nat} {q : Bool} {T : Nat → Prop} {cs : List Value} {st : WorldD} {e : Env} (hst : st.places.length = 3) (hgot : ∀ p ∈ st.places, p.BQ.length = 3) (ho : D tW T w0 cs st) (hT : ∀ b, T b → b ≠ g) (hp0 : p ≤ 800000000000) (ha3 : a < 3) (hb3 : w0.heap.size ≤ b3) (hb4 : w0.heap.size ≤ b4) (h34 : b3 ≠ b4) (hg0 : g < w0.heap.size)
  (R0 : R w B g p) (N0 : Mod (fun b => b = g) w0 w) (e0 : e 0 = pt g 0) (e3 : e 3 = pt b3 0) (e4 : e 4 = pt b4 0) (e5 : e 5 = i64 a) (e10 : e 10 = i64 m) (V3_0 : hp w b3 = some (.cells cs.toArray 67 (0, 0))) (V4_0 : hp w b4 = some (.cells #[i64 0, i64 0, i64 0, i64 0, .string ⟨#[]⟩, .bool false] 118 (0, 0))) (e36 : e 36 = .bool q) : Af (Ci e w) (Cw w0 B g p) := by
 rw [IU]
 refine Af.post fun Q hQ => ?_
 cases q
 ·skip
  cases h10 : ((m : Int) == 10)
  case true =>
   simp (disch := first | exact xD | fail) [-bind_some, -Aa, -Ab, e0, e4, e10, e36, h10]
   refine Af.bind (BG (ints := [4, 5]) (k := 2) Ad Ad Ad rfl (At.nw rfl) (by have := N0.size; omega) (R0.ext xE)) ?_
   rintro ⟨_, w1⟩ ⟨m1, hm1, rfl, R1, K1⟩
   try dsimp only at R1 K1
   have zK1 := K1.size
   try simp only [World.size_alloc] at zK1
   have N1 : Mod (fun b => b = g) w0 w1 := (N0.al _).tr K1
   have V4_1 := (K1.Ai b4 (by have := Aq V4_0; (try simp only [World.size_alloc]); omega) Ad).trans ((Ag (Aq V4_0)).trans V4_0)
   simp (disch := first | exact xD | fail) [-bind_some, -Aa, -Ab]
   refine Af.bind (Al (k := 4) Ad Ad Ad (R1.ext xE)) ?_
   rintro ⟨_, w2⟩ ⟨m2, rfl, hm2, R2, K2⟩
   try dsimp only at R2 K2
   have zK2 := K2.size
   try simp only [World.size_alloc] at zK2
   have N2 : Mod (fun b => b = g) w0 w2 := (N1).tr K2
   have V4_2 := (K2.Ai b4 (by have := Aq V4_1; (try simp only [World.size_alloc]); omega) Ad).trans (V4_1)
   simp (disch := first | exact xD | fail) [-bind_some, -Aa, -Ab]
   refine Af.bind (Al (k := 3) Ad Ad Ad (R2.ext xE)) ?_
   rintro ⟨_, w3⟩ ⟨m3, rfl, hm3, R3, K3⟩
   try dsimp only at R3 K3
   have zK3 := K3.size
   try simp only [World.size_alloc] at zK3
   have N3 : Mod (fun b => b = g) w0 w3 := (N2).tr K3
   have V4_3 := (K3.Ai b4 (by have := Aq V4_2; (try simp only [World.size_alloc]); omega) Ad).trans (V4_2)
   simp (disch := first | exact xD | fail) [-bind_some, -Aa, -Ab, qm, V4_3]
   exact hQ _ (Cw.fin (p0 := p) (by have := N3.size; omega) hb4 hg0 (by show ByteArray.size ⟨#[]⟩ ≤ 1000; decide) Ad R3 N3)
  cases h11 : ((m : Int) == 11)
  case true =>
   simp (disch := first | exact xD | fail) [-bind_some, -Aa, -Ab, e10, e36, h10, h11]
   exact Af.mono (GH (q := true) hst hgot ho hT hp0 ha3 hb3 hb4 h34 hg0 R0 N0 xA xA xA xA xA V3_0 V4_0 xA) hQ
  cases h12 : ((m : Int) == 12)
  case true =>
   simp (disch := first | exact xD | fail) [-bind_some, -Aa, -Ab, e10, e36, h10, h11, h12]
   exact Af.mono (GH (q := true) hst hgot ho hT hp0 ha3 hb3 hb4 h34 hg0 R0 N0 xA xA xA xA xA V3_0 V4_0 xA) hQ
  cases h13 : ((m : Int) == 13)
  case true =>
   simp (disch := first | exact xD | fail) [-bind_some, -Aa, -Ab, e10, e36, h10, h11, h12, h13]
   exact Af.mono (GH (q := true) hst hgot ho hT hp0 ha3 hb3 hb4 h34 hg0 R0 N0 xA xA xA xA xA V3_0 V4_0 xA) hQ
  simp (disch := first | exact xD | fail) [-bind_some, -Aa, -Ab, e10, e36, h10, h11, h12, h13]
  exact Af.mono (GH (q := false) hst hgot ho hT hp0 ha3 hb3 hb4 h34 hg0 R0 N0 xA xA xA xA xA V3_0 V4_0 xA) hQ
 ·simp (disch := first | exact xD | fail) [-bind_some, -Aa, -Ab, e0, e4, e36]
  refine Af.bind (Al (k := 4) Ad Ad Ad (R0.ext xE)) ?_
  rintro ⟨_, w1⟩ ⟨m1, rfl, hm1, R1, K1⟩
  try dsimp only at R1 K1
  have zK1 := K1.size
  try simp only [World.size_alloc] at zK1
  have N1 : Mod (fun b => b = g) w0 w1 := (N0).tr K1
  have V4_1 := (K1.Ai b4 (by have := Aq V4_0; (try simp only [World.size_alloc]); omega) Ad).trans (V4_0)
  simp (disch := first | exact xD | fail) [-bind_some, -Aa, -Ab]
  refine Af.bind (Al (k := 4) Ad Ad Ad (R1.ext xE)) ?_
  rintro ⟨_, w2⟩ ⟨m2, rfl, hm2, R2, K2⟩
  try dsimp only at R2 K2
  have zK2 := K2.size
  try simp only [World.size_alloc] at zK2
  have N2 : Mod (fun b => b = g) w0 w2 := (N1).tr K2
  have V4_2 := (K2.Ai b4 (by have := Aq V4_1; (try simp only [World.size_alloc]); omega) Ad).trans (V4_1)
  simp (disch := first | exact xD | fail) [-bind_some, -Aa, -Ab]
  refine Af.bind (Al (k := 4) Ad Ad Ad (R2.ext xE)) ?_
  rintro ⟨_, w3⟩ ⟨m3, rfl, hm3, R3, K3⟩
  try dsimp only at R3 K3
  have zK3 := K3.size
  try simp only [World.size_alloc] at zK3
  have N3 : Mod (fun b => b = g) w0 w3 := (N2).tr K3
  have V4_3 := (K3.Ai b4 (by have := Aq V4_2; (try simp only [World.size_alloc]); omega) Ad).trans (V4_2)
  simp (disch := first | exact xD | fail) [-bind_some, -Aa, -Ab, qm, V4_3]
  exact hQ _ (Cw.fin (p0 := p) (by have := N3.size; omega) hb4 hg0 (by show ByteArray.size ⟨#[]⟩ ≤ 1000; decide) Ad R3 N3)
theorem GJ {w0 w : World} {B g p b3 b4 m a : Nat} {q : Bool} {T : Nat → Prop} {cs : List Value} {st : WorldD} {e : Env} (hst : st.places.length = 3) (hgot : ∀ p ∈ st.places, p.BQ.length = 3) (ho : D tW T w0 cs st) (hT : ∀ b, T b → b ≠ g) (hp0 : p ≤ 800000000000) (ha3 : a < 3) (hb3 : w0.heap.size ≤ b3) (hb4 : w0.heap.size ≤ b4) (h34 : b3 ≠ b4) (hg0 : g < w0.heap.size)
  (R0 : R w B g p) (N0 : Mod (fun b => b = g) w0 w) (e0 : e 0 = pt g 0) (e3 : e 3 = pt b3 0) (e4 : e 4 = pt b4 0) (e5 : e 5 = i64 a) (e10 : e 10 = i64 m) (V3_0 : hp w b3 = some (.cells cs.toArray 67 (0, 0))) (V4_0 : hp w b4 = some (.cells #[i64 0, i64 0, i64 0, i64 0, .string ⟨#[]⟩, .bool false] 118 (0, 0))) (e29 : e 29 = .bool q) : Af (Ch e w) (Cw w0 B g p) := by
 rw [IQ]
 refine Af.post fun Q hQ => ?_
 cases q
 ·skip
  cases h7 : ((m : Int) == 7)
  case true =>
   simp (disch := first | exact xD | fail) [-bind_some, -Aa, -Ab, e10, e29, h7]
   exact Af.mono (GI (q := true) hst hgot ho hT hp0 ha3 hb3 hb4 h34 hg0 R0 N0 xA xA xA xA xA V3_0 V4_0 xA) hQ
  cases h8 : ((m : Int) == 8)
  case true =>
   simp (disch := first | exact xD | fail) [-bind_some, -Aa, -Ab, e10, e29, h7, h8]
   exact Af.mono (GI (q := true) hst hgot ho hT hp0 ha3 hb3 hb4 h34 hg0 R0 N0 xA xA xA xA xA V3_0 V4_0 xA) hQ
  cases h9 : ((m : Int) == 9)
  case true =>
   simp (disch := first | exact xD | fail) [-bind_some, -Aa, -Ab, e10, e29, h7, h8, h9]
   exact Af.mono (GI (q := true) hst hgot ho hT hp0 ha3 hb3 hb4 h34 hg0 R0 N0 xA xA xA xA xA V3_0 V4_0 xA) hQ
  simp (disch := first | exact xD | fail) [-bind_some, -Aa, -Ab, e10, e29, h7, h8, h9]
  exact Af.mono (GI (q := false) hst hgot ho hT hp0 ha3 hb3 hb4 h34 hg0 R0 N0 xA xA xA xA xA V3_0 V4_0 xA) hQ
 ·simp (disch := first | exact xD | fail) [-bind_some, -Aa, -Ab, e0, e4, e29]
  refine Af.bind (Al (k := 4) Ad Ad Ad (R0.ext xE)) ?_
  rintro ⟨_, w1⟩ ⟨m1, rfl, hm1, R1, K1⟩
  try dsimp only at R1 K1
  have zK1 := K1.size
  try simp only [World.size_alloc] at zK1
  have N1 : Mod (fun b => b = g) w0 w1 := (N0).tr K1
  have V4_1 := (K1.Ai b4 (by have := Aq V4_0; (try simp only [World.size_alloc]); omega) Ad).trans (V4_0)
  simp (disch := first | exact xD | fail) [-bind_some, -Aa, -Ab, qm, V4_1]
  exact hQ _ (Cw.fin (p0 := p) (by have := N1.size; omega) hb4 hg0 (by show ByteArray.size ⟨#[]⟩ ≤ 1000; decide) Ad R1 N1)
theorem QO {w0 w : World} {B g p b3 b4 m a : Nat} {q : Bool} {T : Nat → Prop} {cs : List Value} {st : WorldD} {e : Env} (hst : st.places.length = 3) (hgot : ∀ p ∈ st.places, p.BQ.length = 3) (ho : D tW T w0 cs st) (hT : ∀ b, T b → b ≠ g) (hp0 : p ≤ 800000000000) (ha3 : a < 3) (hb3 : w0.heap.size ≤ b3) (hb4 : w0.heap.size ≤ b4) (h34 : b3 ≠ b4) (hg0 : g < w0.heap.size)
  (R0 : R w B g p) (N0 : Mod (fun b => b = g) w0 w) (e0 : e 0 = pt g 0) (e3 : e 3 = pt b3 0) (e4 : e 4 = pt b4 0) (e5 : e 5 = i64 a) (e10 : e 10 = i64 m) (V3_0 : hp w b3 = some (.cells cs.toArray 67 (0, 0))) (V4_0 : hp w b4 = some (.cells #[i64 0, i64 0, i64 0, i64 0, .string ⟨#[]⟩, .bool false] 118 (0, 0))) (e11 : e 11 = .bool q) : Af (BT e w) (Cw w0 B g p) := by
 rw [IP]
 refine Af.post fun Q hQ => ?_
 cases q
 ·skip
  cases h3 : ((m : Int) == 3)
  case true =>
   simp (disch := first | exact xD | fail) [-bind_some, -Aa, -Ab, e0, e4, e10, e11, h3]
   refine Af.bind (Al (k := 4) Ad Ad Ad (R0.ext xE)) ?_
   rintro ⟨_, w1⟩ ⟨m1, rfl, hm1, R1, K1⟩
   try dsimp only at R1 K1
   have zK1 := K1.size
   try simp only [World.size_alloc] at zK1
   have N1 : Mod (fun b => b = g) w0 w1 := (N0).tr K1
   have V4_1 := (K1.Ai b4 (by have := Aq V4_0; (try simp only [World.size_alloc]); omega) Ad).trans (V4_0)
   simp (disch := first | exact xD | fail) [-bind_some, -Aa, -Ab]
   refine Af.bind (Al (k := 4) Ad Ad Ad (R1.ext xE)) ?_
   rintro ⟨_, w2⟩ ⟨m2, rfl, hm2, R2, K2⟩
   try dsimp only at R2 K2
   have zK2 := K2.size
   try simp only [World.size_alloc] at zK2
   have N2 : Mod (fun b => b = g) w0 w2 := (N1).tr K2
   have V4_2 := (K2.Ai b4 (by have := Aq V4_1; (try simp only [World.size_alloc]); omega) Ad).trans (V4_1)
   simp (disch := first | exact xD | fail) [-bind_some, -Aa, -Ab, qm, V4_2]
   exact hQ _ (Cw.fin (p0 := p) (by have := N2.size; omega) hb4 hg0 (by show ByteArray.size ⟨#[]⟩ ≤ 1000; decide) Ad R2 N2)
  cases h4 : ((m : Int) == 4)
  case true =>
   simp (disch := first | exact xD | fail) [-bind_some, -Aa, -Ab, e10, e11, h3, h4]
   exact Af.mono (GJ (q := true) hst hgot ho hT hp0 ha3 hb3 hb4 h34 hg0 R0 N0 xA xA xA xA xA V3_0 V4_0 xA) hQ
  cases h5 : ((m : Int) == 5)
  case true =>
   simp (disch := first | exact xD | fail) [-bind_some, -Aa, -Ab, e10, e11, h3, h4, h5]
   exact Af.mono (GJ (q := true) hst hgot ho hT hp0 ha3 hb3 hb4 h34 hg0 R0 N0 xA xA xA xA xA V3_0 V4_0 xA) hQ
  cases h6 : ((m : Int) == 6)
  case true =>
   simp (disch := first | exact xD | fail) [-bind_some, -Aa, -Ab, e10, e11, h3, h4, h5, h6]
   exact Af.mono (GJ (q := true) hst hgot ho hT hp0 ha3 hb3 hb4 h34 hg0 R0 N0 xA xA xA xA xA V3_0 V4_0 xA) hQ
  simp (disch := first | exact xD | fail) [-bind_some, -Aa, -Ab, e10, e11, h3, h4, h5, h6]
  exact Af.mono (GJ (q := false) hst hgot ho hT hp0 ha3 hb3 hb4 h34 hg0 R0 N0 xA xA xA xA xA V3_0 V4_0 xA) hQ
 ·simp (disch := first | exact xD | fail) [-bind_some, -Aa, -Ab, e0, e4, e11]
  refine Af.bind (Al (k := 4) Ad Ad Ad (R0.ext xE)) ?_
  rintro ⟨_, w1⟩ ⟨m1, rfl, hm1, R1, K1⟩
  try dsimp only at R1 K1
  have zK1 := K1.size
  try simp only [World.size_alloc] at zK1
  have N1 : Mod (fun b => b = g) w0 w1 := (N0).tr K1
  have V4_1 := (K1.Ai b4 (by have := Aq V4_0; (try simp only [World.size_alloc]); omega) Ad).trans (V4_0)
  simp (disch := first | exact xD | fail) [-bind_some, -Aa, -Ab]
  refine Af.bind (Al (k := 4) Ad Ad Ad (R1.ext xE)) ?_
  rintro ⟨_, w2⟩ ⟨m2, rfl, hm2, R2, K2⟩
  try dsimp only at R2 K2
  have zK2 := K2.size
  try simp only [World.size_alloc] at zK2
  have N2 : Mod (fun b => b = g) w0 w2 := (N1).tr K2
  have V4_2 := (K2.Ai b4 (by have := Aq V4_1; (try simp only [World.size_alloc]); omega) Ad).trans (V4_1)
  simp (disch := first | exact xD | fail) [-bind_some, -Aa, -Ab]
  refine Af.bind (Nj Ad (R2.ext xE)) ?_
  rintro ⟨_, w3⟩ ⟨m3, hm3, rfl, R3, K3⟩
  try dsimp only at R3 K3
  have zK3 := K3.size
  try simp only [World.size_alloc] at zK3
  have N3 : Mod (fun b => b = g) w0 w3 := (N2).tr K3
  have V4_3 := (K3.Ai b4 (by have := Aq V4_2; (try simp only [World.size_alloc]); omega) Ad).trans (V4_2)
  simp (disch := first | exact xD | fail) [-bind_some, -Aa, -Ab, qm, V4_3]
  exact hQ _ (Cw.fin (p0 := p) (by have := N3.size; omega) hb4 hg0 (Up _ hm3) Ad R3 N3)
end Go.Proofs.YtkhbpmhagpljiaaGreatDoor.X
namespace Go.Proofs.YtkhbpmhagpljiaaGreatDoor.X
open Go Go.Ev Go.RowKit
open Option (bind_some)
attribute [local irreducible] World.alloc World.setRow Go.Ev.dw
abbrev NO : Lay (List EventD) := Vc 118
theorem Rt {B g p : Nat} {T : Nat → Prop} {cs : List Value} {st : WorldD} {w : World} (hst : st.places.length = 3) (hgot : ∀ p ∈ st.places, p.BQ.length = 3) (ho : D tW T w cs st) (hT : ∀ b, T b → b ≠ g) (hp0 : p ≤ 700000000000) (hr : R w B g p) :
  Af (EV P 85 #[pt g 0, .agg cs.toArray] w) (Cw w B g (p + 2)) := by
 have ho' := ho
 obtain ⟨pa, pc, sa, sc, na, nc, ha, hc, rfl, _, _, _, _⟩ := D.world.1 ho'
 have hl := hr.lt
 refine Af.post fun Q hQ => ?_
 refine Bw (KH _ _ _) ?_
 simp (disch := first | exact xD | fail) [-bind_some, -Aa, -Ab]
 refine Af.bind (Al (k := 3) Ad Ad Ad (hr.ext xE)) ?_
 rintro ⟨_, w1⟩ ⟨m1, rfl, hm1, R1, K1⟩
 try dsimp only at R1 K1
 have zK1 := K1.size
 simp only [World.size_alloc] at zK1
 simp (disch := first | exact xD | fail) [-bind_some, -Aa, -Ab]
 refine Af.bind (Al (k := 20) Ad Ad Ad R1) ?_
 rintro ⟨_, w2⟩ ⟨m2, rfl, hm2, R2, K2⟩
 try dsimp only at R2 K2
 have zK2 := K2.size
 have V3 : hp w2 w.heap.size = some (.cells #[.slice pa st.places.length pc, .slice sa st.Ay.length sc, .slice na st.net.length nc, .slice ha st.AM.length hc] 67 (0, 0)) := (K2.Ai _ Ad Ad).trans ((K1.Ai _ xB Ad).trans (by first | assumption | rfl | (simp (disch := first | exact xD | fail) [-bind_some, qs, -Aa, -Ab]; done)))
 have V4 : hp w2 (w.heap.size + 1) = some (.cells #[i64 0, i64 0, i64 0, i64 0, .string ⟨#[]⟩, .bool false] 118 (0, 0)) := (K2.Ai _ Ad Ad).trans ((K1.Ai _ xB Ad).trans (by first | assumption | rfl | (simp (disch := first | exact xD | fail) [-bind_some, qs, -Aa, -Ab]; done)))
 have N2 : Mod (fun b => b = g) w w2 := (Mod.tr xM K1).tr K2
 have go : ∀ (e' : Env) (q : Bool), e' 0 = pt g 0 → e' 3 = pt w.heap.size 0 → e' 4 = pt (w.heap.size + 1) 0 → e' 5 = i64 m1 → e' 10 = i64 m2 → e' 11 = .bool q → Af (BT e' w2) Q := by
  intro e' q g0 g3 g4 g5 g10 g11
  refine Af.mono (QO (m := m2) (a := m1) (p := p + 1 + 1) hst hgot ho hT Ad hm1 (Nat.le_refl _) Ad Ad hl.2 R2 N2 g0 g3 g4 g5 g10 V3 V4 g11) hQ
 cases h0 : ((m2 : Int) == 0)
 case true =>
  simp (disch := first | exact xD | fail) [-bind_some, -Aa, -Ab, h0]
  exact go _ _ xA xA xA xA xA rfl
 cases h1 : ((m2 : Int) == 1)
 case true =>
  simp (disch := first | exact xD | fail) [-bind_some, -Aa, -Ab, h0, h1]
  exact go _ _ xA xA xA xA xA rfl
 cases h2 : ((m2 : Int) == 2)
 ·simp (disch := first | exact xD | fail) [-bind_some, -Aa, -Ab, h0, h1, h2]
  exact go _ _ xA xA xA xA xA rfl
 ·simp (disch := first | exact xD | fail) [-bind_some, -Aa, -Ab, h0, h1, h2]
  exact go _ _ xA xA xA xA xA rfl
end Go.Proofs.YtkhbpmhagpljiaaGreatDoor.X
namespace Go.Proofs.YtkhbpmhagpljiaaGreatDoor.X
open Go Go.Ev Go.RowKit
open Option (bind_some)
attribute [local irreducible] World.alloc World.setRow Go.Ev.dw
theorem B6.BQ {M : Nat} {st : WorldD} (h : B6 M st) : ∀ p ∈ st.places, p.BQ.length = 3 := fun p hp' => (h.2.1 p hp').2.2.2.1
theorem QP {B g b9 : Nat} {w0 : World} (hb9 : w0.heap.size ≤ b9) (hg0 : g < w0.heap.size) (n : Nat) (hn : n ≤ 120) :
  ∀ (d k : Nat) (e : Env) (W : World) (p c : Nat) (a : Option Addr) (cs : List Value) (st : WorldD) (evs : List EventD) (T Te : Nat → Prop), k + d = n → e 0 = pt g 0 → e 3 = i64 n → e 9 = pt b9 0 → e 10 = .slice a evs.length c → e 11 = i64 k →
   hp W b9 = some (.cells cs.toArray 67 (0, 0)) → B6 (16 * k) st → O tW T W cs st → (∀ b, T b → w0.heap.size ≤ b ∧ b < W.heap.size ∧ b ≠ b9 ∧ ¬ Te b) → O NO Te W [.slice a evs.length c] evs → (∀ b, Te b → w0.heap.size ≤ b ∧ b < W.heap.size ∧ b ≠ b9) → evs.length ≤ k → (∀ x ∈ evs, x.text.size ≤ 1000) →
   p ≤ 600000000000 + 100 * k → R W B g p → Mod (fun b => b = g) w0 W →
   Af (CL e W) fun r => ∃ (a' : Option Addr) (c' p' : Nat) (evs' : List EventD), r.1 = .slice a' evs'.length c' ∧ O NO (fun b => w0.heap.size ≤ b) r.2 [.slice a' evs'.length c'] evs' ∧ (∀ x ∈ evs', x.text.size ≤ 1000) ∧ p' ≤ 600000000000 + 100 * n ∧ R r.2 B g p' ∧ Mod (fun b => b = g) w0 r.2 := by
 intro d
 induction d with
 | zero =>
  intro k e W p c a cs st evs T Te hd e0 e3 e9 e10 e11 X9 hf ho hT oe hTe hev hx hp0 hr hM
  rw [E8]
  obtain rfl : k = n := by omega
  refine Af.post fun Q hQ => ?_
  simp (disch := first | exact xD | fail) [-bind_some, -Aa, -Ab, e3, e10, e11]
  exact hQ _ ⟨a, c, p, evs, rfl, oe.wide (fun b h _ => (hTe b h).1), hx, hp0, hr, hM⟩
 | succ d ih =>
  intro k e W p c a cs st evs T Te hd e0 e3 e9 e10 e11 X9 hf ho hT oe hTe hev hx hp0 hr hM
  rw [E8]
  have hkn : k < n := by omega
  have y9 := Aq X9
  have zM0 := hM.size
  obtain ⟨u1, l1, d1, u2, l2, d2, u3, l3, d3, u4, l4, d4, rfl⟩ := ho.Cv
  have jn : ∀ (e' : Env) (W' : World) (p' c' : Nat) (a' : Option Addr) (cs' : List Value) (st' : WorldD) (evs' : List EventD) (T' Te' : Nat → Prop) (Q : Value × World → Prop), e' 0 = pt g 0 → e' 3 = i64 n → e' 9 = pt b9 0 → e' 10 = .slice a' evs'.length c' → e' 11 = i64 k →
    hp W' b9 = some (.cells cs'.toArray 67 (0, 0)) → B6 (16 * k + 16) st' → O tW T' W' cs' st' → (∀ b, T' b → w0.heap.size ≤ b ∧ b < W'.heap.size ∧ b ≠ b9 ∧ ¬ Te' b) → O NO Te' W' [.slice a' evs'.length c'] evs' → (∀ b, Te' b → w0.heap.size ≤ b ∧ b < W'.heap.size ∧ b ≠ b9) → evs'.length ≤ k + 1 → (∀ x ∈ evs', x.text.size ≤ 1000) →
    p' ≤ 600000000000 + 100 * k + 100 → R W' B g p' → Mod (fun b => b = g) w0 W' → (∀ r, (∃ (a' : Option Addr) (c' p' : Nat) (evs' : List EventD), r.1 = .slice a' evs'.length c' ∧ O NO (fun b => w0.heap.size ≤ b) r.2 [.slice a' evs'.length c'] evs' ∧ (∀ x ∈ evs', x.text.size ≤ 1000) ∧ p' ≤ 600000000000 + 100 * n ∧ R r.2 B g p' ∧ Mod (fun b => b = g) w0 r.2) → Q r) → Af (CM e' W') Q := by
   intro e' W' p' c' a' cs' st' evs' T' Te' Q g0 g3 g9 g10 g11 q1 q2 q3 q4 q5 q6 q7 q8 q9 q10 q11 hQ
   rw [Ib]
   simp (disch := first | exact xD | fail) [-bind_some, qs, -Aa, -Ab, g11]
   exact Af.mono (ih (k + 1) _ W' p' c' a' cs' st' evs' T' Te' Ad xA xA xA xA xA q1 (q2.up Ad) q3 q4 q5 q6 q7 q8 Ad q10 q11) hQ
  refine Af.post fun Q hQ => ?_
  simp (disch := first | exact xD | fail) [-bind_some, qs, -Aa, -Ab, e0, e3, e9, e10, e11, X9, show (k : Int) < n by omega]
  refine Af.bind (Rt (T := T) hf.1 hf.BQ ho.d (fun b h => by have := hT b h; omega) Ad hr) ?_
  rintro ⟨_, w1⟩ ⟨kd, at', nm, ky, tx, gn, p1, rfl, htx, hp1, R1, M1⟩
  have zM1 := M1.size
  try simp only [] at zM1
  try dsimp only at R1 M1
  have zM1 := M1.size
  have N9 := (M1.Ai b9 Ad Ad).trans X9
  simp (disch := first | exact xD | fail) [-bind_some, qs, -Aa, -Ab, qm, N9]
  have hT1 : ∀ b, T b → b < W.heap.size → b ≠ g := fun b h _ => by have := hT b h; omega
  refine Af.bind (Rs (S := T) hf Ad htx (ho.Aj fun b hb hbl => ?_)) ?_
  ·refine Eq.trans ?_ (M1.Ai b hbl (hT1 b hb hbl))
   simp (disch := (first | omega | (simp only [World.size_alloc, size_setRow]; omega))) only [Ac, Ag]
  rintro ⟨v2, w2⟩ ⟨cs', st', q, hv2, hq, f2, o2, M2⟩
  have zM2 := M2.size
  try simp only [qz] at zM2
  try dsimp only at hv2 o2 M2
  subst hv2
  have zM2 := M2.size
  simp only [World.size_alloc, size_setRow] at zM2 o2
  obtain ⟨u5, l5, d5, u6, l6, d6, u7, l7, d7, u8, l8, d8, rfl⟩ := o2.Cv
  have nT : ∀ b, b < w0.heap.size ∨ b = b9 ∨ Te b ∨ W.heap.size ≤ b → ¬ T b := fun b h h' => by
   have := hT b h'
   rcases h with h | h | h | h
   ·omega
   ·exact this.2.2.1 h
   ·exact this.2.2.2 h
   ·omega
  have k2 : ∀ b, b < W.heap.size → b ≠ g → ¬ T b → hp w2 b = hp W b := fun b hb h1 h2 => (M2.Ai b (by simp only [World.size_alloc, size_setRow]; omega) h2).trans ((by simp (disch := (first | omega | (simp only [World.size_alloc, size_setRow]; omega))) only [Ac, Ag] : _ = hp w1 b).trans (M1.Ai b hb h1))
  have k1 : ∀ b, b < w1.heap.size → ¬ T b → hp w2 b = hp w1 b := fun b hb h2 => (M2.Ai b (by simp only [World.size_alloc, size_setRow]; omega) h2).trans (by simp (disch := (first | omega | (simp only [World.size_alloc, size_setRow]; omega))) only [Ac, Ag])
  have C9 := (k1 b9 Ad (nT _ (.inr (.inl rfl)))).trans N9
  have CE : hp w2 w1.heap.size = some (.cells #[i64 kd, i64 at', i64 nm, i64 ky, .string tx, .bool gn] 118 (0, 0)) := (M2.Ai _ (by simp only [World.size_alloc, size_setRow]; omega) (nT _ (.inr (.inr (.inr Ad))))).trans (by first | assumption | rfl | (simp (disch := first | exact xD | fail) [-bind_some, qs, -Aa, -Ab]; done))
  have R2 : R w2 B g p1 := R1.Aj fun b h hb => k1 b hb (nT _ (.inl (by have := R1.lt; omega)))
  have oe2 : O NO Te w2 [.slice a evs.length c] evs := oe.Aj fun b hb hbl => k2 b hbl (by have := hTe b hb; omega) (nT _ (.inr (.inr (.inl hb))))
  have NM : Mod (fun b => b = g) w0 w2 := Mod.Bd (by
   first | exact ((hM.tr M1).al _).AQ (.inl Ad) _ | exact (hM.tr M1).al _) M2 (fun b hb h => absurd h (nT _ (.inl hb)))
  cases q
  ·have hcs := hq rfl
   simp only [List.cons.injEq, Value.slice.injEq, and_true] at hcs
   obtain ⟨⟨rfl, rfl, rfl⟩, ⟨rfl, rfl, rfl⟩, ⟨rfl, rfl, rfl⟩, rfl, rfl, rfl⟩ := hcs
   simp (disch := first | exact xD | fail) [-bind_some, qs, -Aa, -Ab, qm]
   refine Af.bind (Al (k := 6) Ad Ad Ad (R2.ext xE)) ?_
   rintro ⟨_, w3⟩ ⟨m, rfl, hm, RR3, K3⟩
   try dsimp only at RR3 K3
   have zK3 := K3.size
   simp only [World.size_alloc, size_setRow] at zK3
   have k3 : ∀ b, b < w2.heap.size → b ≠ g → hp w3 b = hp w2 b := fun b hb h => (K3.Ai b (by simp only [World.size_alloc, size_setRow]; omega) h).trans ((Ac Ad).trans (Ag hb))
   have B93 := (k3 b9 Ad Ad).trans C9
   have BE3 := (k3 w1.heap.size Ad Ad).trans CE
   have BX3 : hp w3 w2.heap.size = some (.cells #[.slice u5 l5 d5, .slice u6 l6 d6, .slice u7 l7 d7, .slice u8 l8 d8] 67 (0, 0)) := (K3.Ai _ (by simp only [World.size_alloc, size_setRow]; omega) Ad).trans (by first | assumption | rfl | (simp (disch := first | exact xD | fail) [-bind_some, qs, -Aa, -Ab]; done))
   have OE3 : O NO Te w3 [.slice a evs.length c] evs := oe2.Aj fun b hb hbl => k3 b hbl (by have := hTe b hb; omega)
   have OW3 : O tW (fun b => T b ∨ In (w1.heap.size + 1) w2.heap.size b) w3 [.slice u5 l5 d5, .slice u6 l6 d6, .slice u7 l7 d7, .slice u8 l8 d8] st' := o2.Aj fun b hb hbl => k3 b hbl (by rcases hb with h | h; have := hT b h; omega; simp only [In] at h; omega)
   have NN3 : Mod (fun b => b = g) w0 w3 := ((NM.al _).AQ (.inl Ad) _).tr K3
   by_cases hm0 : 0 < m
   ·simp (disch := first | exact xD | fail) [-bind_some, -Aa, -Ab, hm0]
    refine jn _ w3 (p1 + 1) c a [.slice u5 l5 d5, .slice u6 l6 d6, .slice u7 l7 d7, .slice u8 l8 d8] st' evs (fun b => T b ∨ In (w1.heap.size + 1) w2.heap.size b) Te Q xA xA xA xA xA B93 f2 OW3 ?_ OE3 (fun b h => by have := hTe b h; exact ⟨this.1, by omega, this.2.2⟩) Ad hx Ad RR3 NN3 hQ
    intro b hb
    rcases hb with h | h
    ·have := hT b h
     exact ⟨this.1, by omega, this.2.2⟩
    ·simp only [In] at h
     exact ⟨by omega, by omega, by omega, fun h' => by have := hTe b h'; omega⟩
   ·obtain rfl : m = 0 := by omega
    simp (disch := first | exact xD | fail) [-bind_some, qs, -Aa, -Ab, qm, B93, BE3, BX3]
    have alk3 : ∀ b, b < w3.heap.size → b ≠ b9 → hp ((w3.setRow b9 #[.slice u5 l5 d5, .slice u6 l6 d6, .slice u7 l7 d7, .slice u8 l8 d8]).alloc (.cells #[i64 kd, i64 at', i64 nm, i64 ky, .string tx, .bool gn] 118)) b = hp w3 b := fun b hb hn => (Ag (by simp only [size_setRow]; omega)).trans (Ac hn)
    refine Af.bind (O.app (L := HC) (mx := 2513169434916) (xs := evs) (S1 := fun _ => False) (x := ⟨kd, at', nm, ky, tx, gn⟩) (cs := PF ⟨kd, at', nm, ky, tx, gn⟩) Tw Tz rfl AD (OE3.Aj fun b hb hbl => alk3 b hbl (hTe b hb).2.2) (O.event (by show tx.size ≤ _; omega)) (fun _ _ _ h => h) (At.nw (by simp)) Ad AD AD) ?_
    rintro ⟨_, w9⟩ ⟨a7, c7, rfl, o7, M7⟩
    have zM7 := M7.size
    try simp only [qz] at zM7
    try dsimp only at o7 M7
    have zM7 := M7.size
    simp only [World.size_alloc, size_setRow] at zM7 o7
    have lW3 : W.heap.size ≤ w3.heap.size := by omega
    have nTe : ∀ b, b < w0.heap.size ∨ b = b9 → ¬ Te b := fun b h h' => by have := hTe b h'; omega
    simp (disch := first | exact xD | fail) [-bind_some, -Aa, -Ab]
    refine jn _ w9 (p1 + 1) c7 a7 [.slice u5 l5 d5, .slice u6 l6 d6, .slice u7 l7 d7, .slice u8 l8 d8] st' (evs ++ [⟨kd, at', nm, ky, tx, gn⟩]) (fun b => T b ∨ In (w1.heap.size + 1) w2.heap.size b) (fun b => Te b ∨ In w3.heap.size w9.heap.size b) Q xA xA xA ?_ xA ?_ f2 ?_ ?_ ?_ ?_ (by simp; omega) ?_ Ad ?_ ?_ hQ
    ·simp (disch := first | exact xD | fail) [-bind_some, qs, -Aa, -Ab, List.length_append, List.length_cons, List.length_nil]
    ·refine (M7.Ai b9 (by simp only [World.size_alloc, size_setRow]; omega) (nTe _ (.inr rfl))).trans ((Ag (by simp only [size_setRow]; omega)).trans (by first | assumption | rfl | (simp (disch := first | exact xD | fail) [-bind_some, -Aa, -Ab, B93]; done)))
    ·refine OW3.Aj fun b hb hbl => (M7.Ai b (by simp only [World.size_alloc, size_setRow]; omega) ?_).trans (alk3 b hbl ?_)
     ·rcases hb with h | h
      ·exact (hT b h).2.2.2
      ·intro h'
       have := hTe b h'
       simp only [In] at h; omega
     ·rcases hb with h | h
      ·exact (hT b h).2.2.1
      ·simp only [In] at h; omega
    ·intro b hb
     rcases hb with h | h
     ·have := hT b h
      exact ⟨this.1, by omega, this.2.2.1, fun h' => by rcases h' with h' | h'; exact this.2.2.2 h'; simp only [In] at h'; omega⟩
     ·simp only [In] at h
      exact ⟨by omega, by omega, by omega, fun h' => by rcases h' with h' | h'; have := hTe b h'; omega; simp only [In] at h'; omega⟩
    ·have hle : (evs ++ [(⟨kd, at', nm, ky, tx, gn⟩ : EventD)]).length = evs.length + 1 := by simp
     rw [hle]
     refine o7.wide fun b hb hbl => ?_
     rcases hb with h | h | h
     ·exact .inl h
     ·exact h.elim
     ·exact .inr (by simp only [In]; omega)
    ·intro b hb
     rcases hb with h | h
     ·have := hTe b h
      exact ⟨this.1, by omega, this.2.2⟩
     ·simp only [In] at h
      exact ⟨by omega, by omega, by omega⟩
    ·intro x hx'
     rcases List.mem_append.1 hx' with h | h
     ·exact hx x h
     ·rw [List.mem_singleton.1 h]; exact htx
    ·exact RR3.Aj fun b h hb => (M7.Ai b (by simp only [World.size_alloc, size_setRow]; omega) (nTe _ (.inl (by have := RR3.lt; omega)))).trans (alk3 b hb (by have := RR3.lt; omega))
    ·exact Mod.Bd ((NN3.AQ (.inl hb9) _).al _) M7 (fun b hb h => by have := hTe b h; omega)
  ·simp (disch := first | exact xD | fail) [-bind_some, qs, -Aa, -Ab, qm]
   generalize hW4 : World.setRow _ w2.heap.size _ = W4
   have sW4 : W4.heap.size = w2.heap.size + 1 := by rw [← hW4]; simp
   have k4 : ∀ b, b < w2.heap.size → hp W4 b = hp w2 b := fun b hb => by
    rw [← hW4]
    exact (Ac Ad).trans (Ag hb)
   have B94 := (k4 b9 Ad).trans C9
   have BE4 := (k4 w1.heap.size Ad).trans CE
   have BX4 : hp W4 w2.heap.size = some (.cells #[.slice u5 l5 d5, .slice u6 l6 d6, .slice u7 l7 d7, .slice u8 l8 d8] 67 (0, 0)) := by
    rw [← hW4]
    exact (by first | assumption | rfl | (simp (disch := first | exact xD | fail) [-bind_some, qs, -Aa, -Ab]; done))
   have RR4 : R W4 B g p1 := R2.Aj fun b h hb => k4 b hb
   have OE4 : O NO Te W4 [.slice a evs.length c] evs := oe2.Aj fun b hb hbl => k4 b hbl
   have OW4 : O tW (fun b => T b ∨ In (w1.heap.size + 1) w2.heap.size b) W4 [.slice u5 l5 d5, .slice u6 l6 d6, .slice u7 l7 d7, .slice u8 l8 d8] st' := o2.Aj fun b hb hbl => k4 b hbl
   have NN4 : Mod (fun b => b = g) w0 W4 := by
    rw [← hW4]
    exact (NM.al _).AQ (.inl Ad) _
   simp (disch := first | exact xD | fail) [-bind_some, qs, -Aa, -Ab, qm, BE4, C9]
   have alk4 : ∀ b, b < W4.heap.size → b ≠ b9 → hp ((W4.setRow b9 #[.slice u5 l5 d5, .slice u6 l6 d6, .slice u7 l7 d7, .slice u8 l8 d8]).alloc (.cells #[i64 kd, i64 at', i64 nm, i64 ky, .string tx, .bool gn] 118)) b = hp W4 b := fun b hb hn => (Ag (by simp only [size_setRow]; omega)).trans (Ac hn)
   refine Af.bind (O.app (L := HC) (mx := 2513169434916) (xs := evs) (S1 := fun _ => False) (x := ⟨kd, at', nm, ky, tx, gn⟩) (cs := PF ⟨kd, at', nm, ky, tx, gn⟩) Tw Tz rfl AD (OE4.Aj fun b hb hbl => alk4 b hbl (hTe b hb).2.2) (O.event (by show tx.size ≤ _; omega)) (fun _ _ _ h => h) (At.nw (by simp)) Ad AD AD) ?_
   rintro ⟨_, w9⟩ ⟨a7, c7, rfl, o7, M7⟩
   have zM7 := M7.size
   try simp only [qz] at zM7
   try dsimp only at o7 M7
   have zM7 := M7.size
   simp only [World.size_alloc, size_setRow] at zM7 o7
   have lW4 : W.heap.size ≤ W4.heap.size := by omega
   have nTe : ∀ b, b < w0.heap.size ∨ b = b9 → ¬ Te b := fun b h h' => by have := hTe b h'; omega
   simp (disch := first | exact xD | fail) [-bind_some, -Aa, -Ab]
   refine jn _ w9 p1 c7 a7 [.slice u5 l5 d5, .slice u6 l6 d6, .slice u7 l7 d7, .slice u8 l8 d8] st' (evs ++ [⟨kd, at', nm, ky, tx, gn⟩]) (fun b => T b ∨ In (w1.heap.size + 1) w2.heap.size b) (fun b => Te b ∨ In W4.heap.size w9.heap.size b) Q xA xA xA ?_ xA ?_ f2 ?_ ?_ ?_ ?_ (by simp; omega) ?_ Ad ?_ ?_ hQ
   ·simp (disch := first | exact xD | fail) [-bind_some, qs, -Aa, -Ab, List.length_append, List.length_cons, List.length_nil]
   ·refine (M7.Ai b9 (by simp only [World.size_alloc, size_setRow]; omega) (nTe _ (.inr rfl))).trans ((Ag (by simp only [size_setRow]; omega)).trans (by first | assumption | rfl | (simp (disch := first | exact xD | fail) [-bind_some, -Aa, -Ab, B94]; done)))
   ·refine OW4.Aj fun b hb hbl => (M7.Ai b (by simp only [World.size_alloc, size_setRow]; omega) ?_).trans (alk4 b hbl ?_)
    ·rcases hb with h | h
     ·exact (hT b h).2.2.2
     ·intro h'
      have := hTe b h'
      simp only [In] at h; omega
    ·rcases hb with h | h
     ·exact (hT b h).2.2.1
     ·simp only [In] at h; omega
   ·intro b hb
    rcases hb with h | h
    ·have := hT b h
     exact ⟨this.1, by omega, this.2.2.1, fun h' => by rcases h' with h' | h'; exact this.2.2.2 h'; simp only [In] at h'; omega⟩
    ·simp only [In] at h
     exact ⟨by omega, by omega, by omega, fun h' => by rcases h' with h' | h'; have := hTe b h'; omega; simp only [In] at h'; omega⟩
   ·have hle : (evs ++ [(⟨kd, at', nm, ky, tx, gn⟩ : EventD)]).length = evs.length + 1 := by simp
    rw [hle]
    refine o7.wide fun b hb hbl => ?_
    rcases hb with h | h | h
    ·exact .inl h
    ·exact h.elim
    ·exact .inr (by simp only [In]; omega)
   ·intro b hb
    rcases hb with h | h
    ·have := hTe b h
     exact ⟨this.1, by omega, this.2.2⟩
    ·simp only [In] at h
     exact ⟨by omega, by omega, by omega⟩
   ·intro x hx'
    rcases List.mem_append.1 hx' with h | h
    ·exact hx x h
    ·rw [List.mem_singleton.1 h]; exact htx
   ·exact RR4.Aj fun b h hb => (M7.Ai b (by simp only [World.size_alloc, size_setRow]; omega) (nTe _ (.inl (by have := RR4.lt; omega)))).trans (alk4 b hb (by have := RR4.lt; omega))
   ·exact Mod.Bd ((NN4.AQ (.inl hb9) _).al _) M7 (fun b hb h => by have := hTe b h; omega)
end Go.Proofs.YtkhbpmhagpljiaaGreatDoor.X
namespace Go.Proofs.YtkhbpmhagpljiaaGreatDoor.X
open Go Go.Ev Go.RowKit
open Option (bind_some)
attribute [local irreducible] World.alloc World.setRow Go.Ev.dw
theorem QQ {B g p m sN n : Nat} (hm : m < 4) (hsN : sN ≤ 4) (hn : n ≤ 120) (hp0 : p ≤ 500000000000) {w : World} (hr : R w B g p) :
  Af (EV P 64 #[pt g 0, i64 (1 + (m : Int)), i64 sN, i64 n] w) fun r => ∃ (a : Option Addr) (c p' : Nat) (evs : List EventD), r.1 = .slice a evs.length c ∧ O NO (fun b => w.heap.size ≤ b) r.2 [.slice a evs.length c] evs ∧ (∀ x ∈ evs, x.text.size ≤ 1000) ∧ p' ≤ 700000000000 ∧ R r.2 B g p' ∧ Mod (fun b => b = g) w r.2 := by
 have hl := hr.lt
 refine Af.post fun Q hQ => ?_
 refine Bw (JN _ _ _ _ _) ?_
 simp (disch := first | exact xD | fail) [-bind_some, qs, -Aa, -Ab]
 refine Af.bind (R7 hm hsN) ?_
 rintro ⟨_, w1⟩ ⟨cs, st, rfl, f1, o1, E1⟩
 try dsimp only at cs st f1 o1 E1
 have zE1 := E1.size
 try simp only [qz] at zE1
 obtain ⟨u5, l5, d5, u6, l6, d6, u7, l7, d7, u8, l8, d8, rfl⟩ := o1.Cv
 simp (disch := first | exact xD | fail) [-bind_some, -Aa, -Ab, qm]
 refine Af.mono (QP (b9 := w1.heap.size) (w0 := w) Ad hl.2 n hn n 0 _ _ p 0 (some ⟨w1.heap.size + 1, 0, none⟩) _ st [] (In w.heap.size w1.heap.size) (fun b => b = w1.heap.size + 1) Ad xA xA xA rfl xA (by first | assumption | rfl | (simp (disch := first | exact xD | fail) [-bind_some, qs, -Aa, -Ab]; done)) f1 (o1.Aj fun b hb hbl => ?_) (fun b h => by simp only [In] at h; simp only [World.size_alloc, size_setRow]; omega) (O.empty (L := HC) (mx := 2513169434916) (g := w1.heap.size + 1) (by first | assumption | rfl | (simp (disch := first | exact xD | fail) [-bind_some, qs, -Aa, -Ab]; done))) (fun b h => by subst h; simp only [World.size_alloc, size_setRow]; omega) (Nat.le_refl 0) (fun x h => by simp at h) Ad (hr.ext xE) xM) ?_
 ·simp (disch := (first | omega | (simp only [World.size_alloc, size_setRow]; omega))) only [Ac, Ag]
 rintro r ⟨a', c', p', evs', h1, h2, h3, h4, h5, h6⟩
 exact hQ _ ⟨a', c', p', evs', h1, h2, h3, by omega, h5, h6⟩
theorem S7 {B g p : Nat} (hp0 : p ≤ 400000000000) {w : World} (hr : R w B g p) :
  Af (EV P 51 #[pt g 0] w) fun r => ∃ (m sN : Nat) (a : Option Addr) (c p' : Nat) (evs : List EventD), m < 4 ∧ sN ≤ 4 ∧ r.1 = .tuple #[i64 (1 + (m : Int)), i64 sN, .slice a evs.length c] ∧ O NO (fun b => w.heap.size ≤ b) r.2 [.slice a evs.length c] evs ∧ (∀ x ∈ evs, x.text.size ≤ 1000) ∧ p' ≤ 700000000000 ∧ R r.2 B g p' ∧ Mod (fun b => b = g) w r.2 := by
 have hl := hr.lt
 refine Af.post fun Q hQ => ?_
 refine Bw (Lv _ _) ?_
 simp (disch := first | exact xD | fail) [-bind_some, -Aa, -Ab]
 refine Af.bind (Al (k := 4) Ad Ad Ad hr) ?_
 rintro ⟨_, w1⟩ ⟨m, rfl, hm, R1, K1⟩
 try dsimp only at R1 K1
 have zK1 := K1.size
 simp (disch := first | exact xD | fail) [-bind_some, qs, -Aa, -Ab]
 refine Af.bind (Al (k := 4) Ad Ad Ad R1) ?_
 rintro ⟨_, w2⟩ ⟨m2, rfl, hm2, R2, K2⟩
 try dsimp only at R2 K2
 have zK2 := K2.size
 simp (disch := first | exact xD | fail) [-bind_some, qs, -Aa, -Ab]
 refine Af.bind (BG (ints := [0, 20, 60, 120]) (k := 4) Ad Ad Ad rfl (At.nw rfl) Ad (R2.ext xE)) ?_
 rintro ⟨_, w3⟩ ⟨n, hn, rfl, R3, K3⟩
 try dsimp only at R3 K3
 have zK3 := K3.size
 simp only [World.size_alloc] at zK3
 obtain ⟨n', rfl, hn'⟩ : ∃ n' : Nat, n = (n' : Int) ∧ n' ≤ 120 := by
  simp only [List.mem_cons, List.not_mem_nil, or_false] at hn
  rcases hn with rfl | rfl | rfl | rfl
  ·exact ⟨0, rfl, by omega⟩
  ·exact ⟨20, rfl, by omega⟩
  ·exact ⟨60, rfl, by omega⟩
  ·exact ⟨120, rfl, by omega⟩
 have hes : (1 + (m2 : Int)) = ((1 + m2 : Nat) : Int) := by omega
 have N3 : Mod (fun b => b = g) w w3 := ((K1.tr K2).al _).tr K3
 simp (disch := first | exact xD | fail) [-bind_some, -Aa, -Ab]
 rw [hes]
 refine Af.bind (QQ (sN := 1 + m2) hm Ad hn' Ad R3) ?_
 rintro ⟨_, w4⟩ ⟨a', c', p', evs', rfl, h2, h3, h4, h5, h6⟩
 try dsimp only at h2 h5 h6
 simp (disch := first | exact xD | fail) [-bind_some, -Aa, -Ab]
 exact hQ _ ⟨m, 1 + m2, a', c', p', evs', hm, by omega, rfl, h2.wide (fun b h _ => by omega), h3, h4, h5, N3.tr h6⟩
end Go.Proofs.YtkhbpmhagpljiaaGreatDoor.X
namespace Go.Proofs.YtkhbpmhagpljiaaGreatDoor.X
open Go Go.Ev Go.RowKit
open Option (bind_some)
attribute [local irreducible] World.alloc World.setRow Go.Ev.dw
theorem Uq {b6 b7 c n : Nat} {a : Option Addr} {Te : Nat → Prop} {evs : List EventD} {w0 : World} (hb6 : w0.heap.size ≤ b6) (hb67 : b6 < b7) (hD : D NO Te w0 [.slice a n c] evs) (hx : ∀ x ∈ evs, x.text.size ≤ 1000) :
  ∀ (d k : Nat) (e : Env) (W : World) (cs : List Value) (st : WorldD) (T : Nat → Prop), k + d = 60 → e 2 = .slice a n c → e 6 = pt b6 0 → e 7 = pt b7 0 → e 8 = i64 k → hp W b7 = some (.cells cs.toArray 67 (0, 0)) → hp W b6 = some (.cells #[.slice none 0 0, .slice none 0 0, .slice none 0 0, .slice none 0 0] 67 (0, 0)) →
   B6 (16 * k) st → O tW T W cs st → (∀ b, T b → w0.heap.size ≤ b ∧ b < W.heap.size ∧ b ≠ b6 ∧ b ≠ b7) → Ext w0 W →
   Af (DU e W) fun r => ∃ (cs' : List Value) (st' : WorldD), r.1 = .agg cs'.toArray ∧ B6 1000 st' ∧ O tW (In w0.heap.size r.2.heap.size) r.2 cs' st' ∧ Ext w0 r.2 := by
 obtain ⟨rfl, hmx, _⟩ := hD.n
 intro d
 have out : ∀ (k : Nat) (W : World) (cs : List Value) (st : WorldD) (T : Nat → Prop) (Q : Value × World → Prop), k ≤ 60 → hp W b7 = some (.cells cs.toArray 67 (0, 0)) → B6 (16 * k) st → O tW T W cs st → (∀ b, T b → w0.heap.size ≤ b ∧ b < W.heap.size ∧ b ≠ b6 ∧ b ≠ b7) → Ext w0 W →
   (∀ r, (∃ (cs' : List Value) (st' : WorldD), r.1 = .agg cs'.toArray ∧ B6 1000 st' ∧ O tW (In w0.heap.size r.2.heap.size) r.2 cs' st' ∧ Ext w0 r.2) → Q r) → Q (.agg cs.toArray, W.setRow b6 cs.toArray) := by
  intro k W cs st T Q hk X7 hf ho hT E0 hQ
  have zE0 := E0.size
  try simp only [qz] at zE0
  refine hQ _ ⟨_, _, rfl, hf.up Ad, (ho.Aj fun b hb hbl => Ac (hT b hb).2.2.1).wide ?_, E0.set hb6 _⟩
  intro b hb hbl
  have := hT b hb
  simp only [In, size_setRow]
  omega
 induction d with
 | zero =>
  intro k e W cs st T hd e2 e6 e7 e8 X7 X6 hf ho hT E0
  have zE0 := E0.size
  try simp only [qz] at zE0
  rw [Gj]
  obtain rfl : k = 60 := by omega
  obtain ⟨u1, l1, d1, u2, l2, d2, u3, l3, d3, u4, l4, d4, rfl⟩ := ho.Cv
  refine Af.post fun Q hQ => ?_
  by_cases hl : 60 < evs.length
  ·simp (disch := first | exact xD | fail) [-bind_some, -Aa, -Ab, qm, e2, e6, e7, e8, X6, X7, show (60 : Int) < evs.length by omega]
   exact out 60 W _ st T Q Ad X7 hf ho hT E0 hQ
  ·simp (disch := first | exact xD | fail) [-bind_some, -Aa, -Ab, qm, e2, e6, e7, e8, X6, X7, show ¬ (60 : Int) < evs.length by omega]
   exact out 60 W _ st T Q Ad X7 hf ho hT E0 hQ
 | succ d ih =>
  intro k e W cs st T hd e2 e6 e7 e8 X7 X6 hf ho hT E0
  have zE0 := E0.size
  try simp only [qz] at zE0
  rw [Gj]
  have hk : k < 60 := by omega
  obtain ⟨u1, l1, d1, u2, l2, d2, u3, l3, d3, u4, l4, d4, rfl⟩ := ho.Cv
  have zE0' := E0.size
  have y7 := Aq X7
  have y6 := Aq X6
  by_cases hl : k < evs.length
  ·obtain ⟨v, hv, _⟩ := An hl
   have hvx := hx v (List.mem_of_getElem? hv)
   obtain ⟨b5, o5, cs5, rfl, A5, D5, _, _⟩ := hD.at AD hv
   obtain ⟨rfl, _⟩ := D.event.1 D5
   have y5 := A5.lt
   have t0 := A5 0 _ rfl
   have t1 := A5 1 _ rfl
   have t2 := A5 2 _ rfl
   have t3 := A5 3 _ rfl
   have t4 := A5 4 _ rfl
   have t5 := A5 5 _ rfl
   simp only [Nat.add_zero] at t0 t1 t2 t3 t4 t5
   simp only [TU] at t0 t1 t2 t3 t4 t5
   have nT : ∀ b, b < w0.heap.size ∨ b = b6 ∨ b = b7 ∨ W.heap.size ≤ b → ¬ T b := fun b h h' => by have := hT b h'; omega
   refine Af.post fun Q hQ => ?_
   have jn : ∀ (e' : Env) (W' : World) (xb : Nat) (u5 : Option Addr) (l5 d5 : Nat) (u6 : Option Addr) (l6 d6 : Nat) (u7 : Option Addr) (l7 d7 : Nat) (u8 : Option Addr) (l8 d8 : Nat) (st' : WorldD) (T' : Nat → Prop), e' 2 = .slice (some ⟨b5, o5, none⟩) evs.length c → e' 6 = pt b6 0 → e' 7 = pt b7 0 → e' 8 = i64 k → e' 9 = pt xb 0 →
     hp W' xb = some (.cells #[.slice u5 l5 d5, .slice u6 l6 d6, .slice u7 l7 d7, .slice u8 l8 d8] 67 (0, 0)) → hp W' b7 = some (.cells #[.slice u1 l1 d1, .slice u2 l2 d2, .slice u3 l3 d3, .slice u4 l4 d4] 67 (0, 0)) → hp W' b6 = some (.cells #[.slice none 0 0, .slice none 0 0, .slice none 0 0, .slice none 0 0] 67 (0, 0)) →
     B6 (16 * k + 16) st' → O tW T' W' [.slice u5 l5 d5, .slice u6 l6 d6, .slice u7 l7 d7, .slice u8 l8 d8] st' → (∀ b, T' b → w0.heap.size ≤ b ∧ b < W'.heap.size ∧ b ≠ b6 ∧ b ≠ b7) → Ext w0 W' → Af (DV e' W') Q := by
    intro e' W' xb u5 l5 d5 u6 l6 d6 u7 l7 d7 u8 l8 d8 st' T' g2 g6 g7 g8 g9 Xx X7' X6' q2 q3 q4 q5
    rw [JL]
    simp (disch := first | exact xD | fail) [-bind_some, qs, -Aa, -Ab, qm, g7, g8, g9, Xx, X7']
    exact Af.mono (ih (k + 1) _ _ _ st' T' Ad xA xA xA xA (by first | assumption | rfl | (simp (disch := first | exact xD | fail) [-bind_some, -Aa, -Ab, X7']; done)) ((Ac Ad).trans X6') (q2.up Ad) (q3.Aj fun b hb hbl => Ac (q4 b hb).2.2.2) (fun b hb => by have := q4 b hb; simp only [size_setRow]; exact this) (q5.set Ad _)) hQ
   simp (disch := first | exact xD | fail) [-bind_some, -Aa, -Ab, e2, e8, show (k : Int) < 60 by omega, show (k : Int) < evs.length by omega]
   refine Jq _ _ ?_
   simp (disch := first | exact xD | fail) [-bind_some, qs, -Aa, -Ab, e2, e7, e8, X7, XI, E0.Ai, t0, t1, t2, t3, t4, t5]
   constructor
   ·refine Af.mono (Rs (S := T) hf Ad hvx (ho.ext xE)) ?_
    rintro ⟨v2, w2⟩ ⟨cs', st', q, hv2, hq, f2, o2, M2⟩
    have zM2 := M2.size
    try simp only [qz] at zM2
    try dsimp only at hv2 o2 M2
    subst hv2
    have zM2 := M2.size
    simp only [Ak] at zM2 o2
    obtain ⟨u5, l5, d5, u6, l6, d6, u7, l7, d7, u8, l8, d8, rfl⟩ := o2.Cv
    have K2 : ∀ b, b < W.heap.size → ¬ T b → hp w2 b = hp W b := fun b hb h => (M2.Ai b xB h).trans (BW _ _)
    have N7 := K2 b7 y7 (nT _ Ad)
    have N6 := K2 b6 y6 (nT _ Ad)
    have Nb := K2 b5 Ad (nT _ (.inl y5))
    have E2 : Ext w0 w2 := Mod.after (E0.tr (Cn W)) M2 (fun b h1 h2 => nT b (.inl h1) h2)
    have zE2 := E2.size
    try simp only [qz] at zE2
    simp (disch := first | exact xD | fail) [-bind_some, qs, -Aa, -Ab, qm, N7, Nb, X7, E0.Ai, t0, t1, t2, t3, t4, t5]
    refine jn _ _ w2.heap.size _ _ _ _ _ _ _ _ _ _ _ _ st' (fun b => T b ∨ In W.heap.size w2.heap.size b) xA xA xA xA xA (by first | assumption | rfl | (simp (disch := first | exact xD | fail) [-bind_some, qs, -Aa, -Ab]; done)) ?_ ?_ f2 (o2.Aj fun b hb hbl => (Ac Ad).trans (Ag hbl)) ?_ ((E2.al _).set Ad _)
    ·exact (Ac Ad).trans ((Ag Ad).trans (N7.trans X7))
    ·exact (Ac Ad).trans ((Ag Ad).trans (N6.trans X6))
    ·intro b hb
     simp only [World.size_alloc, size_setRow]
     rcases hb with h | h
     ·have := hT b h
      exact ⟨this.1, by omega, this.2.2⟩
     ·simp only [In] at h
      omega
   ·refine Af.mono (Rs (S := T) hf Ad hvx (ho.ext xE)) ?_
    rintro ⟨v2, w2⟩ ⟨cs', st', q, hv2, hq, f2, o2, M2⟩
    have zM2 := M2.size
    try simp only [qz] at zM2
    try dsimp only at hv2 o2 M2
    subst hv2
    have zM2 := M2.size
    simp only [Ak, World.size_alloc] at zM2 o2
    obtain ⟨u5, l5, d5, u6, l6, d6, u7, l7, d7, u8, l8, d8, rfl⟩ := o2.Cv
    have K2 : ∀ b, b < W.heap.size → ¬ T b → hp w2 b = hp W b := fun b hb h => (M2.Ai b xB h).trans ((Ag (by simp only [Ak]; omega)).trans (BW _ _))
    have N7 := K2 b7 y7 (nT _ Ad)
    have N6 := K2 b6 y6 (nT _ Ad)
    have Nb := K2 b5 Ad (nT _ (.inl y5))
    have Nx : hp w2 W.heap.size = some (.cells #[.slice none 0 0, .slice none 0 0, .slice none 0 0, .slice none 0 0] 67 (0, 0)) := (M2.Ai _ xB (nT _ Ad)).trans (by first | assumption | rfl | (simp (disch := first | exact xD | fail) [-bind_some, qs, -Aa, -Ab]; done))
    have E2 : Ext w0 w2 := Mod.after ((E0.tr (Cn W)).al _) M2 (fun b h1 h2 => nT b (.inl h1) h2)
    have zE2 := E2.size
    try simp only [qz] at zE2
    simp (disch := first | exact xD | fail) [-bind_some, qs, -Aa, -Ab, qm, Nx]
    refine jn _ _ W.heap.size _ _ _ _ _ _ _ _ _ _ _ _ st' (fun b => T b ∨ In (W.heap.size + 1) w2.heap.size b) xA xA xA xA xA (by first | assumption | rfl | (simp (disch := first | exact xD | fail) [-bind_some, -Aa, -Ab, Nx]; done)) ?_ ?_ f2 (o2.Aj fun b hb hbl => Ac ?_) ?_ (E2.set Ad _)
    ·exact (Ac Ad).trans (N7.trans X7)
    ·exact (Ac Ad).trans (N6.trans X6)
    ·rcases hb with h | h
     ·have := hT b h; omega
     ·simp only [In] at h; omega
    ·intro b hb
     simp only [size_setRow]
     rcases hb with h | h
     ·have := hT b h
      exact ⟨this.1, by omega, this.2.2⟩
     ·simp only [In] at h
      omega
  ·refine Af.post fun Q hQ => ?_
   simp (disch := first | exact xD | fail) [-bind_some, -Aa, -Ab, qm, e2, e6, e7, e8, X6, X7, show ¬ (k : Int) < evs.length by omega]
   exact out k W _ st T Q Ad X7 hf ho hT E0 hQ
theorem Ur {m sN n c : Nat} {a : Option Addr} {Te : Nat → Prop} {evs : List EventD} {w : World} (hm : m < 4) (hsN : sN ≤ 4) (hD : D NO Te w [.slice a n c] evs) (hx : ∀ x ∈ evs, x.text.size ≤ 1000) :
  Af (EV P 53 #[i64 (1 + (m : Int)), i64 sN, .slice a n c] w) fun r => ∃ (cs' : List Value) (st' : WorldD), r.1 = .agg cs'.toArray ∧ B6 1000 st' ∧ O tW (In w.heap.size r.2.heap.size) r.2 cs' st' ∧ Ext w r.2 := by
 refine Af.post fun Q hQ => ?_
 refine Bw (Mq _ _ _ _) ?_
 simp (disch := first | exact xD | fail) [-bind_some, qs, -Aa, -Ab]
 refine Af.bind (R7 hm hsN) ?_
 rintro ⟨_, w1⟩ ⟨cs, st, rfl, f1, o1, E1⟩
 try dsimp only at cs st f1 o1 E1
 have zE1 := E1.size
 try simp only [qz] at zE1
 obtain ⟨u5, l5, d5, u6, l6, d6, u7, l7, d7, u8, l8, d8, rfl⟩ := o1.Cv
 simp only [World.size_alloc] at o1
 have N6 : hp w1 w.heap.size = some (.cells #[.slice none 0 0, .slice none 0 0, .slice none 0 0, .slice none 0 0] 67 (0, 0)) := (E1.Ai xB).trans (by first | assumption | rfl | (simp (disch := first | exact xD | fail) [-bind_some, qs, -Aa, -Ab]; done))
 simp (disch := first | exact xD | fail) [-bind_some, -Aa, -Ab, qm]
 refine Af.mono (Uq (b6 := w.heap.size) (b7 := w1.heap.size) (w0 := w) (Nat.le_refl _) Ad hD hx 60 0 _ _ _ st (In (w.heap.size + 1) w1.heap.size) Ad rfl rfl rfl xA (by first | assumption | rfl | (simp (disch := first | exact xD | fail) [-bind_some, qs, -Aa, -Ab]; done)) ((Ac Ad).trans ((Ag Ad).trans N6)) f1 (o1.Aj fun b hb hbl => (Ac Ad).trans (Ag hbl)) (fun b h => by simp only [In] at h; simp only [World.size_alloc, size_setRow]; omega) xE) hQ
end Go.Proofs.YtkhbpmhagpljiaaGreatDoor.X
namespace Go.Proofs.YtkhbpmhagpljiaaGreatDoor.X
open Go Go.Ev Go.RowKit
open Option (bind_some)
theorem Us {a : Option Addr} {c : Nat} {S : Nat → Prop} {xs : List Ver} {w0 : World} (hD : D AW S w0 [.slice a xs.length c] xs) :
  ∀ (d k : Nat) (e : Env) (W : World) (a' : Option Addr) (c' : Nat), k + d = xs.length → e 0 = .slice a xs.length c → e 3 = .slice a' k c' → e 4 = i64 k → O AW (In w0.heap.size W.heap.size) W [.slice a' k c'] (xs.take k) → Ext w0 W →
   Af (Ec e W) fun r => ∃ (a2 : Option Addr) (c2 : Nat), r.1 = .slice a2 xs.length c2 ∧ O AW (In w0.heap.size r.2.heap.size) r.2 [.slice a2 xs.length c2] xs ∧ Ext w0 r.2 := by
 have hmx := hD.n.2.1
 intro d
 induction d with
 | zero =>
  intro k e W a' c' hd e0 e3 e4 oo E0
  have zE0 := E0.size
  try simp only [qz] at zE0
  rw [Gp]
  obtain rfl : k = xs.length := by omega
  rw [List.take_length] at oo
  refine Af.post fun Q hQ => ?_
  simp (disch := first | exact xD | fail) [-bind_some, -Aa, -Ab, e0, e3, e4]
  exact hQ _ ⟨_, _, rfl, oo, E0⟩
 | succ d ih =>
  intro k e W a' c' hd e0 e3 e4 oo E0
  have zE0 := E0.size
  try simp only [qz] at zE0
  rw [Gp]
  have hlt : k < xs.length := by omega
  obtain ⟨v, hv, _⟩ := An hlt
  obtain ⟨b5, o5, cs5, rfl, A5, D5, _, _⟩ := hD.at AD hv
  have D5' := D5
  obtain ⟨av, cv, rfl, _, _⟩ := D.Cq.1 D5'
  have t0 := A5 0 _ rfl
  have t1 := A5 1 _ rfl
  have t2 := A5 2 _ rfl
  have t3 := A5 3 _ rfl
  have t4 := A5 4 _ rfl
  have t5 := A5 5 _ rfl
  simp only [Co, Nat.add_zero] at t0 t1 t2 t3 t4 t5
  have htk : (xs.take k).length = k := by rw [List.length_take]; omega
  refine Af.post fun Q hQ => ?_
  simp (disch := first | exact xD | fail) [-bind_some, qs, -Aa, -Ab, e0, e3, e4, hlt, Ck, E0.Ai, t0, t1, t2, t3, t4, t5]
  refine Af.bind (Bf (D5.ext xE)) ?_
  rintro ⟨_, w1⟩ ⟨ds, rfl, o2, E1⟩
  try dsimp only at ds o2 E1
  have zE1 := E1.size
  try simp only [qz] at zE1
  have zo2 := O.Cq.1 o2
  obtain ⟨a5, c5, rfl, _, _⟩ := zo2
  have zE0' := E0.size
  simp (disch := first | exact xD | fail) [-bind_some, -Aa, -Ab]
  refine Af.bind (O.app (L := Cu) (mx := 1954687338211) (xs := xs.take k) (x := v) (cs := [i64 v.key, i64 v.tag.t, i64 v.tag.p, .slice a5 v.past.length c5, .string v.text, .bool v.gone]) DK D8 rfl AD (oo.ext (E1.al _)) (o2.Aj fun b hb hbl => Ag hbl) (fun b hb h1 h2 => by simp only [In] at h1 h2; omega) (At.nw rfl) Ad AD AD) ?_
  rintro ⟨_, w3⟩ ⟨a8, c8, rfl, o8, M8⟩
  have zM8 := M8.size
  try simp only [qz] at zM8
  try dsimp only at o8 M8
  have zM8 := M8.size
  simp only [World.size_alloc] at zM8 o8
  have F3 : Ext w0 w3 := Mod.after ((E0.tr E1).al _) M8 (fun b h1 h2 => by simp only [In] at h2; omega)
  have hts : xs.take k ++ [v] = xs.take (k + 1) := by rw [List.take_add_one, hv]; rfl
  rw [htk, hts] at o8
  rw [htk]
  simp (disch := first | exact xD | fail) [-bind_some, -Aa, -Ab]
  exact Af.mono (ih (k + 1) _ w3 a8 c8 Ad xA xA xA (o8.wide fun b hb hbl => by simp only [In] at hb ⊢; omega) F3) hQ
theorem Kn {a : Option Addr} {n c : Nat} {S : Nat → Prop} {xs : List Ver} {w : World} (hD : D AW S w [.slice a n c] xs) :
  Af (EV P 87 #[.slice a n c] w) fun r => ∃ (a2 : Option Addr) (c2 : Nat), r.1 = .slice a2 xs.length c2 ∧ O AW (In w.heap.size r.2.heap.size) r.2 [.slice a2 xs.length c2] xs ∧ Ext w r.2 := by
 obtain ⟨rfl, _⟩ := hD.n
 refine Af.post fun Q hQ => ?_
 refine Bw (MI _ _) ?_
 simp (disch := first | exact xD | fail) [-bind_some, -Aa, -Ab]
 exact Af.mono (Us hD xs.length 0 _ _ _ _ Ad rfl rfl rfl ((O.empty (L := Cu) (mx := 1954687338211) (g := w.heap.size) (by first | assumption | rfl | (simp (disch := first | exact xD | fail) [-bind_some, qs, -Aa, -Ab]; done))).wide fun b hb hbl => by subst hb; simp only [In, World.size_alloc]; omega) xE) hQ
theorem Ut {a2 : Option Addr} {c2 g1 g2 g3 : Nat} {S : Nat → Prop} {p : PlaceD} {acl al0 : Value} {a0 al1 : Option Addr} {c0 cl1 : Nat} {v0 v1 v2 v3 v5 : Value} {w0 w1 : World} {T : Nat → Prop} (hD : D QV S w0 [.slice a2 p.BQ.length c2] p.BQ) (hg : w0.heap.size ≤ g1 ∧ w0.heap.size ≤ g2 ∧ w0.heap.size ≤ g3) (hne : g1 ≠ g2 ∧ g1 ≠ g3 ∧ g2 ≠ g3) (hz : g1 < w1.heap.size ∧ g2 < w1.heap.size ∧ g3 < w1.heap.size) (E01 : Ext w0 w1) (hc4 : p.chain.length ≤ 1000) :
  ∀ (d k : Nat) (e : Env) (W : World) (a' : Option Addr) (c' : Nat), k + d = p.BQ.length → e 1 = pt g1 0 → e 2 = pt g2 0 → e 3 = pt g3 0 → e 4 = i64 k →
   hp W g1 = some (.cells #[i64 p.me, i64 p.clock, .slice a0 p.chain.length c0, .slice al1 p.log.length cl1, .slice a2 p.BQ.length c2, .bool p.fell] 102 (0, 0)) → hp W g2 = some (.cells #[i64 0, i64 0, .slice none 0 0, .slice none 0 0, .slice none 0 0, .bool false] 102 (0, 0)) →
   (∃ (a5 : Option Addr) (c5 : Nat) (a6 : Option Addr) (c6 : Nat) (S1 S2 : Nat → Prop), hp W g3 = some (.cells #[i64 p.me, i64 p.clock, .slice a5 p.chain.length c5, .slice a6 p.log.length c6, .slice a' k c', .bool p.fell] 102 (0, 0)) ∧ O Bb S1 W [.slice a5 p.chain.length c5] p.chain ∧ O AW S2 W [.slice a6 p.log.length c6] p.log ∧
    (∀ b, S1 b → w0.heap.size ≤ b ∧ b < w1.heap.size ∧ b ≠ g1 ∧ b ≠ g2 ∧ b ≠ g3) ∧ (∀ b, S2 b → w0.heap.size ≤ b ∧ b < w1.heap.size ∧ b ≠ g1 ∧ b ≠ g2 ∧ b ≠ g3) ∧ (∀ b, S1 b → ¬ S2 b)) →
   O QV (In w1.heap.size W.heap.size) W [.slice a' k c'] (p.BQ.take k) → Ext w0 W → w1.heap.size ≤ W.heap.size →
   Af (DY e W) fun r => ∃ cs', r.1 = .agg cs'.toArray ∧ O Kp (In w0.heap.size r.2.heap.size) r.2 cs' p ∧ Ext w0 r.2 := by
 have hmx := hD.n.2.1
 intro d
 induction d with
 | zero =>
  intro k e W a' c' hd e1 e2 e3 e4 X1 X2 hx oo E0 hzW
  have zE0 := E0.size
  try simp only [qz] at zE0
  obtain ⟨a5, c5, a6, c6, S1, S2, X3, o1, o2, k1, k2, k12⟩ := hx
  rw [Gk]
  obtain rfl : k = p.BQ.length := by omega
  rw [List.take_length] at oo
  refine Af.post fun Q hQ => ?_
  simp (disch := first | exact xD | fail) [-bind_some, -Aa, -Ab, qm, e1, e2, e3, e4, X1, X2, X3]
  refine hQ _ ⟨_, rfl, (O.Fi (p := p) (S1 := S1) (S2 := S2) (S3 := In w1.heap.size W.heap.size) (o1.Aj fun b hb hbl => Ac (k1 b hb).2.2.2.1) (o2.Aj fun b hb hbl => Ac (k2 b hb).2.2.2.1) (oo.Aj fun b hb hbl => Ac (by simp only [In] at hb; omega)) (fun b _ h => k12 b h) (fun b _ h h' => by have := k1 b h; simp only [In] at h'; omega) (fun b _ h h' => by have := k2 b h; simp only [In] at h'; omega)).wide ?_, E0.set hg.2.1 _⟩
  intro b hb hbl
  simp only [In, size_setRow] at hbl ⊢
  rcases hb with h | h | h
  ·have := k1 b h; omega
  ·have := k2 b h; omega
  ·simp only [In] at h; have := E01.size; omega
 | succ d ih =>
  intro k e W a' c' hd e1 e2 e3 e4 X1 X2 hx oo E0 hzW
  have zE0 := E0.size
  try simp only [qz] at zE0
  obtain ⟨a5, c5, a6, c6, S1, S2, X3, o1, o2, k1, k2, k12⟩ := hx
  rw [Gk]
  have hlt : k < p.BQ.length := by omega
  obtain ⟨l, hl, _⟩ := An hlt
  obtain ⟨b5, o5, cs5, rfl, A5, D5, _, _⟩ := hD.at AD hl
  obtain ⟨av, cv, rfl, D6⟩ := D5.It
  have t0 := A5 0 _ rfl
  simp only [Nat.add_zero] at t0
  simp only [HK, Nat.mul_one] at t0
  have htk : (p.BQ.take k).length = k := by rw [List.length_take]; omega
  have y1 := Aq X1
  have y2 := Aq X2
  have y3 := Aq X3
  refine Af.post fun Q hQ => ?_
  simp (disch := first | exact xD | fail) [-bind_some, qs, -Aa, -Ab, e1, e3, e4, X1, X3, hlt, GR, E0.Ai, t0]
  refine Af.bind (Kn (D6.ext xE)) ?_
  rintro ⟨_, w2⟩ ⟨a9, c9, rfl, o9, E1⟩
  try dsimp only at a9 c9 o9 E1
  have zE1 := E1.size
  try simp only [qz] at zE1
  simp only [Ak] at zE1 o9
  have F1 : Ext W w2 := xE
  have N1 := (F1.Ai y1).trans X1
  have N2 := (F1.Ai y2).trans X2
  have N3 := (F1.Ai y3).trans X3
  simp (disch := first | exact xD | fail) [-bind_some, qs, -Aa, -Ab, N3]
  refine Af.bind (O.app (L := AW) (mx := 5864062014805) (xs := p.BQ.take k) (x := l) (cs := [.slice a9 l.length c9]) Pu TA rfl AD (oo.ext (F1.al _)) (o9.Aj fun b hb hbl => Ag hbl) (fun b hb h1 h2 => by simp only [In] at h1 h2; omega) (At.nw rfl) Ad AD AD) ?_
  rintro ⟨_, w3⟩ ⟨a8, c8, rfl, o8, M8⟩
  have zM8 := M8.size
  try simp only [qz] at zM8
  try dsimp only at o8 M8
  have zM8 := M8.size
  simp only [World.size_alloc] at zM8 o8
  have k8 : ∀ b, b < w1.heap.size → hp w3 b = hp W b := fun b hb => (M8.Ai b xB (fun h => by simp only [In] at h; omega)).trans ((Ag Ad).trans (F1.Ai Ad))
  have hz01 := E01.size
  have F3 : Ext w0 w3 := Mod.after ((E0.tr F1).al _) M8 (fun b h1 h2 => by simp only [In] at h2; omega)
  have hts : p.BQ.take k ++ [l] = p.BQ.take (k + 1) := by rw [List.take_add_one, hl]; rfl
  rw [htk, hts] at o8
  rw [htk]
  have L1 := (k8 g1 hz.1).trans X1
  have L2 := (k8 g2 hz.2.1).trans X2
  have L3 := (k8 g3 hz.2.2).trans X3
  simp (disch := first | exact xD | fail) [-bind_some, -Aa, -Ab, qm, L3]
  refine Af.mono (ih (k + 1) _ _ a8 c8 Ad xA xA xA xA ((Ac hne.2.1).trans L1) ((Ac hne.2.2).trans L2) ⟨a5, c5, a6, c6, S1, S2, (by first | assumption | rfl | (simp (disch := first | exact xD | fail) [-bind_some, -Aa, -Ab, L3]; done)), o1.Aj fun b hb _ => (Ac (k1 b hb).2.2.2.2).trans (k8 b (k1 b hb).2.1), o2.Aj fun b hb _ => (Ac (k2 b hb).2.2.2.2).trans (k8 b (k2 b hb).2.1), k1, k2, k12⟩ ((o8.Aj fun b hb hbl => Ac ?_).wide ?_) (F3.set hg.2.2 _) (by simp only [size_setRow]; omega)) hQ
  ·rcases hb with h | h | h
   ·simp only [In] at h; omega
   ·simp only [In] at h; omega
   ·omega
  ·intro b hb hbl
   simp only [In, size_setRow] at hb hbl ⊢
   omega
theorem Uu {M : Nat} {S : Nat → Prop} {cs : List Value} {p : PlaceD} {w : World} (hD : D Kp S w cs p) (hc4 : p.chain.length ≤ 1000) :
  Af (EV P 65 #[.agg cs.toArray] w) fun r => ∃ cs', r.1 = .agg cs'.toArray ∧ O Kp (In w.heap.size r.2.heap.size) r.2 cs' p ∧ Ext w r.2 := by
 obtain ⟨a0, c0, al1, cl1, a2, c2, rfl, q1, q2, q3⟩ := D.place.1 hD
 have hgn := q3.n
 refine Af.post fun Q hQ => ?_
 refine Bw (Ms _ _) ?_
 simp (disch := first | exact xD | fail) [-bind_some, -Aa, -Ab]
 refine Js _ _ ?_
 simp (disch := first | exact xD | fail) [-bind_some, qs, -Aa, -Ab]
 have J : ∀ (e' : Env) (W : World) (a5 : Option Addr) (c5 : Nat) (a6 : Option Addr) (c6 g3 : Nat) (S1 S2 : Nat → Prop), e' 1 = pt w.heap.size 0 → e' 2 = pt (w.heap.size + 1) 0 → e' 3 = pt g3 0 → w.heap.size + 2 ≤ g3 → hp W w.heap.size = some (.cells #[i64 p.me, i64 p.clock, .slice a0 p.chain.length c0, .slice al1 p.log.length cl1, .slice a2 p.BQ.length c2, .bool p.fell] 102 (0, 0)) → hp W (w.heap.size + 1) = some (.cells #[i64 0, i64 0, .slice none 0 0, .slice none 0 0, .slice none 0 0, .bool false] 102 (0, 0)) →
   hp W g3 = some (.cells #[i64 p.me, i64 p.clock, .slice a5 p.chain.length c5, .slice a6 p.log.length c6, .slice none 0 0, .bool p.fell] 102 (0, 0)) → O Bb S1 W [.slice a5 p.chain.length c5] p.chain → O AW S2 W [.slice a6 p.log.length c6] p.log → (∀ b, S1 b → w.heap.size + 2 ≤ b ∧ b < W.heap.size ∧ b ≠ g3) → (∀ b, S2 b → w.heap.size + 2 ≤ b ∧ b < W.heap.size ∧ b ≠ g3) → (∀ b, S1 b → ¬ S2 b) → Ext w W → Af (CO e' W) Q := by
  intro e' W a5 c5 a6 c6 g3 S1 S2 e1 e2 e3 hg3 X1 X2 X3 o1 o2 k1 k2 k12 E0
  have zE0 := E0.size
  try simp only [qz] at zE0
  have y1 := Aq X1
  have y2 := Aq X2
  have y3 := Aq X3
  rw [JO]
  simp (disch := first | exact xD | fail) [-bind_some, -Aa, -Ab]
  exact Af.mono (Ut (w0 := w) (w1 := W) (g1 := w.heap.size) (g2 := w.heap.size + 1) (g3 := g3) (T := S1) (acl := i64 0) (al0 := i64 0) (v0 := i64 0) (v1 := i64 0) (v2 := i64 0) (v3 := i64 0) (v5 := i64 0) (a0 := a0) (c0 := c0) (al1 := al1) (cl1 := cl1) q3 Ad Ad ⟨y1, y2, y3⟩ E0 hc4 p.BQ.length 0 _ W none 0 Ad xA xA xA rfl X1 X2 ⟨a5, c5, a6, c6, S1, S2, X3, o1, o2, fun b h => by have := k1 b h; omega, fun b h => by have := k2 b h; omega, k12⟩ O.nil E0 (Nat.le_refl _)) hQ
 refine ⟨?_, ?_⟩
 ·skip
  refine Af.mono (Jc (q1.ext xE)) ?_
  rintro ⟨_, w1⟩ ⟨a5, c5, rfl, o1, E1⟩
  try dsimp only at a5 c5 o1 E1
  have zE1 := E1.size
  try simp only [qz] at zE1
  try simp only [Ak, World.size_alloc] at zE1 o1
  simp (disch := first | exact xD | fail) [-bind_some, qs, -Aa, -Ab, E1.Ai]
  refine ⟨?_, ?_⟩
  ·skip
   refine Af.mono (Kn (q2.ext xE)) ?_
   rintro ⟨_, w2⟩ ⟨a6, c6, rfl, o2, E2⟩
   try dsimp only at a6 c6 o2 E2
   have zE2 := E2.size
   try simp only [qz] at zE2
   try simp only [Ak, World.size_alloc] at zE2 o2
   have F2 : Ext w w2 := xE
   simp (disch := first | exact xD | fail) [-bind_some, qs, -Aa, -Ab, qm, E1.Ai, E2.Ai]
   refine J _ _ a5 c5 a6 c6 (w2.heap.size) (In (w.heap.size + 1 + 1) w1.heap.size) (In (w1.heap.size) w2.heap.size) xA xA xA Ad (by first | assumption | rfl | (simp (disch := first | exact xD | fail) [-bind_some, qs, -Aa, -Ab, E1.Ai, E2.Ai]; done)) (by first | assumption | rfl | (simp (disch := first | exact xD | fail) [-bind_some, qs, -Aa, -Ab, E1.Ai, E2.Ai]; done)) (by first | assumption | rfl | (simp (disch := first | exact xD | fail) [-bind_some, qs, -Aa, -Ab]; done)) ?_ ?_ ?_ ?_ (fun b h h' => by simp only [In] at h h'; omega) xE
   ·exact (o1.Aj fun b hb hbl => by simp only [In] at hb; exact ((Ac Ad).trans (Ag Ad)).trans (E2.Ai Ad)).wide fun b h _ => h
   ·exact (o2.Aj fun b hb hbl => by simp only [In] at hb; exact (Ac Ad).trans (Ag Ad)).wide fun b h _ => h
   ·intro b h
    simp only [In] at h
    (try simp only [World.size_alloc, size_setRow]); omega
   ·intro b h
    simp only [In] at h
    (try simp only [World.size_alloc, size_setRow]); omega
  ·skip
   refine Af.mono (Kn (q2.ext xE)) ?_
   rintro ⟨_, w2⟩ ⟨a6, c6, rfl, o2, E2⟩
   try dsimp only at a6 c6 o2 E2
   have zE2 := E2.size
   try simp only [qz] at zE2
   try simp only [World.size_alloc] at zE2 o2
   have F2 : Ext w w2 := xE
   have N3 : hp w2 (w1.heap.size) = some (.cells #[i64 0, i64 0, .slice none 0 0, .slice none 0 0, .slice none 0 0, .bool false] 102 (0, 0)) := (by first | assumption | rfl | (simp (disch := first | exact xD | fail) [-bind_some, qs, -Aa, -Ab, E2.Ai]; done))
   simp (disch := first | exact xD | fail) [-bind_some, qs, -Aa, -Ab, qm, N3, E1.Ai, E2.Ai]
   refine J _ _ a5 c5 a6 c6 (w1.heap.size) (In (w.heap.size + 1 + 1) w1.heap.size) (In (w1.heap.size + 1) w2.heap.size) xA xA xA Ad (by first | assumption | rfl | (simp (disch := first | exact xD | fail) [-bind_some, qs, -Aa, -Ab, E1.Ai, E2.Ai]; done)) (by first | assumption | rfl | (simp (disch := first | exact xD | fail) [-bind_some, qs, -Aa, -Ab, E1.Ai, E2.Ai]; done)) (by first | assumption | rfl | (simp (disch := first | exact xD | fail) [-bind_some, -Aa, -Ab, N3]; done)) ?_ ?_ ?_ ?_ (fun b h h' => by simp only [In] at h h'; omega) xE
   ·exact (o1.Aj fun b hb hbl => by simp only [In] at hb; exact (Ac Ad).trans ((E2.Ai (by simp only [World.size_alloc]; omega)).trans (Ag Ad))).wide fun b h _ => h
   ·exact (o2.Aj fun b hb hbl => by simp only [In] at hb; exact Ac Ad).wide fun b h _ => h
   ·intro b h
    simp only [In] at h
    (try simp only [size_setRow]); omega
   ·intro b h
    simp only [In] at h
    (try simp only [size_setRow]); omega
 ·skip
  refine Af.mono (Jc (q1.ext xE)) ?_
  rintro ⟨_, w1⟩ ⟨a5, c5, rfl, o1, E1⟩
  try dsimp only at a5 c5 o1 E1
  have zE1 := E1.size
  try simp only [qz] at zE1
  try simp only [Ak, World.size_alloc] at zE1 o1
  simp (disch := first | exact xD | fail) [-bind_some, qs, -Aa, -Ab, E1.Ai]
  refine Af.mono (Kn (q2.ext xE)) ?_
  rintro ⟨_, w2⟩ ⟨a6, c6, rfl, o2, E2⟩
  try dsimp only at a6 c6 o2 E2
  have zE2 := E2.size
  try simp only [qz] at zE2
  try simp only [Ak, World.size_alloc] at zE2 o2
  have F2 : Ext w w2 := xE
  have N3 : hp w2 (w.heap.size + 1 + 1) = some (.cells #[i64 0, i64 0, .slice none 0 0, .slice none 0 0, .slice none 0 0, .bool false] 102 (0, 0)) := (by first | assumption | rfl | (simp (disch := first | exact xD | fail) [-bind_some, qs, -Aa, -Ab, E1.Ai, E2.Ai]; done))
  simp (disch := first | exact xD | fail) [-bind_some, qs, -Aa, -Ab, qm, N3, E1.Ai, E2.Ai]
  refine J _ _ a5 c5 a6 c6 (w.heap.size + 1 + 1) (In (w.heap.size + 1 + 1 + 1) w1.heap.size) (In (w1.heap.size) w2.heap.size) xA xA xA Ad (by first | assumption | rfl | (simp (disch := first | exact xD | fail) [-bind_some, qs, -Aa, -Ab, E1.Ai, E2.Ai]; done)) (by first | assumption | rfl | (simp (disch := first | exact xD | fail) [-bind_some, qs, -Aa, -Ab, E1.Ai, E2.Ai]; done)) (by first | assumption | rfl | (simp (disch := first | exact xD | fail) [-bind_some, -Aa, -Ab, N3]; done)) ?_ ?_ ?_ ?_ (fun b h h' => by simp only [In] at h h'; omega) xE
  ·exact (o1.Aj fun b hb hbl => by simp only [In] at hb; exact (Ac Ad).trans (E2.Ai Ad)).wide fun b h _ => h
  ·exact (o2.Aj fun b hb hbl => by simp only [In] at hb; exact Ac Ad).wide fun b h _ => h
  ·intro b h
   simp only [In] at h
   (try simp only [size_setRow]); omega
  ·intro b h
   simp only [In] at h
   (try simp only [size_setRow]); omega
theorem Uv {g1 g2 g3 : Nat} {a1 a2 a3 a4 b1 b2 b4 : Option Addr} {c1 c2 c3 c4 n1 n2 n4 d1 d2 d4 m1 m2 m4 : Nat} {S T1 T2 T4 : Nat → Prop} {st : WorldD} {w0 W3 : World} (hD : D (FF 39 112) S w0 [.slice a3 st.net.length c3] st.net) (hg : w0.heap.size ≤ g1 ∧ w0.heap.size ≤ g2 ∧ w0.heap.size ≤ g3) (hne : g1 ≠ g2 ∧ g1 ≠ g3 ∧ g2 ≠ g3) (hz : g1 < W3.heap.size ∧ g2 < W3.heap.size ∧ g3 < W3.heap.size) (E03 : Ext w0 W3)
  (Pt : UL W3 ⟨st.places, st.Ay, [], st.AM⟩ (.slice b1 m1 d1) (.slice b2 m2 d2) (.slice none 0 0) (.slice b4 m4 d4) T1 T2 (fun _ => False) T4) (hT : ∀ b, T1 b ∨ T2 b ∨ T4 b → w0.heap.size ≤ b ∧ b < W3.heap.size ∧ b ≠ g2 ∧ b ≠ g3) :
  ∀ (d k : Nat) (e : Env) (W : World) (a' : Option Addr) (c' : Nat), k + d = st.net.length → e 1 = pt g1 0 → e 2 = pt g2 0 → e 3 = pt g3 0 → e 7 = i64 k →
   hp W g1 = some (.cells #[.slice a1 n1 c1, .slice a2 n2 c2, .slice a3 st.net.length c3, .slice a4 n4 c4] 67 (0, 0)) → hp W g2 = some (.cells #[.slice none 0 0, .slice none 0 0, .slice none 0 0, .slice none 0 0] 67 (0, 0)) → hp W g3 = some (.cells #[.slice b1 m1 d1, .slice b2 m2 d2, .slice a' k c', .slice b4 m4 d4] 67 (0, 0)) →
   (∀ b, b < W3.heap.size → b ≠ g3 → hp W b = hp W3 b) → O (FF 39 112) (In W3.heap.size W.heap.size) W [.slice a' k c'] (st.net.take k) → Ext w0 W → W3.heap.size ≤ W.heap.size →
   Af (DT e W) fun r => ∃ cs', r.1 = .agg cs'.toArray ∧ O tW (In w0.heap.size r.2.heap.size) r.2 cs' st ∧ Ext w0 r.2 := by
 have hmx := hD.n.2.1
 intro d
 induction d with
 | zero =>
  intro k e W a' c' hd e1 e2 e3 e7 X1 X2 X3 hk oo E0 hzW
  have zE0 := E0.size
  try simp only [qz] at zE0
  rw [Gi]
  obtain rfl : k = st.net.length := by omega
  rw [List.take_length] at oo
  refine Af.post fun Q hQ => ?_
  simp (disch := first | exact xD | fail) [-bind_some, -Aa, -Ab, qm, e1, e2, e3, e7, X1, X2, X3]
  have P2 : UL W st (.slice b1 m1 d1) (.slice b2 m2 d2) (.slice a' st.net.length c') (.slice b4 m4 d4) T1 T2 (In W3.heap.size W.heap.size) T4 :=
   ⟨Pt.o1.Aj fun b hb _ => hk b (hT b (.inl hb)).2.1 (hT b (.inl hb)).2.2.2, Pt.o2.Aj fun b hb _ => hk b (hT b (.inr (.inl hb))).2.1 (hT b (.inr (.inl hb))).2.2.2, oo, Pt.o4.Aj fun b hb _ => hk b (hT b (.inr (.inr hb))).2.1 (hT b (.inr (.inr hb))).2.2.2,
    fun b _ q q' => Pt.d12 b (hT b (.inl q)).2.1 q q', fun b _ q q' => by have := hT b (.inl q); simp only [In] at q'; omega, fun b _ q q' => Pt.d14 b (hT b (.inl q)).2.1 q q',
    fun b _ q q' => by have := hT b (.inr (.inl q)); simp only [In] at q'; omega, fun b _ q q' => Pt.d24 b (hT b (.inr (.inl q))).2.1 q q', fun b _ q q' => by have := hT b (.inr (.inr q')); simp only [In] at q; omega⟩
  refine hQ _ ⟨_, rfl, (P2.mk'.Aj fun b hb hbl => Ac ?_).wide ?_, E0.set hg.2.1 _⟩
  ·rcases hb with h | h | h | h
   ·exact (hT b (.inl h)).2.2.1
   ·exact (hT b (.inr (.inl h))).2.2.1
   ·simp only [In] at h; omega
   ·exact (hT b (.inr (.inr h))).2.2.1
  ·intro b hb hbl
   have := E03.size
   simp only [In, size_setRow] at hbl ⊢
   rcases hb with h | h | h | h
   ·have := hT b (.inl h); omega
   ·have := hT b (.inr (.inl h)); omega
   ·simp only [In] at h; omega
   ·have := hT b (.inr (.inr h)); omega
 | succ d ih =>
  intro k e W a' c' hd e1 e2 e3 e7 X1 X2 X3 hk oo E0 hzW
  have zE0 := E0.size
  try simp only [qz] at zE0
  rw [Gi]
  have hlt : k < st.net.length := by omega
  obtain ⟨f, hf, _⟩ := An hlt
  obtain ⟨b5, o5, cs5, rfl, A5, D5, _, _⟩ := hD.at AD hf
  obtain ⟨ds, rfl, D6⟩ := D.frame.1 D5
  have D6' := D6
  obtain ⟨av, cv, rfl, _, _⟩ := D.Cq.1 D6'
  have t0 := A5 0 _ rfl
  have t1 := A5 1 _ rfl
  have t2 := A5 2 _ rfl
  have t3 := A5 3 _ rfl
  have t4 := A5 4 _ rfl
  have t5 := A5 5 _ rfl
  have t6 := A5 6 _ rfl
  have t7 := A5 7 _ rfl
  have t8 := A5 8 _ rfl
  simp only [Nat.add_zero] at t0 t1 t2 t3 t4 t5 t6 t7 t8
  simp only [Qi] at t0 t1 t2 t3 t4 t5 t6 t7 t8
  have htk : (st.net.take k).length = k := by rw [List.length_take]; omega
  have y1 := Aq X1
  have y2 := Aq X2
  have y3 := Aq X3
  refine Af.post fun Q hQ => ?_
  simp (disch := first | exact xD | fail) [-bind_some, qs, -Aa, -Ab, qm, e1, e3, e7, X1, hlt, Tv, E0.Ai, t0, t1, t2, t3, t4, t5, t6, t7, t8]
  refine Af.bind (Bf (D6.ext xE)) ?_
  rintro ⟨_, w2⟩ ⟨ds, rfl, o9, E1⟩
  try dsimp only at ds o9 E1
  have zE1 := E1.size
  try simp only [qz] at zE1
  have zo9 := O.Cq.1 o9
  obtain ⟨a9, c9, rfl, _, _⟩ := zo9
  simp only [World.size_alloc, size_setRow] at o9
  have F1 : Ext W w2 := xE
  have N1 := (F1.Ai y1).trans X1
  have N2 := (F1.Ai y2).trans X2
  have N3 := (F1.Ai y3).trans X3
  have NB : hp w2 W.heap.size = some (.cells #[i64 f.src, i64 f.dst, i64 f.idx, i64 f.Cq.key, i64 f.Cq.tag.t, i64 f.Cq.tag.p, .slice av f.Cq.past.length cv, .string f.Cq.text, .bool f.Cq.gone] 112 (0, 0)) := (E1.Ai xB).trans (by first | assumption | rfl | (simp (disch := first | exact xD | fail) [-bind_some, qs, -Aa, -Ab]; done))
  simp (disch := first | exact xD | fail) [-bind_some, qs, -Aa, -Ab, qm, N3, NB]
  generalize hWa : World.setRow _ W.heap.size _ = Wa
  have sWa : Wa.heap.size = w2.heap.size := by rw [← hWa]; simp
  have kWa : ∀ b, b ≠ W.heap.size → hp Wa b = hp w2 b := fun b h => by rw [← hWa]; exact Ac h
  have FWa : Ext W Wa := by rw [← hWa]; exact F1.set (Nat.le_refl _) _
  refine Af.bind (O.app (L := Ik 39) (mx := 1466015503701) (xs := st.net.take k) (S1 := In (W.heap.size + 1) w2.heap.size) (x := f) (cs := [i64 f.src, i64 f.dst, i64 f.idx, i64 f.Cq.key, i64 f.Cq.tag.t, i64 f.Cq.tag.p, .slice a9 f.Cq.past.length c9, .string f.Cq.text, .bool f.Cq.gone]) OR Pv rfl AD (oo.ext (FWa.al _)) (O.frame.2 ⟨_, rfl, o9.Aj fun b hb hbl => (Ag Ad).trans (kWa b (by simp only [In] at hb; omega))⟩) (fun b hb h1 h2 => by simp only [In] at h1 h2; omega) (At.nw Ad) Ad AD AD) ?_
  rintro ⟨_, w3⟩ ⟨a8, c8, rfl, o8, M8⟩
  have zM8 := M8.size
  try simp only [qz] at zM8
  try dsimp only at o8 M8
  have zM8 := M8.size
  simp only [World.size_alloc] at zM8 o8
  have k8 : ∀ b, b < W3.heap.size → hp w3 b = hp W b := fun b hb => (M8.Ai b xB (fun h => by simp only [In] at h; omega)).trans ((Ag Ad).trans (FWa.Ai Ad))
  have F3 : Ext w0 w3 := Mod.after ((E0.tr FWa).al _) M8 (fun b h1 h2 => by have := E03.size; simp only [In] at h2; omega)
  have hts : st.net.take k ++ [f] = st.net.take (k + 1) := by rw [List.take_add_one, hf]; rfl
  rw [htk, hts] at o8
  rw [htk]
  have L1 := (k8 g1 hz.1).trans X1
  have L2 := (k8 g2 hz.2.1).trans X2
  have L3 := (k8 g3 hz.2.2).trans X3
  simp (disch := first | exact xD | fail) [-bind_some, -Aa, -Ab, qm, L3]
  refine Af.mono (ih (k + 1) _ _ a8 c8 Ad xA xA xA xA ((Ac hne.2.1).trans L1) ((Ac hne.2.2).trans L2) (by first | assumption | rfl | (simp (disch := first | exact xD | fail) [-bind_some, -Aa, -Ab, L3]; done)) (fun b hb hn => (Ac hn).trans ((k8 b hb).trans (hk b hb hn))) ((o8.Aj fun b hb hbl => Ac ?_).wide ?_) (F3.set hg.2.2 _) (by simp only [size_setRow]; omega)) hQ
  ·rcases hb with h | h | h
   ·simp only [In] at h; omega
   ·simp only [In] at h; omega
   ·omega
  ·intro b hb hbl
   simp only [In, size_setRow] at hb hbl ⊢
   omega
theorem Uw {g1 g2 g3 : Nat} {a1 a2 a3 a4 b1 b4 : Option Addr} {c1 c2 c3 c4 n1 n4 d1 d4 m1 m4 : Nat} {S T1 T4 : Nat → Prop} {st : WorldD} {w0 W2 : World} (hD : D (JA 39 108) S w0 [.slice a2 st.Ay.length c2] st.Ay) (hN : D (FF 39 112) S w0 [.slice a3 st.net.length c3] st.net) (hs4 : ∀ s ∈ st.Ay, s.past.length = 4) (hg : w0.heap.size ≤ g1 ∧ w0.heap.size ≤ g2 ∧ w0.heap.size ≤ g3) (hne : g1 ≠ g2 ∧ g1 ≠ g3 ∧ g2 ≠ g3) (hz : g1 < W2.heap.size ∧ g2 < W2.heap.size ∧ g3 < W2.heap.size) (E02 : Ext w0 W2)
  (Pt : UL W2 ⟨st.places, [], [], st.AM⟩ (.slice b1 m1 d1) (.slice none 0 0) (.slice none 0 0) (.slice b4 m4 d4) T1 (fun _ => False) (fun _ => False) T4) (hT : ∀ b, T1 b ∨ T4 b → w0.heap.size ≤ b ∧ b < W2.heap.size ∧ b ≠ g2 ∧ b ≠ g3) :
  ∀ (d k : Nat) (e : Env) (W : World) (a' : Option Addr) (c' : Nat), k + d = st.Ay.length → e 1 = pt g1 0 → e 2 = pt g2 0 → e 3 = pt g3 0 → e 5 = i64 k →
   hp W g1 = some (.cells #[.slice a1 n1 c1, .slice a2 st.Ay.length c2, .slice a3 st.net.length c3, .slice a4 n4 c4] 67 (0, 0)) → hp W g2 = some (.cells #[.slice none 0 0, .slice none 0 0, .slice none 0 0, .slice none 0 0] 67 (0, 0)) → hp W g3 = some (.cells #[.slice b1 m1 d1, .slice a' k c', .slice none 0 0, .slice b4 m4 d4] 67 (0, 0)) →
   (∀ b, b < W2.heap.size → b ≠ g3 → hp W b = hp W2 b) → O (JA 39 108) (In W2.heap.size W.heap.size) W [.slice a' k c'] (st.Ay.take k) → Ext w0 W → W2.heap.size ≤ W.heap.size →
   Af (DS e W) fun r => ∃ cs', r.1 = .agg cs'.toArray ∧ O tW (In w0.heap.size r.2.heap.size) r.2 cs' st ∧ Ext w0 r.2 := by
 have hmx := hD.n.2.1
 intro d
 induction d with
 | zero =>
  intro k e W a' c' hd e1 e2 e3 e5 X1 X2 X3 hk oo E0 hzW
  have zE0 := E0.size
  try simp only [qz] at zE0
  rw [Gh]
  obtain rfl : k = st.Ay.length := by omega
  rw [List.take_length] at oo
  refine Af.post fun Q hQ => ?_
  simp (disch := first | exact xD | fail) [-bind_some, -Aa, -Ab, e1, e5, X1]
  have P2 : UL W ⟨st.places, st.Ay, [], st.AM⟩ (.slice b1 m1 d1) (.slice a' st.Ay.length c') (.slice none 0 0) (.slice b4 m4 d4) T1 (In W2.heap.size W.heap.size) (fun _ => False) T4 :=
   ⟨Pt.o1.Aj fun b hb _ => hk b (hT b (.inl hb)).2.1 (hT b (.inl hb)).2.2.2, oo, O.nil, Pt.o4.Aj fun b hb _ => hk b (hT b (.inr hb)).2.1 (hT b (.inr hb)).2.2.2,
    fun b _ q q' => by have := hT b (.inl q); simp only [In] at q'; omega, fun b _ _ q' => q', fun b _ q q' => Pt.d14 b (hT b (.inl q)).2.1 q q',
    fun b _ _ q' => q', fun b _ q q' => by have := hT b (.inr q'); simp only [In] at q; omega, fun b _ q _ => q⟩
  exact Af.mono (Uv (g1 := g1) (g2 := g2) (g3 := g3) (n2 := st.Ay.length) (m2 := st.Ay.length) (w0 := w0) (W3 := W) hN hg hne Ad E0 P2 (fun b h => by rcases h with h | h | h; have := hT b (.inl h); omega; (simp only [In] at h; have := E02.size; omega); have := hT b (.inr h); omega) st.net.length 0 _ W none 0 Ad xA xA xA rfl X1 X2 X3 (fun b _ _ => rfl) O.nil E0 (Nat.le_refl _)) hQ
 | succ d ih =>
  intro k e W a' c' hd e1 e2 e3 e5 X1 X2 X3 hk oo E0 hzW
  have zE0 := E0.size
  try simp only [qz] at zE0
  rw [Gh]
  have hlt : k < st.Ay.length := by omega
  obtain ⟨s, hs, _⟩ := An hlt
  have hp4 := hs4 s (List.mem_of_getElem? hs)
  obtain ⟨b5, o5, cs5, rfl, A5, D5, _, _⟩ := hD.at AD hs
  obtain ⟨av, cv, rfl, D6⟩ := D.Ay.1 D5
  rw [hp4] at A5 D6
  have t0 := A5 0 _ rfl
  have t1 := A5 1 _ rfl
  have t2 := A5 2 _ rfl
  have t3 := A5 3 _ rfl
  have t4 := A5 4 _ rfl
  simp only [Nat.add_zero] at t0 t1 t2 t3 t4
  simp only [U9] at t0 t1 t2 t3 t4
  have htk : (st.Ay.take k).length = k := by rw [List.length_take]; omega
  have y1 := Aq X1
  have y2 := Aq X2
  have y3 := Aq X3
  refine Af.post fun Q hQ => ?_
  simp (disch := first | exact xD | fail) [-bind_some, qs, -Aa, -Ab, qm, e1, e3, e5, X1, hlt, EB, E0.Ai, t0, t1, t2, t3, t4]
  refine Af.bind (O.I3 (L := F6) (mx := 8796093021952) B8 DC HN rfl AD (O.empty (g := W.heap.size + 1) (by first | assumption | rfl | (simp (disch := first | exact xD | fail) [-bind_some, qs, -Aa, -Ab]; done))) (D6.ext xE) (by simp; omega) AD AD) ?_
  rintro ⟨_, w2⟩ ⟨a9, c9, rfl, o9, M9⟩
  have zM9 := M9.size
  try simp only [qz] at zM9
  try dsimp only at o9 M9
  simp only [List.nil_append, List.length_nil, Nat.zero_add, hp4, World.size_alloc, size_setRow] at o9
  have zM9 := M9.size
  simp only [World.size_alloc, size_setRow] at zM9
  have F1 : Ext W w2 := Mod.after xE M9 (fun b h1 h2 => by have h2 : b = W.heap.size + 1 := h2; omega)
  have N1 := (F1.Ai y1).trans X1
  have N2 := (F1.Ai y2).trans X2
  have N3 := (F1.Ai y3).trans X3
  have NB : hp w2 W.heap.size = some (.cells #[i64 s.place, .slice av 4 cv, i64 s.wait.t, i64 s.wait.p, i64 s.key] 108 (0, 0)) := (M9.Ai _ xB Ad).trans (by first | assumption | rfl | (simp (disch := first | exact xD | fail) [-bind_some, qs, -Aa, -Ab]; done))
  simp (disch := first | exact xD | fail) [-bind_some, qs, -Aa, -Ab, qm, N3, NB, List.length_nil, Nat.zero_add, hp4]
  generalize hWa : World.setRow _ W.heap.size _ = Wa
  have sWa : Wa.heap.size = w2.heap.size := by rw [← hWa]; simp
  have kWa : ∀ b, b ≠ W.heap.size → hp Wa b = hp w2 b := fun b h => by rw [← hWa]; exact Ac h
  have FWa : Ext W Wa := by rw [← hWa]; exact F1.set (Nat.le_refl _) _
  have o9' : O Cr (In (W.heap.size + 1) w2.heap.size) w2 [.slice a9 s.past.length c9] s.past := by
   rw [hp4]
   refine o9.wide fun b hb hbl => ?_
   simp only [In]
   rcases hb with h | h
   ·have h : b = W.heap.size + 1 := h
    omega
   ·omega
  refine Af.bind (O.app (L := Jf 39) (mx := 2513169434916) (xs := st.Ay.take k) (S1 := In (W.heap.size + 1) w2.heap.size) (x := s) (cs := [i64 s.place, .slice a9 4 c9, i64 s.wait.t, i64 s.wait.p, i64 s.key]) Tu Ty rfl AD (oo.ext (FWa.al _)) (O.Ay.2 ⟨a9, c9, by rw [hp4], o9'.Aj fun b hb hbl => (Ag Ad).trans (kWa b (by simp only [In] at hb; omega))⟩) (fun b hb h1 h2 => by simp only [In] at h1 h2; omega) (At.nw Ad) Ad AD AD) ?_
  rintro ⟨_, w3⟩ ⟨a8, c8, rfl, o8, M8⟩
  have zM8 := M8.size
  try simp only [qz] at zM8
  try dsimp only at o8 M8
  have zM8 := M8.size
  simp only [World.size_alloc] at zM8 o8
  have k8 : ∀ b, b < W2.heap.size → hp w3 b = hp W b := fun b hb => (M8.Ai b xB (fun h => by simp only [In] at h; omega)).trans ((Ag Ad).trans (FWa.Ai Ad))
  have F3 : Ext w0 w3 := Mod.after ((E0.tr FWa).al _) M8 (fun b h1 h2 => by have := E02.size; simp only [In] at h2; omega)
  have hts : st.Ay.take k ++ [s] = st.Ay.take (k + 1) := by rw [List.take_add_one, hs]; rfl
  rw [htk, hts] at o8
  rw [htk]
  have L1 := (k8 g1 hz.1).trans X1
  have L2 := (k8 g2 hz.2.1).trans X2
  have L3 := (k8 g3 hz.2.2).trans X3
  simp (disch := first | exact xD | fail) [-bind_some, -Aa, -Ab, qm, L3]
  refine Af.mono (ih (k + 1) _ _ a8 c8 Ad xA xA xA xA ((Ac hne.2.1).trans L1) ((Ac hne.2.2).trans L2) (by first | assumption | rfl | (simp (disch := first | exact xD | fail) [-bind_some, -Aa, -Ab, L3]; done)) (fun b hb hn => (Ac hn).trans ((k8 b hb).trans (hk b hb hn))) ((o8.Aj fun b hb hbl => Ac ?_).wide ?_) (F3.set hg.2.2 _) (by simp only [size_setRow]; omega)) hQ
  ·rcases hb with h | h | h
   ·simp only [In] at h; omega
   ·simp only [In] at h; omega
   ·omega
  ·intro b hb hbl
   simp only [In, size_setRow] at hb hbl ⊢
   omega
theorem Ux {g1 g2 g3 : Nat} {a1 a2 a3 a4 b4 : Option Addr} {c1 c2 c3 c4 n4 d4 m4 : Nat} {S T4 : Nat → Prop} {st : WorldD} {w0 W1 : World} (hP : D (Gz 39 110 159 99 102) S w0 [.slice a1 st.places.length c1] st.places) (hch : ∀ p ∈ st.places, p.chain.length ≤ 1000)
  (hD : D (JA 39 108) S w0 [.slice a2 st.Ay.length c2] st.Ay) (hN : D (FF 39 112) S w0 [.slice a3 st.net.length c3] st.net) (hs4 : ∀ s ∈ st.Ay, s.past.length = 4) (hg : w0.heap.size ≤ g1 ∧ w0.heap.size ≤ g2 ∧ w0.heap.size ≤ g3) (hne : g1 ≠ g2 ∧ g1 ≠ g3 ∧ g2 ≠ g3) (hz : g1 < W1.heap.size ∧ g2 < W1.heap.size ∧ g3 < W1.heap.size) (E01 : Ext w0 W1)
  (o4 : O (HJ 41) T4 W1 [.slice b4 m4 d4] st.AM) (hT : ∀ b, T4 b → w0.heap.size ≤ b ∧ b < W1.heap.size ∧ b ≠ g2 ∧ b ≠ g3) :
  ∀ (d k : Nat) (e : Env) (W : World) (a' : Option Addr) (c' : Nat), k + d = st.places.length → e 1 = pt g1 0 → e 2 = pt g2 0 → e 3 = pt g3 0 → e 4 = i64 k →
   hp W g1 = some (.cells #[.slice a1 st.places.length c1, .slice a2 st.Ay.length c2, .slice a3 st.net.length c3, .slice a4 n4 c4] 67 (0, 0)) → hp W g2 = some (.cells #[.slice none 0 0, .slice none 0 0, .slice none 0 0, .slice none 0 0] 67 (0, 0)) → hp W g3 = some (.cells #[.slice a' k c', .slice none 0 0, .slice none 0 0, .slice b4 m4 d4] 67 (0, 0)) →
   (∀ b, b < W1.heap.size → b ≠ g3 → hp W b = hp W1 b) → O (Gz 39 110 159 99 102) (In W1.heap.size W.heap.size) W [.slice a' k c'] (st.places.take k) → Ext w0 W → W1.heap.size ≤ W.heap.size →
   Af (DR e W) fun r => ∃ cs', r.1 = .agg cs'.toArray ∧ O tW (In w0.heap.size r.2.heap.size) r.2 cs' st ∧ Ext w0 r.2 := by
 have hmx := hP.n.2.1
 intro d
 induction d with
 | zero =>
  intro k e W a' c' hd e1 e2 e3 e4 X1 X2 X3 hk oo E0 hzW
  have zE0 := E0.size
  try simp only [qz] at zE0
  rw [Gg]
  obtain rfl : k = st.places.length := by omega
  rw [List.take_length] at oo
  refine Af.post fun Q hQ => ?_
  simp (disch := first | exact xD | fail) [-bind_some, -Aa, -Ab, e1, e4, X1]
  have P2 : UL W ⟨st.places, [], [], st.AM⟩ (.slice a' st.places.length c') (.slice none 0 0) (.slice none 0 0) (.slice b4 m4 d4) (In W1.heap.size W.heap.size) (fun _ => False) (fun _ => False) T4 :=
   ⟨oo, O.nil, O.nil, o4.Aj fun b hb _ => hk b (hT b hb).2.1 (hT b hb).2.2.2,
    fun b _ _ q' => q', fun b _ _ q' => q', fun b _ q q' => by have := hT b q'; simp only [In] at q; omega, fun b _ q _ => q, fun b _ q _ => q, fun b _ q _ => q⟩
  exact Af.mono (Uw (g1 := g1) (g2 := g2) (g3 := g3) (n1 := st.places.length) (m1 := st.places.length) (w0 := w0) (W2 := W) hD hN hs4 hg hne Ad E0 P2 (fun b h => by rcases h with h | h; (simp only [In] at h; have := E01.size; omega); have := hT b h; omega) st.Ay.length 0 _ W none 0 Ad xA xA xA rfl X1 X2 X3 (fun b _ _ => rfl) O.nil E0 (Nat.le_refl _)) hQ
 | succ d ih =>
  intro k e W a' c' hd e1 e2 e3 e4 X1 X2 X3 hk oo E0 hzW
  have zE0 := E0.size
  try simp only [qz] at zE0
  rw [Gg]
  have hlt : k < st.places.length := by omega
  obtain ⟨p, hp', _⟩ := An hlt
  have hpc := hch p (List.mem_of_getElem? hp')
  obtain ⟨b5, o5, cs5, rfl, A5, D5, _, _⟩ := hP.at (by show 0 < 6; decide) hp'
  have D6 := D5
  obtain ⟨ac, cc, al, cl, ag, cg, rfl, _, _, _⟩ := D.place.1 D5
  have t0 := A5 0 _ rfl
  have t1 := A5 1 _ rfl
  have t2 := A5 2 _ rfl
  have t3 := A5 3 _ rfl
  have t4 := A5 4 _ rfl
  have t5 := A5 5 _ rfl
  simp only [Nat.add_zero] at t0 t1 t2 t3 t4 t5
  simp only [NQ] at t0 t1 t2 t3 t4 t5
  have htk : (st.places.take k).length = k := by rw [List.length_take]; omega
  have y1 := Aq X1
  have y2 := Aq X2
  have y3 := Aq X3
  refine Af.post fun Q hQ => ?_
  simp (disch := first | exact xD | fail) [-bind_some, qs, -Aa, -Ab, e1, e3, e4, X1, X3, hlt, DJ, E0.Ai, t0, t1, t2, t3, t4, t5]
  refine Af.bind (Uu (M := 0) (D6.ext xE) hpc) ?_
  rintro ⟨_, w2⟩ ⟨ds, rfl, o9, E1⟩
  try dsimp only at ds o9 E1
  have zE1 := E1.size
  try simp only [qz] at zE1
  have o9' := o9.d
  obtain ⟨ad, cd, ae, ce, af, cf, rfl, _, _, _⟩ := D.place.1 o9'
  simp only [Ak] at zE1 o9
  have F1 : Ext W w2 := xE
  have N1 := (F1.Ai y1).trans X1
  have N2 := (F1.Ai y2).trans X2
  have N3 := (F1.Ai y3).trans X3
  simp (disch := first | exact xD | fail) [-bind_some, qs, -Aa, -Ab, N3]
  refine Af.bind (O.app (L := Kp) (mx := 1466015503701) (xs := st.places.take k) (S1 := In W.heap.size w2.heap.size) (x := p) (cs := [i64 p.me, i64 p.clock, .slice ad p.chain.length cd, .slice ae p.log.length ce, .slice af p.BQ.length cf, .bool p.fell]) Tt Tx rfl AD (oo.ext (F1.al _)) (o9.Aj fun b hb hbl => Ag hbl) (fun b hb h1 h2 => by simp only [In] at h1 h2; omega) (At.nw rfl) Ad AD AD) ?_
  rintro ⟨_, w3⟩ ⟨a8, c8, rfl, o8, M8⟩
  have zM8 := M8.size
  try simp only [qz] at zM8
  try dsimp only at o8 M8
  have zM8 := M8.size
  simp only [World.size_alloc] at zM8 o8
  have k8 : ∀ b, b < W1.heap.size → hp w3 b = hp W b := fun b hb => (M8.Ai b xB (fun h => by simp only [In] at h; omega)).trans ((Ag Ad).trans (F1.Ai Ad))
  have F3 : Ext w0 w3 := Mod.after ((E0.tr F1).al _) M8 (fun b h1 h2 => by have := E01.size; simp only [In] at h2; omega)
  have hts : st.places.take k ++ [p] = st.places.take (k + 1) := by rw [List.take_add_one, hp']; rfl
  rw [htk, hts] at o8
  rw [htk]
  have L1 := (k8 g1 hz.1).trans X1
  have L2 := (k8 g2 hz.2.1).trans X2
  have L3 := (k8 g3 hz.2.2).trans X3
  simp (disch := first | exact xD | fail) [-bind_some, -Aa, -Ab, qm, L3]
  refine Af.mono (ih (k + 1) _ _ a8 c8 Ad xA xA xA xA ((Ac hne.2.1).trans L1) ((Ac hne.2.2).trans L2) (by first | assumption | rfl | (simp (disch := first | exact xD | fail) [-bind_some, -Aa, -Ab, L3]; done)) (fun b hb hn => (Ac hn).trans ((k8 b hb).trans (hk b hb hn))) ((o8.Aj fun b hb hbl => Ac ?_).wide ?_) (F3.set hg.2.2 _) (by simp only [size_setRow]; omega)) hQ
  ·rcases hb with h | h | h
   ·simp only [In] at h; omega
   ·simp only [In] at h; omega
   ·omega
  ·intro b hb hbl
   simp only [In, size_setRow] at hb hbl ⊢
   omega
theorem Uy {M : Nat} {S : Nat → Prop} {cs : List Value} {st : WorldD} {w : World} (hf : B6 M st) (hD : D tW S w cs st) :
  Af (EV P 52 #[.agg cs.toArray] w) fun r => ∃ cs', r.1 = .agg cs'.toArray ∧ O tW (In w.heap.size r.2.heap.size) r.2 cs' st ∧ Ext w r.2 := by
 obtain ⟨a1, c1, a2, c2, a3, c3, a4, c4, rfl, q1, q2, q3, q4⟩ := D.world.1 hD
 have hh := hf.2.2.2.2.2.2
 refine Af.post fun Q hQ => ?_
 refine Bw (Mp _ _) ?_
 simp (disch := first | exact xD | fail) [-bind_some, qs, -Aa, -Ab]
 refine Af.bind (O.I3 (L := GK) (mx := 3518437208883) (Kh (BO Cp (BO Cp (BO Cp B8)))) JQ OS rfl AD (O.empty (g := w.heap.size + 1 + 1) (by first | assumption | rfl | (simp (disch := first | exact xD | fail) [-bind_some, qs, -Aa, -Ab]; done))) (q4.ext xE) (by simp; omega) AD AD) ?_
 rintro ⟨_, w2⟩ ⟨a9, c9, rfl, o9, M9⟩
 have zM9 := M9.size
 try simp only [qz] at zM9
 try dsimp only at o9 M9
 simp only [List.nil_append, List.length_nil, Nat.zero_add, World.size_alloc] at o9
 have zM9 := M9.size
 simp only [World.size_alloc] at zM9
 have F1 : Ext w w2 := Mod.after xE M9 (fun b h1 h2 => by have h2 : b = w.heap.size + 1 + 1 := h2; omega)
 have N1 : hp w2 w.heap.size = some (.cells #[.slice a1 st.places.length c1, .slice a2 st.Ay.length c2, .slice a3 st.net.length c3, .slice a4 st.AM.length c4] 67 (0, 0)) := (M9.Ai _ xB Ad).trans (by first | assumption | rfl | (simp (disch := first | exact xD | fail) [-bind_some, qs, -Aa, -Ab]; done))
 have N2 : hp w2 (w.heap.size + 1) = some (.cells #[.slice none 0 0, .slice none 0 0, .slice none 0 0, .slice none 0 0] 67 (0, 0)) := (M9.Ai _ xB Ad).trans (by first | assumption | rfl | (simp (disch := first | exact xD | fail) [-bind_some, qs, -Aa, -Ab]; done))
 simp (disch := first | exact xD | fail) [-bind_some, -Aa, -Ab, qm, List.length_nil, Nat.zero_add]
 refine Af.mono (Ux (g1 := w.heap.size) (g2 := w.heap.size + 1) (g3 := w2.heap.size) (n4 := st.AM.length) (T4 := In (w.heap.size + 1 + 1) w2.heap.size) (w0 := w) q1 (fun p h => by have := (hf.2.1 p h).1.2.1; omega) q2 q3 (fun s h => (hf.2.2.2.1 s h).2.2.1) Ad Ad (by simp only [World.size_alloc, size_setRow]; omega) xE ((o9.Aj fun b hb hbl => (Ac Ad).trans (Ag hbl)).wide ?_) (fun b h => by simp only [In] at h; simp only [World.size_alloc, size_setRow]; omega) st.places.length 0 _ _ none 0 Ad rfl rfl rfl rfl ((Ac Ad).trans ((Ag Ad).trans N1)) ((Ac Ad).trans ((Ag Ad).trans N2)) (by first | assumption | rfl | (simp (disch := first | exact xD | fail) [-bind_some, qs, -Aa, -Ab]; done)) (fun b _ _ => rfl) O.nil xE (Nat.le_refl _)) hQ
 intro b hb hbl
 simp only [In]
 rcases hb with h | h
 ·have h : b = w.heap.size + 1 + 1 := h
  omega
 ·omega
theorem Ru {B g p : Nat} (hp0 : p ≤ 300000000000) {w : World} (hr : R w B g p) :
  Af (EV P 32 #[pt g 0] w) fun r => ∃ (cs : List Value) (st : WorldD) (p' : Nat), r.1 = .agg cs.toArray ∧ B6 1000 st ∧ O tW (fun b => w.heap.size ≤ b) r.2 cs st ∧ p' ≤ 700000000000 ∧ R r.2 B g p' ∧ Mod (fun b => b = g) w r.2 := by
 have hl := hr.lt
 refine Af.post fun Q hQ => ?_
 refine Bw (KA _ _) ?_
 simp (disch := first | exact xD | fail) [-bind_some, -Aa, -Ab]
 refine Af.bind (S7 Ad (hr.ext xE)) ?_
 rintro ⟨_, w1⟩ ⟨m, sN, a, c, p1, evs, hm, hsN, rfl, o1, hx, hp1, R1, M1⟩
 have zM1 := M1.size
 try simp only [qz] at zM1
 try dsimp only at o1 R1 M1
 have zM1 := M1.size
 simp only [World.size_alloc] at zM1
 have N0 : hp w1 w.heap.size = some (.cells #[.slice none 0 0, .slice none 0 0, .slice none 0 0, .slice none 0 0] 67 (0, 0)) := (M1.Ai _ xB Ad).trans (by first | assumption | rfl | (simp (disch := first | exact xD | fail) [-bind_some, qs, -Aa, -Ab]; done))
 simp (disch := first | exact xD | fail) [-bind_some, qs, -Aa, -Ab]
 refine Af.bind (Ur hm hsN o1.d hx) ?_
 rintro ⟨_, w2⟩ ⟨cs2, st2, rfl, f2, o2, E2⟩
 try dsimp only at cs2 st2 f2 o2 E2
 have zE2 := E2.size
 try simp only [qz] at zE2
 simp (disch := first | exact xD | fail) [-bind_some, -Aa, -Ab]
 refine Af.bind (Uy f2 o2.d) ?_
 rintro ⟨_, w3⟩ ⟨cs3, rfl, o3, E3⟩
 try dsimp only at cs3 o3 E3
 have zE3 := E3.size
 try simp only [qz] at zE3
 obtain ⟨u5, l5, d5, u6, l6, d6, u7, l7, d7, u8, l8, d8, rfl⟩ := o3.Cv
 have N3 : hp w3 w.heap.size = _ := (E3.Ai Ad).trans ((E2.Ai Ad).trans N0)
 simp (disch := first | exact xD | fail) [-bind_some, -Aa, -Ab, qm, N3]
 refine hQ _ ⟨_, st2, p1, rfl, f2, (o3.Aj fun b hb hbl => Ac (by simp only [In] at hb; omega)).wide fun b hb _ => by simp only [In] at hb; omega, hp1, ((R1.ext E2).ext E3).Aj (fun b h _ => Ac Ad), ?_⟩
 have Ma : Mod (fun b => b = g) w w1 := Mod.tr xM M1
 exact ((Ma.ex E2).ex E3).AQ (.inl (Nat.le_refl _)) _
attribute [local irreducible] World.alloc World.setRow Go.Ev.dw
theorem S8 {B g p : Nat} (hp0 : p ≤ 200000000000) {w : World} (hr : R w B g p) :
  Af (EV P 12 #[pt g 0] w) fun r => ∃ (a : Option Addr) (c p' : Nat) (xs : List Done), r.1 = .slice a xs.length c ∧ (xs.length ≤ 80 ∧ xs.length ≤ c) ∧ D Bx (fun b => w.heap.size ≤ b) r.2 [.slice a xs.length c] xs ∧ p' ≤ 800000000000 ∧ R r.2 B g p' ∧ Mod (fun b => b = g) w r.2 := by
 have hl := hr.lt
 refine Af.post fun Q hQ => ?_
 refine Bw (Lo _ _) ?_
 simp (disch := first | exact xD | fail) [-bind_some, -Aa, -Ab]
 refine Af.bind (Ru Ad (hr.ext xE)) ?_
 rintro ⟨_, w1⟩ ⟨cs, st, p1, rfl, f1, o1, hp1, R1, M1⟩
 have zM1 := M1.size
 try simp only [qz] at zM1
 try dsimp only at o1 R1 M1
 have zM1 := M1.size
 simp only [World.size_alloc] at zM1 o1
 obtain ⟨a1, c1, a2, c2, a3, c3, a4, c4, rfl, _, _, _, q4⟩ := D.world.1 o1.d
 have hh := f1.2.2.2.2.2.2
 have fvh : ∀ w', fv P 67 (.agg #[.slice a1 st.places.length c1, .slice a2 st.Ay.length c2, .slice a3 st.net.length c3, .slice a4 st.AM.length c4]) 3 w' = some (.slice a4 st.AM.length c4, w') := fun w' => Wg (P := P) (s := 67) (f := 3) (off := 3) (n := 1) (by kernel_rfl) [.slice a1 st.places.length c1, .slice a2 st.Ay.length c2, .slice a3 st.net.length c3, .slice a4 st.AM.length c4] rfl w'
 have NE : hp w1 w.heap.size = some (.cells #[] 41 (0, 0)) := (M1.Ai _ xB Ad).trans (by first | assumption | rfl | (simp (disch := first | exact xD | fail) [-bind_some, qs, -Aa, -Ab]; done))
 simp (disch := first | exact xD | fail) [-bind_some, -Aa, -Ab, fvh]
 refine Af.bind (O.I3 (L := GK) (mx := 3518437208883) (Kh (BO Cp (BO Cp (BO Cp B8)))) JQ OS rfl AD (O.empty (g := w.heap.size) NE) q4 (by simp; omega) AD AD) ?_
 rintro ⟨_, w2⟩ ⟨a9, c9, rfl, o9, M9⟩
 have zM9 := M9.size
 try simp only [] at zM9
 try dsimp only at o9 M9
 simp only [List.nil_append, List.length_nil, Nat.zero_add] at o9
 have zM9 := M9.size
 have R2 : R w2 B g p1 := R1.Aj fun b h hb => M9.Ai b hb (fun h' => by have h' : b = w.heap.size := h'; omega)
 have N2 : Mod (fun b => b = g) w w2 := Mod.Bd (Mod.tr xM M1) M9 (fun b hb h => by have h : b = w.heap.size := h; omega)
 obtain ⟨xs, hxs⟩ : ∃ xs, xs = st.AM := ⟨_, rfl⟩
 rw [← hxs] at o9 hh
 rw [← hxs]
 have o9 : O Bx (fun b => w.heap.size ≤ b ∧ b < w2.heap.size) w2 [.slice a9 xs.length c9] xs := o9.wide fun b hb hbl => by
  rcases hb with h | h
  ·have h : b = w.heap.size := h
   omega
  ·omega
 simp only [List.length_nil, Nat.zero_add]
 have hcl := o9.clip.1
 have fin : ∀ (e' : Env) (W : World) (a : Option Addr) (c p' : Nat) (ys : List Done), e' 3 = .slice a ys.length c → (ys.length ≤ 80 ∧ ys.length ≤ c) → D Bx (fun b => w.heap.size ≤ b) W [.slice a ys.length c] ys → p' ≤ 800000000000 → R W B g p' → Mod (fun b => b = g) w W → Af (Bq e' W) Q := by
  intro e' W a c p' ys g3 h1 h2 h3 h4 h5
  rw [Jm]
  simp (disch := first | exact xD | fail) [-bind_some, -Aa, -Ab, g3]
  exact hQ _ ⟨a, c, p', ys, rfl, h1, h2, h3, h4, h5⟩
 by_cases hn : 0 < xs.length
 ·simp (disch := first | exact xD | fail) [-bind_some, -Aa, -Ab, hn]
  refine Af.bind (Al (k := 3) Ad Ad Ad R2) ?_
  rintro ⟨_, w3⟩ ⟨m3, rfl, hm3, R3, M3⟩
  have zM3 := M3.size
  try simp only [] at zM3
  try dsimp only at R3 M3
  have zM3 := M3.size
  have o3 : O Bx (fun b => w.heap.size ≤ b ∧ b < w2.heap.size) w3 [.slice a9 xs.length c9] xs := o9.Aj fun b hb hbl => M3.Ai b hbl Ad
  have N3 := N2.tr M3
  cases h3 : ((m3 : Int) == 0)
  ·simp (disch := first | exact xD | fail) [-bind_some, -Aa, -Ab, h3]
   exact fin _ w3 a9 c9 (p1 + 1) xs xA ⟨hh, hcl⟩ (o3.d.wide fun b h _ => h.1) Ad R3 N3
  ·simp (disch := first | exact xD | fail) [-bind_some, -Aa, -Ab, h3]
   refine Af.bind (Al (k := xs.length) Ad Ad Ad R3) ?_
   rintro ⟨_, w4⟩ ⟨k, rfl, hk, R4, M4⟩
   have zM4 := M4.size
   try simp only [] at zM4
   try dsimp only at R4 M4
   have zM4 := M4.size
   simp (disch := first | exact xD | fail) [-bind_some, qs, -Aa, -Ab]
   refine Af.bind (Al (k := 5) Ad Ad Ad R4) ?_
   rintro ⟨_, w5⟩ ⟨m5, rfl, hm5, R5, M5⟩
   have zM5 := M5.size
   try simp only [] at zM5
   try dsimp only at R5 M5
   have zM5 := M5.size
   have o5 : O Bx (fun b => w.heap.size ≤ b ∧ b < w2.heap.size) w5 [.slice a9 xs.length c9] xs := o3.Aj fun b hb hbl => (M5.Ai b Ad Ad).trans (M4.Ai b hbl Ad)
   have N5 := (N3.tr M4).tr M5
   obtain ⟨x, hx, _⟩ := An hk
   have row : ∀ (W : World) (p' : Nat), Mod (fun b => b = g) w5 W → R W B g p' → p' ≤ 800000000000 → ∃ gr cur, a9 = some ⟨gr, 0, none⟩ ∧ hp W gr = some (.cells (Bu cur (k * 5) (Cd x)).toArray 41 (0, 0)) ∧ k * 5 + 5 ≤ cur.length ∧
     ∀ (e' : Env) (x' : Done), e' 3 = .slice a9 xs.length c9 → Af (Bq e' (W.setRow gr (Bu cur (k * 5) (Cd x')).toArray)) Q := by
    intro W p' MW RW hp'
    have oW : O Bx (fun b => w.heap.size ≤ b ∧ b < w2.heap.size) W [.slice a9 xs.length c9] xs := o5.Aj fun b hb hbl => MW.Ai b hbl Ad
    obtain ⟨gr, cur, cs, S1, rfl, hSg, hgl, hg, hle, hx1, hS1, put⟩ := oW.row AD hx
    obtain rfl := O.done.1 hx1
    refine ⟨gr, cur, rfl, hg, hle, fun e' x' g3 => ?_⟩
    have oN := put (W.setRow gr (Bu cur (k * 5) (Cd x')).toArray) (Cd x') x' (fun _ => False) (O.done.2 rfl) (by rw [EG, hg]; rfl) (fun b hb _ hne _ => Ac hne) (fun b _ h => h.elim)
    have hls : (xs.set k x').length = xs.length := List.length_set
    exact fin e' _ _ c9 p' (xs.set k x') (by rw [hls]; exact g3) ⟨by omega, by omega⟩ (by rw [hls]; exact oN.d.wide fun b h _ => by rcases h with h | h; exact h.1; exact h.elim) hp' (RW.Aj fun b h hb => Ac (by have := RW.lt; omega)) ((N5.tr MW).AQ (.inl hSg.1) _)
   cases hv0 : ((m5 : Int) == 0)
   case true =>
    simp (disch := first | exact xD | fail) [-bind_some, -Aa, -Ab, hv0]
    refine Af.bind (KX Ad R5) ?_
    rintro ⟨_, w6⟩ ⟨t, p6, rfl, hp6, R6, M6⟩
    have zM6 := M6.size
    try simp only [] at zM6
    try dsimp only at R6 M6
    obtain ⟨gr, cur, rfl, hg, hle, go⟩ := row w6 p6 M6 R6 Ad
    simp (disch := first | exact xD | fail) [-bind_some, -Aa, -Ab, qm, hg, JR]
    exact go _ ⟨x.Ay, x.kind, x.key, t⟩ xA
   cases hv1 : ((m5 : Int) == 1)
   case true =>
    simp (disch := first | exact xD | fail) [-bind_some, -Aa, -Ab, hv0, hv1]
    refine Af.bind (Al (k := 5) Ad Ad Ad R5) ?_
    rintro ⟨_, w6⟩ ⟨m6, rfl, hm6, R6, M6⟩
    have zM6 := M6.size
    try simp only [] at zM6
    try dsimp only at R6 M6
    obtain ⟨gr, cur, rfl, hg, hle, go⟩ := row w6 _ M6 R6 Ad
    simp (disch := first | exact xD | fail) [-bind_some, -Aa, -Ab, qm, hg, JR]
    exact go _ ⟨x.Ay, m6, x.key, x.tag⟩ xA
   cases hv2 : ((m5 : Int) == 2)
   case true =>
    simp (disch := first | exact xD | fail) [-bind_some, -Aa, -Ab, hv0, hv1, hv2]
    refine Af.bind (Al (k := 5) Ad Ad Ad R5) ?_
    rintro ⟨_, w6⟩ ⟨m6, rfl, hm6, R6, M6⟩
    have zM6 := M6.size
    try simp only [] at zM6
    try dsimp only at R6 M6
    obtain ⟨gr, cur, rfl, hg, hle, go⟩ := row w6 _ M6 R6 Ad
    simp (disch := first | exact xD | fail) [-bind_some, -Aa, -Ab, qm, hg, JR]
    exact go _ ⟨x.Ay, x.kind, m6, x.tag⟩ xA
   cases hv3 : ((m5 : Int) == 3)
   case true =>
    simp (disch := first | exact xD | fail) [-bind_some, -Aa, -Ab, hv0, hv1, hv2, hv3]
    refine Af.bind (Al (k := 5) Ad Ad Ad R5) ?_
    rintro ⟨_, w6⟩ ⟨m6, rfl, hm6, R6, M6⟩
    have zM6 := M6.size
    try simp only [] at zM6
    try dsimp only at R6 M6
    obtain ⟨gr, cur, rfl, hg, hle, go⟩ := row w6 _ M6 R6 Ad
    simp (disch := first | exact xD | fail) [-bind_some, -Aa, -Ab, qm, hg, JR]
    exact go _ ⟨m6, x.kind, x.key, x.tag⟩ xA
   have o5' : O Bx (fun b => w.heap.size ≤ b ∧ b < w2.heap.size) (Go.Ev.dw w5) [.slice a9 xs.length c9] xs := o5.ext (Cn w5)
   obtain ⟨a7, c7, w7, sl1, sl2, hap, d7, M7⟩ := o5'.XZ (P := P) (ty := 23) AD JQ hk
   have zM7 := M7.size
   try simp only [qz] at zM7
   have sl2' : ∀ w', sl P 23 (.slice a9 xs.length c9) (some (i64 ((k : Int) + 1))) none none w' = some (.slice a7 (xs.length - (k + 1)) c7, w') := fun w' => by
    have := sl2 w'
    rwa [show ((k + 1 : Nat) : Int) = (k : Int) + 1 by omega] at this
   have hls : (xs.take k ++ xs.drop (k + 1)).length = xs.length - 1 := by rw [List.length_append, List.length_take, List.length_drop]; omega
   simp (disch := first | exact xD | fail) [-bind_some, -Aa, -Ab, hv0, hv1, hv2, hv3, sl1, sl2', hap]
   exact fin _ w7 a9 c9 _ (xs.take k ++ xs.drop (k + 1)) (by rw [hls]; simp (disch := first | exact xD | fail) [-bind_some, qs, -Aa, -Ab]) ⟨by omega, by omega⟩ (by rw [hls]; exact d7.wide fun b h _ => h.1.1) Ad (R5.Aj fun b h hb => (M7.Ai b (by simpa using hb) (fun h' => by have := R5.lt; omega)).trans (BW _ _)) (Mod.Bd N5.Ud M7 fun b hb h => by omega)
 ·simp (disch := first | exact xD | fail) [-bind_some, -Aa, -Ab, hn]
  exact fin _ w2 a9 c9 p1 xs xA ⟨hh, hcl⟩ (o9.d.wide fun b h _ => h.1) Ad R2 N2
end Go.Proofs.YtkhbpmhagpljiaaGreatDoor.X
namespace Go.Proofs.YtkhbpmhagpljiaaGreatDoor.X
open Go Go.Ev Go.RowKit
open Option (bind_some)
theorem PN {l : List Done} : (BZ l).length ≤ 170000 := by
 unfold BZ
 split
 ·rename_i h
  have h1 := Hg (C5 h)
  have h2 := DN h
  omega
 ·simp
theorem OL {s : Value} {ns : List Int} {w : World} (hs : EI w s ns) (hn : ns.length ≤ 1000000000000) : Af (EV P 10 #[s] w) fun r => ∃ l : List UInt8, r.1 = .string (AZ l) ∧ l.length ≤ 900000 ∧ Ext w r.2 := by
 refine Af.post fun Q hQ => ?_
 refine Bw (IJ _ _) ?_
 simp (disch := first | exact xD | fail) [-bind_some, -Aa, -Ab]
 refine Af.bind (Ni hs hn) ?_
 rintro ⟨_, w1⟩ ⟨g, rfl, R1, E1⟩
 try dsimp only at g R1 E1
 have zE1 := E1.size
 try simp only [qz] at zE1
 have hl := R1.lt
 simp (disch := first | exact xD | fail) [-bind_some, -Aa, -Ab]
 refine Af.bind (S8 Ad R1) ?_
 rintro ⟨_, w2⟩ ⟨a2, c2, p', xs, rfl, hx, d2, hp2, R2, M2⟩
 have zM2 := M2.size
 try simp only [] at zM2
 try dsimp only at d2 R2 M2
 have hl2 := R2.lt
 have E2 : Ext w w2 := Mod.after (a := w) xE M2 (by intro x hx h; omega)
 have zE2 := E2.size
 try simp only [qz] at zE2
 simp (disch := first | exact xD | fail) [-bind_some, -Aa, -Ab]
 refine Af.bind (MD d2) ?_
 rintro ⟨_, w3⟩ ⟨rfl, E3⟩
 have zE3 := E3.size
 try simp only [] at zE3
 try dsimp only at E3
 have R3 := R2.ext E3
 have hl3 := R3.lt
 have htl := PN (l := xs)
 simp (disch := first | exact xD | fail) [-bind_some, -Aa, -Ab]
 refine Af.bind (Al (k := 2) Ad Ad Ad R3) ?_
 rintro ⟨_, w4⟩ ⟨m, rfl, hm, R4, M4⟩
 have zM4 := M4.size
 try simp only [] at zM4
 try dsimp only at R4 M4
 have hl4 := R4.lt
 have E4 : Ext w w4 := Mod.after (a := w) (E2.tr E3) M4 (by intro x hx h; omega)
 have zE4 := E4.size
 try simp only [qz] at zE4
 cases h0 : ((m : Int) == 0)
 ·simp (disch := first | exact xD | fail) [-bind_some, -Aa, -Ab, h0]
  refine Af.bind (My Ad Ad R4) ?_
  rintro ⟨_, w5⟩ ⟨l', p5, rfl, hl5, hp5, R5, M5⟩
  have zM5 := M5.size
  try simp only [] at zM5
  try dsimp only at R5 M5
  have E5 : Ext w w5 := Mod.after (a := w) E4 M5 (by intro x hx h; omega)
  have zE5 := E5.size
  try simp only [qz] at zE5
  simp (disch := first | exact xD | fail) [-bind_some, -Aa, -Ab]
  exact hQ _ ⟨l', rfl, by omega, E5⟩
 ·simp (disch := first | exact xD | fail) [-bind_some, -Aa, -Ab, h0]
  exact hQ _ ⟨_, rfl, by omega, E4⟩
theorem Lc {s : Value} {ns : List Int} {w : World} (G : GlobE w) (hs : EI w s ns) : Af (EV P 4 #[s] w) fun r => r.1 = .bool true ∧ Ext w r.2 := by
 have hs' := hs
 obtain ⟨a, c, rfl, q2, q3, q4, q5⟩ := hs
 have hbn := Qk (P := P) (t := 4) (by kernel_rfl)
 have hbe := Lg (P := P) (t := 4) (by kernel_rfl)
 refine Af.post fun Q hQ => ?_
 refine Bw (JG _ _) ?_
 by_cases hl : 1048576 < ns.length
 ·simp (disch := first | exact xD | fail) [-bind_some, -Aa, -Ab, show (1048576 : Int) < ns.length by omega]
  exact hQ _ ⟨rfl, xE⟩
 simp (disch := first | exact xD | fail) [-bind_some, -Aa, -Ab, show ¬ (1048576 : Int) < ns.length by omega]
 refine Af.bind (OL hs' Ad) ?_
 rintro ⟨_, w1⟩ ⟨l, rfl, hll, E1⟩
 try dsimp only at l hll E1
 have zE1 := E1.size
 try simp only [qz] at zE1
 simp (disch := first | exact xD | fail) [-bind_some, -Aa, -Ab]
 refine Af.bind (ME (l := l) Ad (G.ext xE)) ?_
 rintro ⟨_, w2⟩ ⟨v, ok, a2, c2, rfl, hg, o2, E2⟩
 try dsimp only at v ok a2 c2 hg o2 E2
 have zE2 := E2.size
 try simp only [qz] at zE2
 simp (disch := first | exact xD | fail) [-bind_some, qs, -Aa, -Ab]
 refine Af.bind (MG (l := l) Ad _) ?_
 rintro ⟨_, w3⟩ ⟨v', ok', a3, c3, rfl, hg', o3, E3⟩
 try dsimp only at v' ok' a3 c3 hg' o3 E3
 have zE3 := E3.size
 try simp only [qz] at zE3
 obtain ⟨rfl, rfl⟩ := hg.eq hg'
 simp (disch := first | exact xD | fail) [-bind_some, qs, -Aa, -Ab, hbn]
 refine Af.bind (I9 (o2.Aj (by intro b hS hb; (try dsimp only at hS); (try simp only [In] at hS hb); first | rfl | (simp (disch := first | exact xF | fail) only [E3.Ai]; done))).d (o3.Aj (by intro b hS hb; (try dsimp only at hS); (try simp only [In] at hS hb); first | rfl | (simp (disch := first | exact xF | fail) only [E1.Ai, E2.Ai, E3.Ai, qk]; done))).d) ?_
 rintro ⟨_, w4⟩ ⟨rfl, E4⟩
 try dsimp only at E4
 have zE4 := E4.size
 try simp only [qz] at zE4
 cases ok
 ·simp (disch := first | exact xD | fail) [-bind_some, -Aa, -Ab]
  refine Af.bind (I9 (o2.Aj (by intro b hS hb; (try dsimp only at hS); (try simp only [In] at hS hb); first | rfl | (simp (disch := first | exact xF | fail) only [E3.Ai, E4.Ai]; done))).d (o3.Aj (by intro b hS hb; (try dsimp only at hS); (try simp only [In] at hS hb); first | rfl | (simp (disch := first | exact xF | fail) only [E4.Ai]; done))).d) ?_
  rintro ⟨_, w5⟩ ⟨rfl, E5⟩
  try dsimp only at E5
  have zE5 := E5.size
  try simp only [qz] at zE5
  simp (disch := first | exact xD | fail) [-bind_some, -Aa, -Ab]
  exact hQ _ ⟨rfl, xE⟩
 ·obtain ⟨h1, h2⟩ := hg.1 rfl
  simp (disch := first | exact xD | fail) [-bind_some, -Aa, -Ab]
  refine Af.bind (Ie (G.g.ext xE) (o2.Aj (by intro b hS hb; (try dsimp only at hS); (try simp only [In] at hS hb); first | rfl | (simp (disch := first | exact xF | fail) only [E3.Ai, E4.Ai]; done))).d) ?_
  rintro ⟨_, w5⟩ ⟨rfl, E5⟩
  try dsimp only at E5
  have zE5 := E5.size
  try simp only [qz] at zE5
  have hpu : BZ v = l := by rw [BZ, if_pos h1, h2]
  have h80 := DN h1
  simp (disch := first | exact xD | fail) [-bind_some, -Aa, -Ab, hpu, Az, show (v.length : Int) ≤ 80 by omega]
  exact hQ _ ⟨rfl, xE⟩
end Go.Proofs.YtkhbpmhagpljiaaGreatDoor.X
