/- A part of the proof: an evaluator of the model, its laws, and contracts of functions; no condition. -/
import Derived.Test.YtjhhommnkaemlaaGreatProg
import Derived.Test.YtjhhommnkaemlaaGreatEvM
set_option linter.unusedVariables false
set_option linter.unusedSimpArgs false
set_option linter.deprecated false
namespace Go.Proofs.YtjhhommnkaemlaaGreat.X
open Go Go.Ev
noncomputable def P : Program := Tryz.prog
theorem plain : Plain P := by
 have h : (P.funcs.toList.all fun fn => fn.body.isNone || fn.name != "runtime.NumGoroutine") = true := by kernel_rfl
 intro fn hf hb
 rw [List.all_eq_true] at h
 have := h fn (Array.mem_toList_iff.2 hf)
 simp only [Option.isNone_iff_eq_none, Bool.or_eq_true, bne_iff_ne, ne_eq] at this
 rcases this with h | h
 ·rw [h] at hb; simp at hb
 ·exact h
theorem mixed : P.follows .mixedOrders = true := by kernel_rfl
@[simp] theorem Vx (w : World) : al P 119 w = some (pt w.heap.size 0, w.alloc (.cells #[(.int .i64 0), (.int .i64 0), (Go.Value.slice none 0 0)] 119)) := FO (z := [(.int .i64 0), (.int .i64 0), (Go.Value.slice none 0 0)]) (by kernel_rfl) w
@[simp] theorem Vy (w : World) : al P 129 w = some (pt w.heap.size 0, w.alloc (.cells #[(.int .i64 0), (Go.Value.slice none 0 0), (.int .i64 0), (.int .i64 0), (.int .i64 0)] 129)) := FO (z := [(.int .i64 0), (Go.Value.slice none 0 0), (.int .i64 0), (.int .i64 0), (.int .i64 0)]) (by kernel_rfl) w
@[simp] theorem Vz (w : World) : al P 131 w = some (pt w.heap.size 0, w.alloc (.cells #[(.int .i64 0), (.int .i64 0), (.int .i64 0), (.int .i64 0), (.int .i64 0), (.int .i64 0), (Go.Value.slice none 0 0), (Go.Value.string { data := #[] }), (.bool false)] 131)) := FO (z := [(.int .i64 0), (.int .i64 0), (.int .i64 0), (.int .i64 0), (.int .i64 0), (.int .i64 0), (Go.Value.slice none 0 0), (Go.Value.string { data := #[] }), (.bool false)]) (by kernel_rfl) w
@[simp] theorem VA (w : World) : al P 137 w = some (pt w.heap.size 0, w.alloc (.cells #[(.int .i64 0), (.int .i64 0), (.int .i64 0), (.int .i64 0), (Go.Value.string { data := #[] }), (.bool false)] 137)) := FO (z := [(.int .i64 0), (.int .i64 0), (.int .i64 0), (.int .i64 0), (Go.Value.string { data := #[] }), (.bool false)]) (by kernel_rfl) w
@[simp] theorem V9 (w : World) : al P 32 w = some (pt w.heap.size 0, w.alloc (.cells #[(Go.Value.slice none 0 0)] 32)) := FO (z := [(Go.Value.slice none 0 0)]) (by kernel_rfl) w
@[simp] theorem Wb (w : World) : al P 36 w = some (pt w.heap.size 0, w.alloc (.cells #[(.int .i64 0), (.int .i64 0)] 36)) := FO (z := [(.int .i64 0), (.int .i64 0)]) (by kernel_rfl) w
@[simp] theorem Wc (w : World) : al P 38 w = some (pt w.heap.size 0, w.alloc (.cells #[(.int .i64 0), (.int .i64 0), (.int .i64 0), (.int .i64 0), (.int .i64 0)] 38)) := FO (z := [(.int .i64 0), (.int .i64 0), (.int .i64 0), (.int .i64 0), (.int .i64 0)]) (by kernel_rfl) w
@[simp] theorem Wd (w : World) : al P 44 w = some (pt w.heap.size 0, w.alloc (.cells #[(Go.Value.slice none 0 0)] 44)) := FO (z := [(Go.Value.slice none 0 0)]) (by kernel_rfl) w
@[simp] theorem We (w : World) : al P 49 w = some (pt w.heap.size 0, w.alloc (.cells #[(.int .i64 0), (.int .i64 0), (.int .i64 0), (Go.Value.slice none 0 0), (Go.Value.string { data := #[] }), (.bool false)] 49)) := FO (z := [(.int .i64 0), (.int .i64 0), (.int .i64 0), (Go.Value.slice none 0 0), (Go.Value.string { data := #[] }), (.bool false)]) (by kernel_rfl) w
@[simp] theorem Wf (w : World) : al P 77 w = some (pt w.heap.size 0, w.alloc (.cells #[(Go.Value.slice none 0 0), (Go.Value.slice none 0 0), (Go.Value.slice none 0 0), (Go.Value.slice none 0 0)] 77)) := FO (z := [(Go.Value.slice none 0 0), (Go.Value.slice none 0 0), (Go.Value.slice none 0 0), (Go.Value.slice none 0 0)]) (by kernel_rfl) w
@[simp] theorem Wg (w : World) : al P 81 w = some (pt w.heap.size 0, w.alloc (.cells #[(Go.Value.slice none 0 0)] 81)) := FO (z := [(Go.Value.slice none 0 0)]) (by kernel_rfl) w
@[simp] theorem Wh (w : World) : al P 84 w = some (pt w.heap.size 0, w.alloc (.cells #[(.int .i64 0), (.int .i64 0), (Go.Value.slice none 0 0), (Go.Value.slice none 0 0), (Go.Value.slice none 0 0), (.bool false)] 84)) := FO (z := [(.int .i64 0), (.int .i64 0), (Go.Value.slice none 0 0), (Go.Value.slice none 0 0), (Go.Value.slice none 0 0), (.bool false)]) (by kernel_rfl) w
@[simp] theorem Wi (w : World) : al P 86 w = some (pt w.heap.size 0, w.alloc (.cells #[(Go.Value.slice none 0 0), (Go.Value.slice none 0 0)] 86)) := FO (z := [(Go.Value.slice none 0 0), (Go.Value.slice none 0 0)]) (by kernel_rfl) w
@[simp] theorem UK (a : Option Addr) (n c : Nat) (w : World) : Ax P #[109] 3 #[.slice a n c] w = some (i64 n, w) := Bz (e := 137) (s := (6, 56)) (by kernel_rfl) a n c w
@[simp] theorem UL (a : Option Addr) (n c : Nat) (w : World) : Ax P #[140] 3 #[.slice a n c] w = some (i64 n, w) := Bz (e := 9) (s := (1, 16)) (by kernel_rfl) a n c w
@[simp] theorem VB (a : Option Addr) (n c : Nat) (w : World) : Ax P #[22] 3 #[.slice a n c] w = some (i64 n, w) := Bz (e := 5) (s := (1, 1)) (by kernel_rfl) a n c w
@[simp] theorem VC (a : Option Addr) (n c : Nat) (w : World) : Ax P #[23] 3 #[.slice a n c] w = some (i64 n, w) := Bz (e := 38) (s := (5, 40)) (by kernel_rfl) a n c w
@[simp] theorem VD (a : Option Addr) (n c : Nat) (w : World) : Ax P #[30] 3 #[.slice a n c] w = some (i64 n, w) := Bz (e := 36) (s := (2, 16)) (by kernel_rfl) a n c w
@[simp] theorem VE (a : Option Addr) (n c : Nat) (w : World) : Ax P #[42] 3 #[.slice a n c] w = some (i64 n, w) := Bz (e := 49) (s := (6, 72)) (by kernel_rfl) a n c w
@[simp] theorem VF (a : Option Addr) (n c : Nat) (w : World) : Ax P #[64] 3 #[.slice a n c] w = some (i64 n, w) := Bz (e := 3) (s := (1, 8)) (by kernel_rfl) a n c w
@[simp] theorem VG (a : Option Addr) (n c : Nat) (w : World) : Ax P #[73] 3 #[.slice a n c] w = some (i64 n, w) := Bz (e := 84) (s := (6, 96)) (by kernel_rfl) a n c w
@[simp] theorem VH (a : Option Addr) (n c : Nat) (w : World) : Ax P #[74] 3 #[.slice a n c] w = some (i64 n, w) := Bz (e := 129) (s := (5, 56)) (by kernel_rfl) a n c w
@[simp] theorem VI (a : Option Addr) (n c : Nat) (w : World) : Ax P #[75] 3 #[.slice a n c] w = some (i64 n, w) := Bz (e := 131) (s := (9, 96)) (by kernel_rfl) a n c w
@[simp] theorem VJ (a : Option Addr) (n c : Nat) (w : World) : Ax P #[79] 3 #[.slice a n c] w = some (i64 n, w) := Bz (e := 86) (s := (2, 48)) (by kernel_rfl) a n c w
@[simp] theorem VK (a : Option Addr) (n c : Nat) (w : World) : Ax P #[82] 3 #[.slice a n c] w = some (i64 n, w) := Bz (e := 42) (s := (1, 24)) (by kernel_rfl) a n c w
@[simp] theorem Wj (s : ByteArray) (w : World) : Ax P #[9] 3 #[.string s] w = some (i64 s.size, w) := R8 (by kernel_rfl) s w
theorem TY : (P.fieldsOf 36).toList = [{ name := "Time", type := 3, offset := 0, embedded := false, tag := "", pkgPath := "", byteOffset := 0 }, { name := "Place", type := 3, offset := 1, embedded := false, tag := "", pkgPath := "", byteOffset := 8 }] := by kernel_rfl
@[simp] theorem TI (x y : Operand) (a0 a1 b0 b1 : Int) (w : World) : bo P .eql 36 x y (.agg #[i64 a0, i64 a1]) (.agg #[i64 b0, i64 b1]) w = some (.bool (((a0 == b0) && (a1 == b1))), w) := by
 have hg := run_eqGuard_agg (P := P) w .eql 36 x y #[i64 a0, i64 a1] #[i64 b0, i64 b1] (by kernel_rfl)
 have hs := run_equalIn_struct (P := P) w 9999 36 #[i64 a0, i64 a1] #[i64 b0, i64 b1] (by kernel_rfl) (by kernel_rfl)
 simp only [bo, Sem.run_bind, hg, Result.andThen_ok, run_eql_struct, hs, TY]
 exact Qf (by kernel_rfl) (by kernel_rfl) ⟨by simp, by simp, rfl, rfl⟩ _ _ _ _ w
@[simp] theorem TZ (x y : Operand) (a b : Bool) (w : World) : bo P .eql 4 x y (.bool a) (.bool b) w = some (.bool (a == b), w) := Oo (by kernel_rfl) x y a b w
@[simp] theorem T0 (x y : Operand) (a b : Bool) (w : World) : bo P .neq 4 x y (.bool a) (.bool b) w = some (.bool (!(a == b)), w) := Oq (by kernel_rfl) x y a b w
@[simp] theorem T6 (b o : Nat) (w : World) : fa P 119 (pt b o) 0 w = some (pt b (o + 0), w) := AX (n := 0) (g := some false) (by kernel_rfl) b o w
@[simp] theorem T7 (b o : Nat) (w : World) : fa P 119 (pt b o) 1 w = some (pt b (o + 1), w) := AX (n := 0) (g := some false) (by kernel_rfl) b o w
@[simp] theorem T8 (b o : Nat) (w : World) : fa P 119 (pt b o) 2 w = some (pt b (o + 2), w) := AX (n := 0) (g := some true) (by kernel_rfl) b o w
@[simp] theorem T9 (b o : Nat) (w : World) : fa P 129 (pt b o) 0 w = some (pt b (o + 0), w) := AX (n := 0) (g := some false) (by kernel_rfl) b o w
@[simp] theorem Ua (b o : Nat) (w : World) : fa P 129 (pt b o) 1 w = some (pt b (o + 1), w) := AX (n := 0) (g := some true) (by kernel_rfl) b o w
@[simp] theorem Ub (b o : Nat) (w : World) : fa P 129 (pt b o) 2 w = some (pt b (o + 2), w) := AX (n := 1) (g := some true) (by kernel_rfl) b o w
@[simp] theorem Uc (b o : Nat) (w : World) : fa P 129 (pt b o) 3 w = some (pt b (o + 4), w) := AX (n := 0) (g := some false) (by kernel_rfl) b o w
@[simp] theorem Ud (b o : Nat) (w : World) : fa P 131 (pt b o) 0 w = some (pt b (o + 0), w) := AX (n := 0) (g := some false) (by kernel_rfl) b o w
@[simp] theorem Ue (b o : Nat) (w : World) : fa P 131 (pt b o) 1 w = some (pt b (o + 1), w) := AX (n := 0) (g := some false) (by kernel_rfl) b o w
@[simp] theorem Uf (b o : Nat) (w : World) : fa P 131 (pt b o) 2 w = some (pt b (o + 2), w) := AX (n := 0) (g := some false) (by kernel_rfl) b o w
@[simp] theorem Ug (b o : Nat) (w : World) : fa P 131 (pt b o) 3 w = some (pt b (o + 3), w) := AX (n := 5) (g := some true) (by kernel_rfl) b o w
@[simp] theorem Uh (b o : Nat) (w : World) : fa P 137 (pt b o) 0 w = some (pt b (o + 0), w) := AX (n := 0) (g := some false) (by kernel_rfl) b o w
@[simp] theorem Ui (b o : Nat) (w : World) : fa P 137 (pt b o) 1 w = some (pt b (o + 1), w) := AX (n := 0) (g := some false) (by kernel_rfl) b o w
@[simp] theorem Uj (b o : Nat) (w : World) : fa P 137 (pt b o) 2 w = some (pt b (o + 2), w) := AX (n := 0) (g := some false) (by kernel_rfl) b o w
@[simp] theorem Uk (b o : Nat) (w : World) : fa P 137 (pt b o) 3 w = some (pt b (o + 3), w) := AX (n := 0) (g := some false) (by kernel_rfl) b o w
@[simp] theorem Ul (b o : Nat) (w : World) : fa P 137 (pt b o) 4 w = some (pt b (o + 4), w) := AX (n := 0) (g := some false) (by kernel_rfl) b o w
@[simp] theorem Um (b o : Nat) (w : World) : fa P 137 (pt b o) 5 w = some (pt b (o + 5), w) := AX (n := 0) (g := some false) (by kernel_rfl) b o w
@[simp] theorem UM (b o : Nat) (w : World) : fa P 32 (pt b o) 0 w = some (pt b (o + 0), w) := AX (n := 0) (g := some false) (by kernel_rfl) b o w
@[simp] theorem UN (b o : Nat) (w : World) : fa P 36 (pt b o) 0 w = some (pt b (o + 0), w) := AX (n := 0) (g := some false) (by kernel_rfl) b o w
@[simp] theorem UO (b o : Nat) (w : World) : fa P 36 (pt b o) 1 w = some (pt b (o + 1), w) := AX (n := 0) (g := some false) (by kernel_rfl) b o w
@[simp] theorem UP (b o : Nat) (w : World) : fa P 38 (pt b o) 0 w = some (pt b (o + 0), w) := AX (n := 0) (g := some false) (by kernel_rfl) b o w
@[simp] theorem UQ (b o : Nat) (w : World) : fa P 38 (pt b o) 1 w = some (pt b (o + 1), w) := AX (n := 0) (g := some false) (by kernel_rfl) b o w
@[simp] theorem UR (b o : Nat) (w : World) : fa P 38 (pt b o) 2 w = some (pt b (o + 2), w) := AX (n := 0) (g := some false) (by kernel_rfl) b o w
@[simp] theorem US (b o : Nat) (w : World) : fa P 38 (pt b o) 3 w = some (pt b (o + 3), w) := AX (n := 1) (g := some true) (by kernel_rfl) b o w
@[simp] theorem UT (b o : Nat) (w : World) : fa P 44 (pt b o) 0 w = some (pt b (o + 0), w) := AX (n := 0) (g := some false) (by kernel_rfl) b o w
@[simp] theorem UU (b o : Nat) (w : World) : fa P 49 (pt b o) 0 w = some (pt b (o + 0), w) := AX (n := 0) (g := some false) (by kernel_rfl) b o w
@[simp] theorem UW (b o : Nat) (w : World) : fa P 49 (pt b o) 1 w = some (pt b (o + 1), w) := AX (n := 1) (g := some true) (by kernel_rfl) b o w
@[simp] theorem UX (b o : Nat) (w : World) : fa P 49 (pt b o) 2 w = some (pt b (o + 3), w) := AX (n := 0) (g := some true) (by kernel_rfl) b o w
@[simp] theorem UY (b o : Nat) (w : World) : fa P 69 (pt b o) 0 w = some (pt b (o + 0), w) := AX (n := 3) (g := some true) (by kernel_rfl) b o w
@[simp] theorem UZ (b o : Nat) (w : World) : fa P 69 (pt b o) 1 w = some (pt b (o + 4), w) := AX (n := 0) (g := some false) (by kernel_rfl) b o w
@[simp] theorem U0 (b o : Nat) (w : World) : fa P 77 (pt b o) 0 w = some (pt b (o + 0), w) := AX (n := 0) (g := some false) (by kernel_rfl) b o w
@[simp] theorem U4 (b o : Nat) (w : World) : fa P 77 (pt b o) 1 w = some (pt b (o + 1), w) := AX (n := 0) (g := some false) (by kernel_rfl) b o w
@[simp] theorem U5 (b o : Nat) (w : World) : fa P 77 (pt b o) 2 w = some (pt b (o + 2), w) := AX (n := 0) (g := some false) (by kernel_rfl) b o w
@[simp] theorem U6 (b o : Nat) (w : World) : fa P 77 (pt b o) 3 w = some (pt b (o + 3), w) := AX (n := 0) (g := some false) (by kernel_rfl) b o w
@[simp] theorem U7 (b o : Nat) (w : World) : fa P 81 (pt b o) 0 w = some (pt b (o + 0), w) := AX (n := 0) (g := some false) (by kernel_rfl) b o w
@[simp] theorem U8 (b o : Nat) (w : World) : fa P 84 (pt b o) 0 w = some (pt b (o + 0), w) := AX (n := 0) (g := some false) (by kernel_rfl) b o w
@[simp] theorem U9 (b o : Nat) (w : World) : fa P 84 (pt b o) 1 w = some (pt b (o + 1), w) := AX (n := 0) (g := some false) (by kernel_rfl) b o w
@[simp] theorem Va (b o : Nat) (w : World) : fa P 84 (pt b o) 2 w = some (pt b (o + 2), w) := AX (n := 0) (g := some true) (by kernel_rfl) b o w
@[simp] theorem Vb (b o : Nat) (w : World) : fa P 84 (pt b o) 3 w = some (pt b (o + 3), w) := AX (n := 0) (g := some false) (by kernel_rfl) b o w
@[simp] theorem Vc (b o : Nat) (w : World) : fa P 84 (pt b o) 4 w = some (pt b (o + 4), w) := AX (n := 0) (g := some false) (by kernel_rfl) b o w
@[simp] theorem Vd (b o : Nat) (w : World) : fa P 84 (pt b o) 5 w = some (pt b (o + 5), w) := AX (n := 0) (g := some false) (by kernel_rfl) b o w
@[simp] theorem Ve (b o : Nat) (w : World) : fa P 86 (pt b o) 0 w = some (pt b (o + 0), w) := AX (n := 0) (g := some true) (by kernel_rfl) b o w
@[simp] theorem Vf (b o : Nat) (w : World) : fa P 86 (pt b o) 1 w = some (pt b (o + 1), w) := AX (n := 0) (g := some false) (by kernel_rfl) b o w
@[simp] theorem Vg (b o : Nat) (w : World) : fa P 93 (pt b o) 0 w = some (pt b (o + 0), w) := AX (n := 0) (g := some false) (by kernel_rfl) b o w
@[simp] theorem Vh (b o : Nat) (w : World) : fa P 93 (pt b o) 1 w = some (pt b (o + 1), w) := AX (n := 0) (g := some false) (by kernel_rfl) b o w
theorem O3 : EB P 109 = some (137, 6, 56) := by kernel_rfl
theorem SZ {b o n c : Nat} {i : Int} (h0 : 0 ≤ i) (h1 : i < n) (w : World) : ia P 109 (.slice (some ⟨b, o, none⟩) n c) (i64 i) w = some (pt b (o + i.toNat * 6), w) := FP O3 h0 h1 w
theorem S5 : EB P 140 = some (9, 1, 16) := by kernel_rfl
theorem S6 {b o n c : Nat} {i : Int} (h0 : 0 ≤ i) (h1 : i < n) (w : World) : ia P 140 (.slice (some ⟨b, o, none⟩) n c) (i64 i) w = some (pt b (o + i.toNat * 1), w) := FP S5 h0 h1 w
theorem SC : EB P 22 = some (5, 1, 1) := by kernel_rfl
theorem SD {b o n c : Nat} {i : Int} (h0 : 0 ≤ i) (h1 : i < n) (w : World) : ia P 22 (.slice (some ⟨b, o, none⟩) n c) (i64 i) w = some (pt b (o + i.toNat * 1), w) := FP SC h0 h1 w
theorem Gz : EB P 23 = some (38, 5, 40) := by kernel_rfl
theorem Dm {b o n c : Nat} {i : Int} (h0 : 0 ≤ i) (h1 : i < n) (w : World) : ia P 23 (.slice (some ⟨b, o, none⟩) n c) (i64 i) w = some (pt b (o + i.toNat * 5), w) := FP Gz h0 h1 w
theorem Cv : EB P 30 = some (36, 2, 16) := by kernel_rfl
theorem Ff {b o n c : Nat} {i : Int} (h0 : 0 ≤ i) (h1 : i < n) (w : World) : ia P 30 (.slice (some ⟨b, o, none⟩) n c) (i64 i) w = some (pt b (o + i.toNat * 2), w) := FP Cv h0 h1 w
theorem CH : EB P 42 = some (49, 6, 72) := by kernel_rfl
theorem BG {b o n c : Nat} {i : Int} (h0 : 0 ≤ i) (h1 : i < n) (w : World) : ia P 42 (.slice (some ⟨b, o, none⟩) n c) (i64 i) w = some (pt b (o + i.toNat * 6), w) := FP CH h0 h1 w
theorem PB : EB P 58 = some (32, 1, 24) := by kernel_rfl
theorem PC {b o n c : Nat} {i : Int} (h0 : 0 ≤ i) (h1 : i < n) (w : World) : ia P 58 (.slice (some ⟨b, o, none⟩) n c) (i64 i) w = some (pt b (o + i.toNat * 1), w) := FP PB h0 h1 w
theorem Un : EB P 64 = some (3, 1, 8) := by kernel_rfl
theorem QU {b o n c : Nat} {i : Int} (h0 : 0 ≤ i) (h1 : i < n) (w : World) : ia P 64 (.slice (some ⟨b, o, none⟩) n c) (i64 i) w = some (pt b (o + i.toNat * 1), w) := FP Un h0 h1 w
theorem QV : EB P 73 = some (84, 6, 96) := by kernel_rfl
theorem CI {b o n c : Nat} {i : Int} (h0 : 0 ≤ i) (h1 : i < n) (w : World) : ia P 73 (.slice (some ⟨b, o, none⟩) n c) (i64 i) w = some (pt b (o + i.toNat * 6), w) := FP QV h0 h1 w
theorem QW : EB P 74 = some (129, 5, 56) := by kernel_rfl
theorem Dn {b o n c : Nat} {i : Int} (h0 : 0 ≤ i) (h1 : i < n) (w : World) : ia P 74 (.slice (some ⟨b, o, none⟩) n c) (i64 i) w = some (pt b (o + i.toNat * 5), w) := FP QW h0 h1 w
theorem MH : EB P 75 = some (131, 9, 96) := by kernel_rfl
theorem QX {b o n c : Nat} {i : Int} (h0 : 0 ≤ i) (h1 : i < n) (w : World) : ia P 75 (.slice (some ⟨b, o, none⟩) n c) (i64 i) w = some (pt b (o + i.toNat * 9), w) := FP MH h0 h1 w
theorem KZ : EB P 79 = some (86, 2, 48) := by kernel_rfl
theorem Cp {b o n c : Nat} {i : Int} (h0 : 0 ≤ i) (h1 : i < n) (w : World) : ia P 79 (.slice (some ⟨b, o, none⟩) n c) (i64 i) w = some (pt b (o + i.toNat * 2), w) := FP KZ h0 h1 w
theorem PD : EB P 82 = some (42, 1, 24) := by kernel_rfl
theorem Hq {b o n c : Nat} {i : Int} (h0 : 0 ≤ i) (h1 : i < n) (w : World) : ia P 82 (.slice (some ⟨b, o, none⟩) n c) (i64 i) w = some (pt b (o + i.toNat * 1), w) := FP PD h0 h1 w
@[simp] theorem VL (b o : Nat) (w : World) : ld P 129 (pt b o) w = O4 P 129 b o w (AZ w b o 5) := DP (by kernel_rfl) (by kernel_rfl) b o w
@[simp] theorem VM (b o : Nat) (w : World) : ld P 131 (pt b o) w = O4 P 131 b o w (AZ w b o 9) := DP (by kernel_rfl) (by kernel_rfl) b o w
@[simp] theorem VN (b o : Nat) (w : World) : ld P 137 (pt b o) w = O4 P 137 b o w (AZ w b o 6) := DP (by kernel_rfl) (by kernel_rfl) b o w
@[simp] theorem Wl (b o : Nat) (w : World) : ld P 22 (pt b o) w = Om P 22 b o w (Bj (hp w b) o) := Dd (by kernel_rfl) b o w
@[simp] theorem Wm (b o : Nat) (w : World) : ld P 23 (pt b o) w = Om P 23 b o w (Bj (hp w b) o) := Dd (by kernel_rfl) b o w
@[simp] theorem W5 (b o : Nat) (w : World) : ld P 3 (pt b o) w = Om P 3 b o w (Bj (hp w b) o) := Dd (by kernel_rfl) b o w
@[simp] theorem Wn (b o : Nat) (w : World) : ld P 30 (pt b o) w = Om P 30 b o w (Bj (hp w b) o) := Dd (by kernel_rfl) b o w
@[simp] theorem Wo (b o : Nat) (w : World) : ld P 32 (pt b o) w = O4 P 32 b o w (AZ w b o 1) := DP (by kernel_rfl) (by kernel_rfl) b o w
@[simp] theorem Wp (b o : Nat) (w : World) : ld P 36 (pt b o) w = O4 P 36 b o w (AZ w b o 2) := DP (by kernel_rfl) (by kernel_rfl) b o w
@[simp] theorem Wq (b o : Nat) (w : World) : ld P 38 (pt b o) w = O4 P 38 b o w (AZ w b o 5) := DP (by kernel_rfl) (by kernel_rfl) b o w
@[simp] theorem W6 (b o : Nat) (w : World) : ld P 4 (pt b o) w = Om P 4 b o w (Bj (hp w b) o) := Dd (by kernel_rfl) b o w
@[simp] theorem Ws (b o : Nat) (w : World) : ld P 42 (pt b o) w = Om P 42 b o w (Bj (hp w b) o) := Dd (by kernel_rfl) b o w
@[simp] theorem Wu (b o : Nat) (w : World) : ld P 44 (pt b o) w = O4 P 44 b o w (AZ w b o 1) := DP (by kernel_rfl) (by kernel_rfl) b o w
@[simp] theorem Wv (b o : Nat) (w : World) : ld P 49 (pt b o) w = O4 P 49 b o w (AZ w b o 6) := DP (by kernel_rfl) (by kernel_rfl) b o w
@[simp] theorem W7 (b o : Nat) (w : World) : ld P 5 (pt b o) w = Om P 5 b o w (Bj (hp w b) o) := Dd (by kernel_rfl) b o w
@[simp] theorem Ww (b o : Nat) (w : World) : ld P 67 (pt b o) w = Om P 67 b o w (Bj (hp w b) o) := Dd (by kernel_rfl) b o w
@[simp] theorem Wx (b o : Nat) (w : World) : ld P 73 (pt b o) w = Om P 73 b o w (Bj (hp w b) o) := Dd (by kernel_rfl) b o w
@[simp] theorem Wy (b o : Nat) (w : World) : ld P 74 (pt b o) w = Om P 74 b o w (Bj (hp w b) o) := Dd (by kernel_rfl) b o w
@[simp] theorem Wz (b o : Nat) (w : World) : ld P 75 (pt b o) w = Om P 75 b o w (Bj (hp w b) o) := Dd (by kernel_rfl) b o w
@[simp] theorem WA (b o : Nat) (w : World) : ld P 77 (pt b o) w = O4 P 77 b o w (AZ w b o 4) := DP (by kernel_rfl) (by kernel_rfl) b o w
@[simp] theorem WB (b o : Nat) (w : World) : ld P 79 (pt b o) w = Om P 79 b o w (Bj (hp w b) o) := Dd (by kernel_rfl) b o w
@[simp] theorem WC (b o : Nat) (w : World) : ld P 81 (pt b o) w = O4 P 81 b o w (AZ w b o 1) := DP (by kernel_rfl) (by kernel_rfl) b o w
@[simp] theorem WD (b o : Nat) (w : World) : ld P 82 (pt b o) w = Om P 82 b o w (Bj (hp w b) o) := Dd (by kernel_rfl) b o w
@[simp] theorem WE (b o : Nat) (w : World) : ld P 84 (pt b o) w = O4 P 84 b o w (AZ w b o 6) := DP (by kernel_rfl) (by kernel_rfl) b o w
@[simp] theorem WG (b o : Nat) (w : World) : ld P 86 (pt b o) w = O4 P 86 b o w (AZ w b o 2) := DP (by kernel_rfl) (by kernel_rfl) b o w
@[simp] theorem W8 (b o : Nat) (w : World) : ld P 9 (pt b o) w = Om P 9 b o w (Bj (hp w b) o) := Dd (by kernel_rfl) b o w
@[simp] theorem VO (b o : Nat) (v : Value) (w : World) : st P 119 (pt b o) v w = Gk P 119 3 b o v w (hp w b) := Cf (by kernel_rfl) b o v w
@[simp] theorem VP (b o : Nat) (v : Value) (w : World) : st P 129 (pt b o) v w = Gk P 129 5 b o v w (hp w b) := Cf (by kernel_rfl) b o v w
@[simp] theorem VQ (b o : Nat) (v : Value) (w : World) : st P 131 (pt b o) v w = Gk P 131 9 b o v w (hp w b) := Cf (by kernel_rfl) b o v w
@[simp] theorem VR (b o : Nat) (v : Value) (w : World) : st P 137 (pt b o) v w = Gk P 137 6 b o v w (hp w b) := Cf (by kernel_rfl) b o v w
@[simp] theorem WH (b o : Nat) (v : Value) (w : World) : st P 23 (pt b o) v w = Gk P 23 1 b o v w (hp w b) := Cf (by kernel_rfl) b o v w
@[simp] theorem W9 (b o : Nat) (v : Value) (w : World) : st P 3 (pt b o) v w = Gk P 3 1 b o v w (hp w b) := Cf (by kernel_rfl) b o v w
@[simp] theorem WI (b o : Nat) (v : Value) (w : World) : st P 30 (pt b o) v w = Gk P 30 1 b o v w (hp w b) := Cf (by kernel_rfl) b o v w
@[simp] theorem WJ (b o : Nat) (v : Value) (w : World) : st P 32 (pt b o) v w = Gk P 32 1 b o v w (hp w b) := Cf (by kernel_rfl) b o v w
@[simp] theorem WK (b o : Nat) (v : Value) (w : World) : st P 36 (pt b o) v w = Gk P 36 2 b o v w (hp w b) := Cf (by kernel_rfl) b o v w
@[simp] theorem WL (b o : Nat) (v : Value) (w : World) : st P 38 (pt b o) v w = Gk P 38 5 b o v w (hp w b) := Cf (by kernel_rfl) b o v w
@[simp] theorem Xa (b o : Nat) (v : Value) (w : World) : st P 4 (pt b o) v w = Gk P 4 1 b o v w (hp w b) := Cf (by kernel_rfl) b o v w
@[simp] theorem WM (b o : Nat) (v : Value) (w : World) : st P 42 (pt b o) v w = Gk P 42 1 b o v w (hp w b) := Cf (by kernel_rfl) b o v w
@[simp] theorem WN (b o : Nat) (v : Value) (w : World) : st P 44 (pt b o) v w = Gk P 44 1 b o v w (hp w b) := Cf (by kernel_rfl) b o v w
@[simp] theorem WO (b o : Nat) (v : Value) (w : World) : st P 49 (pt b o) v w = Gk P 49 6 b o v w (hp w b) := Cf (by kernel_rfl) b o v w
@[simp] theorem WQ (b o : Nat) (v : Value) (w : World) : st P 73 (pt b o) v w = Gk P 73 1 b o v w (hp w b) := Cf (by kernel_rfl) b o v w
@[simp] theorem WR (b o : Nat) (v : Value) (w : World) : st P 74 (pt b o) v w = Gk P 74 1 b o v w (hp w b) := Cf (by kernel_rfl) b o v w
@[simp] theorem WS (b o : Nat) (v : Value) (w : World) : st P 75 (pt b o) v w = Gk P 75 1 b o v w (hp w b) := Cf (by kernel_rfl) b o v w
@[simp] theorem WT (b o : Nat) (v : Value) (w : World) : st P 77 (pt b o) v w = Gk P 77 4 b o v w (hp w b) := Cf (by kernel_rfl) b o v w
@[simp] theorem WU (b o : Nat) (v : Value) (w : World) : st P 79 (pt b o) v w = Gk P 79 1 b o v w (hp w b) := Cf (by kernel_rfl) b o v w
@[simp] theorem WV (b o : Nat) (v : Value) (w : World) : st P 81 (pt b o) v w = Gk P 81 1 b o v w (hp w b) := Cf (by kernel_rfl) b o v w
@[simp] theorem WW (b o : Nat) (v : Value) (w : World) : st P 82 (pt b o) v w = Gk P 82 1 b o v w (hp w b) := Cf (by kernel_rfl) b o v w
@[simp] theorem WX (b o : Nat) (v : Value) (w : World) : st P 84 (pt b o) v w = Gk P 84 6 b o v w (hp w b) := Cf (by kernel_rfl) b o v w
@[simp] theorem WY (b o : Nat) (v : Value) (w : World) : st P 86 (pt b o) v w = Gk P 86 2 b o v w (hp w b) := Cf (by kernel_rfl) b o v w
theorem PE : B8 P 38 = some [(.int .i64 0), (.int .i64 0), (.int .i64 0), (.int .i64 0), (.int .i64 0)] := by kernel_rfl
theorem FM : B8 P 36 = some [(.int .i64 0), (.int .i64 0)] := by kernel_rfl
theorem Fg : B8 P 49 = some [(.int .i64 0), (.int .i64 0), (.int .i64 0), (Go.Value.slice none 0 0), (Go.Value.string { data := #[] }), (.bool false)] := by kernel_rfl
theorem QY : B8 P 32 = some [(Go.Value.slice none 0 0)] := by kernel_rfl
theorem SE : B8 P 84 = some [(.int .i64 0), (.int .i64 0), (Go.Value.slice none 0 0), (Go.Value.slice none 0 0), (Go.Value.slice none 0 0), (.bool false)] := by kernel_rfl
theorem QZ : B8 P 129 = some [(.int .i64 0), (Go.Value.slice none 0 0), (.int .i64 0), (.int .i64 0), (.int .i64 0)] := by kernel_rfl
theorem Nw : B8 P 131 = some [(.int .i64 0), (.int .i64 0), (.int .i64 0), (.int .i64 0), (.int .i64 0), (.int .i64 0), (Go.Value.slice none 0 0), (Go.Value.string { data := #[] }), (.bool false)] := by kernel_rfl
theorem Oj : B8 P 86 = some [(Go.Value.slice none 0 0), (Go.Value.slice none 0 0)] := by kernel_rfl
theorem Q0 : B8 P 42 = some [(Go.Value.slice none 0 0)] := by kernel_rfl
theorem Q1 : B8 P 137 = some [(.int .i64 0), (.int .i64 0), (.int .i64 0), (.int .i64 0), (Go.Value.string { data := #[] }), (.bool false)] := by kernel_rfl
@[simp] theorem RY (n1 : Int) (n2 : Int) (a3 : Option Addr) (l3 c3 : Nat) (w : World) : bd P 119 #[(0, (.int .i64 n1)), (1, (.int .i64 n2)), (2, (.agg #[.slice a3 l3 c3]))] w = some (.agg #[.int .i64 n1, .int .i64 n2, .slice a3 l3 c3], w) := B9 (by kernel_rfl)
@[simp] theorem S7 (n1 : Int) (a2 : Option Addr) (l2 c2 : Nat) (w : World) : bd P 129 #[(0, (.int .i64 n1)), (1, (.agg #[.slice a2 l2 c2]))] w = some (.agg #[.int .i64 n1, .slice a2 l2 c2, (.int .i64 0), (.int .i64 0), (.int .i64 0)], w) := B9 (by kernel_rfl)
@[simp] theorem Q2 (n1 : Int) (n2 : Int) (n3 : Int) (n4 : Int) (n5 : Int) (n6 : Int) (a7 : Option Addr) (l7 c7 : Nat) (s8 : ByteArray) (b9 : Bool) (w : World) : bd P 131 #[(0, (.int .i64 n1)), (1, (.int .i64 n2)), (2, (.int .i64 n3)), (3, (.agg #[.int .i64 n4, .int .i64 n5, .int .i64 n6, .slice a7 l7 c7, .string s8, .bool b9]))] w = some (.agg #[.int .i64 n1, .int .i64 n2, .int .i64 n3, .int .i64 n4, .int .i64 n5, .int .i64 n6, .slice a7 l7 c7, .string s8, .bool b9], w) := B9 (by kernel_rfl)
@[simp] theorem S8 (n1 : Int) (n2 : Int) (w : World) : bd P 137 #[(0, (.int .i64 n1)), (1, (.int .i64 n2))] w = some (.agg #[.int .i64 n1, .int .i64 n2, (.int .i64 0), (.int .i64 0), (Go.Value.string { data := #[] }), (.bool false)], w) := B9 (by kernel_rfl)
@[simp] theorem RZ (n1 : Int) (n2 : Int) (n3 : Int) (w : World) : bd P 137 #[(0, (.int .i64 n1)), (1, (.int .i64 n2)), (2, (.int .i64 n3))] w = some (.agg #[.int .i64 n1, .int .i64 n2, .int .i64 n3, (.int .i64 0), (Go.Value.string { data := #[] }), (.bool false)], w) := B9 (by kernel_rfl)
@[simp] theorem Q3 (n1 : Int) (n2 : Int) (n3 : Int) (n4 : Int) (w : World) : bd P 137 #[(0, (.int .i64 n1)), (1, (.int .i64 n2)), (2, (.int .i64 n3)), (3, (.int .i64 n4))] w = some (.agg #[.int .i64 n1, .int .i64 n2, .int .i64 n3, .int .i64 n4, (Go.Value.string { data := #[] }), (.bool false)], w) := B9 (by kernel_rfl)
@[simp] theorem Q4 (n1 : Int) (n2 : Int) (n3 : Int) (s4 : ByteArray) (w : World) : bd P 137 #[(0, (.int .i64 n1)), (1, (.int .i64 n2)), (3, (.int .i64 n3)), (4, (.string s4))] w = some (.agg #[.int .i64 n1, .int .i64 n2, (.int .i64 0), .int .i64 n3, .string s4, (.bool false)], w) := B9 (by kernel_rfl)
@[simp] theorem Q5 (n1 : Int) (n2 : Int) (n3 : Int) (b4 : Bool) (w : World) : bd P 137 #[(0, (.int .i64 n1)), (1, (.int .i64 n2)), (3, (.int .i64 n3)), (5, (.bool b4))] w = some (.agg #[.int .i64 n1, .int .i64 n2, (.int .i64 0), .int .i64 n3, (Go.Value.string { data := #[] }), .bool b4], w) := B9 (by kernel_rfl)
@[simp] theorem VS  (w : World) : bd P 32 #[] w = some (.agg #[(Go.Value.slice none 0 0)], w) := B9 (by kernel_rfl)
@[simp] theorem Vi (a1 : Option Addr) (l1 c1 : Nat) (w : World) : bd P 32 #[(0, (.slice a1 l1 c1))] w = some (.agg #[.slice a1 l1 c1], w) := B9 (by kernel_rfl)
@[simp] theorem VT  (w : World) : bd P 36 #[] w = some (.agg #[(.int .i64 0), (.int .i64 0)], w) := B9 (by kernel_rfl)
@[simp] theorem TJ (n1 : Int) (n2 : Int) (w : World) : bd P 36 #[(0, (.int .i64 n1)), (1, (.int .i64 n2))] w = some (.agg #[.int .i64 n1, .int .i64 n2], w) := B9 (by kernel_rfl)
@[simp] theorem RD (n1 : Int) (n2 : Int) (n3 : Int) (n4 : Int) (n5 : Int) (w : World) : bd P 38 #[(0, (.int .i64 n1)), (1, (.int .i64 n2)), (2, (.int .i64 n3)), (3, (.agg #[.int .i64 n4, .int .i64 n5]))] w = some (.agg #[.int .i64 n1, .int .i64 n2, .int .i64 n3, .int .i64 n4, .int .i64 n5], w) := B9 (by kernel_rfl)
@[simp] theorem VU  (w : World) : bd P 44 #[] w = some (.agg #[(Go.Value.slice none 0 0)], w) := B9 (by kernel_rfl)
@[simp] theorem Vj (a1 : Option Addr) (l1 c1 : Nat) (w : World) : bd P 44 #[(0, (.slice a1 l1 c1))] w = some (.agg #[.slice a1 l1 c1], w) := B9 (by kernel_rfl)
@[simp] theorem Qr (n1 : Int) (n2 : Int) (n3 : Int) (a4 : Option Addr) (l4 c4 : Nat) (s5 : ByteArray) (b6 : Bool) (w : World) : bd P 49 #[(0, (.int .i64 n1)), (1, (.agg #[.int .i64 n2, .int .i64 n3])), (2, (.agg #[.slice a4 l4 c4])), (3, (.string s5)), (4, (.bool b6))] w = some (.agg #[.int .i64 n1, .int .i64 n2, .int .i64 n3, .slice a4 l4 c4, .string s5, .bool b6], w) := B9 (by kernel_rfl)
@[simp] theorem Vk (m1 : Option Nat) (w : World) : bd P 69 #[(1, (.map m1))] w = some (.agg #[(Go.Value.slice none 0 0), (Go.Value.slice none 0 0), (Go.Value.slice none 0 0), (Go.Value.slice none 0 0), .map m1], w) := B9 (by kernel_rfl)
@[simp] theorem VV  (w : World) : bd P 77 #[] w = some (.agg #[(Go.Value.slice none 0 0), (Go.Value.slice none 0 0), (Go.Value.slice none 0 0), (Go.Value.slice none 0 0)], w) := B9 (by kernel_rfl)
@[simp] theorem Vl (a1 : Option Addr) (l1 c1 : Nat) (w : World) : bd P 77 #[(3, (.slice a1 l1 c1))] w = some (.agg #[(Go.Value.slice none 0 0), (Go.Value.slice none 0 0), (Go.Value.slice none 0 0), .slice a1 l1 c1], w) := B9 (by kernel_rfl)
@[simp] theorem VW  (w : World) : bd P 81 #[] w = some (.agg #[(Go.Value.slice none 0 0)], w) := B9 (by kernel_rfl)
@[simp] theorem Qs (n1 : Int) (n2 : Int) (b3 : Bool) (a4 : Option Addr) (l4 c4 : Nat) (a5 : Option Addr) (l5 c5 : Nat) (w : World) : bd P 84 #[(0, (.int .i64 n1)), (1, (.int .i64 n2)), (5, (.bool b3)), (2, (.agg #[.slice a4 l4 c4])), (3, (.slice a5 l5 c5))] w = some (.agg #[.int .i64 n1, .int .i64 n2, .slice a4 l4 c4, .slice a5 l5 c5, (Go.Value.slice none 0 0), .bool b3], w) := B9 (by kernel_rfl)
@[simp] theorem SF (n1 : Int) (a2 : Option Addr) (l2 c2 : Nat) (a3 : Option Addr) (l3 c3 : Nat) (w : World) : bd P 84 #[(0, (.int .i64 n1)), (2, (.agg #[.slice a2 l2 c2])), (4, (.slice a3 l3 c3))] w = some (.agg #[.int .i64 n1, (.int .i64 0), .slice a2 l2 c2, (Go.Value.slice none 0 0), .slice a3 l3 c3, (.bool false)], w) := B9 (by kernel_rfl)
@[simp] theorem Vm (a1 : Option Addr) (l1 c1 : Nat) (w : World) : bd P 86 #[(0, (.agg #[.slice a1 l1 c1]))] w = some (.agg #[.slice a1 l1 c1, (Go.Value.slice none 0 0)], w) := B9 (by kernel_rfl)
@[simp] theorem Vn (a1 : Option Addr) (l1 c1 : Nat) (w : World) : bd P 93 #[(0, (.slice a1 l1 c1))] w = some (.agg #[.slice a1 l1 c1, (.int .i64 0)], w) := B9 (by kernel_rfl)
@[simp] theorem Vo (w : World) : bs P 23 0 #[] w = some (.slice (some ⟨w.heap.size, 0, none⟩) 0 0, w.alloc (.cells #[] 38)) := F8 (n := 5) (by kernel_rfl) (by kernel_rfl) w
@[simp] theorem TK (n1 : Int) (n2 : Int) (n3 : Int) (n4 : Int) (n5 : Int) (w : World) : bs P 23 1 #[(0, (.agg #[.int .i64 n1, .int .i64 n2, .int .i64 n3, .int .i64 n4, .int .i64 n5]))] w = some (.slice (some ⟨w.heap.size, 0, none⟩) 1 1, w.alloc (.cells #[.int .i64 n1, .int .i64 n2, .int .i64 n3, .int .i64 n4, .int .i64 n5] 38)) := Fh (by kernel_rfl)
@[simp] theorem Vp (w : World) : bs P 30 0 #[] w = some (.slice (some ⟨w.heap.size, 0, none⟩) 0 0, w.alloc (.cells #[] 36)) := F8 (n := 2) (by kernel_rfl) (by kernel_rfl) w
@[simp] theorem TL (n1 : Int) (n2 : Int) (w : World) : bs P 30 1 #[(0, (.agg #[.int .i64 n1, .int .i64 n2]))] w = some (.slice (some ⟨w.heap.size, 0, none⟩) 1 1, w.alloc (.cells #[.int .i64 n1, .int .i64 n2] 36)) := Fh (by kernel_rfl)
@[simp] theorem Vq (w : World) : bs P 42 0 #[] w = some (.slice (some ⟨w.heap.size, 0, none⟩) 0 0, w.alloc (.cells #[] 49)) := F8 (n := 6) (by kernel_rfl) (by kernel_rfl) w
@[simp] theorem TM (n1 : Int) (n2 : Int) (n3 : Int) (a4 : Option Addr) (l4 c4 : Nat) (s5 : ByteArray) (b6 : Bool) (w : World) : bs P 42 1 #[(0, (.agg #[.int .i64 n1, .int .i64 n2, .int .i64 n3, .slice a4 l4 c4, .string s5, .bool b6]))] w = some (.slice (some ⟨w.heap.size, 0, none⟩) 1 1, w.alloc (.cells #[.int .i64 n1, .int .i64 n2, .int .i64 n3, .slice a4 l4 c4, .string s5, .bool b6] 49)) := Fh (by kernel_rfl)
@[simp] theorem Vr (w : World) : bs P 58 0 #[] w = some (.slice (some ⟨w.heap.size, 0, none⟩) 0 0, w.alloc (.cells #[] 32)) := F8 (n := 1) (by kernel_rfl) (by kernel_rfl) w
@[simp] theorem TN (a1 : Option Addr) (l1 c1 : Nat) (w : World) : bs P 58 1 #[(0, (.agg #[.slice a1 l1 c1]))] w = some (.slice (some ⟨w.heap.size, 0, none⟩) 1 1, w.alloc (.cells #[.slice a1 l1 c1] 32)) := Fh (by kernel_rfl)
@[simp] theorem SG (n1 : Int) (n2 : Int) (w : World) : bs P 64 2 #[(0, (.int .i64 n1)), (1, (.int .i64 n2))] w = some (.slice (some ⟨w.heap.size, 0, none⟩) 2 2, w.alloc (.cells #[.int .i64 n1, .int .i64 n2] 3)) := Fh (by kernel_rfl)
@[simp] theorem Qt (n1 : Int) (n2 : Int) (n3 : Int) (n4 : Int) (w : World) : bs P 64 4 #[(0, (.int .i64 n1)), (1, (.int .i64 n2)), (2, (.int .i64 n3)), (3, (.int .i64 n4))] w = some (.slice (some ⟨w.heap.size, 0, none⟩) 4 4, w.alloc (.cells #[.int .i64 n1, .int .i64 n2, .int .i64 n3, .int .i64 n4] 3)) := Fh (by kernel_rfl)
@[simp] theorem NN (n1 : Int) (n2 : Int) (n3 : Int) (n4 : Int) (n5 : Int) (n6 : Int) (n7 : Int) (w : World) : bs P 64 7 #[(0, (.int .i64 n1)), (1, (.int .i64 n2)), (2, (.int .i64 n3)), (3, (.int .i64 n4)), (4, (.int .i64 n5)), (5, (.int .i64 n6)), (6, (.int .i64 n7))] w = some (.slice (some ⟨w.heap.size, 0, none⟩) 7 7, w.alloc (.cells #[.int .i64 n1, .int .i64 n2, .int .i64 n3, .int .i64 n4, .int .i64 n5, .int .i64 n6, .int .i64 n7] 3)) := Fh (by kernel_rfl)
@[simp] theorem TO (n1 : Int) (n2 : Int) (a3 : Option Addr) (l3 c3 : Nat) (a4 : Option Addr) (l4 c4 : Nat) (a5 : Option Addr) (l5 c5 : Nat) (b6 : Bool) (w : World) : bs P 73 1 #[(0, (.agg #[.int .i64 n1, .int .i64 n2, .slice a3 l3 c3, .slice a4 l4 c4, .slice a5 l5 c5, .bool b6]))] w = some (.slice (some ⟨w.heap.size, 0, none⟩) 1 1, w.alloc (.cells #[.int .i64 n1, .int .i64 n2, .slice a3 l3 c3, .slice a4 l4 c4, .slice a5 l5 c5, .bool b6] 84)) := Fh (by kernel_rfl)
@[simp] theorem TP (n1 : Int) (a2 : Option Addr) (l2 c2 : Nat) (n3 : Int) (n4 : Int) (n5 : Int) (w : World) : bs P 74 1 #[(0, (.agg #[.int .i64 n1, .slice a2 l2 c2, .int .i64 n3, .int .i64 n4, .int .i64 n5]))] w = some (.slice (some ⟨w.heap.size, 0, none⟩) 1 1, w.alloc (.cells #[.int .i64 n1, .slice a2 l2 c2, .int .i64 n3, .int .i64 n4, .int .i64 n5] 129)) := Fh (by kernel_rfl)
@[simp] theorem Vs (w : World) : bs P 75 0 #[] w = some (.slice (some ⟨w.heap.size, 0, none⟩) 0 0, w.alloc (.cells #[] 131)) := F8 (n := 9) (by kernel_rfl) (by kernel_rfl) w
@[simp] theorem TQ (n1 : Int) (n2 : Int) (n3 : Int) (n4 : Int) (n5 : Int) (n6 : Int) (a7 : Option Addr) (l7 c7 : Nat) (s8 : ByteArray) (b9 : Bool) (w : World) : bs P 75 1 #[(0, (.agg #[.int .i64 n1, .int .i64 n2, .int .i64 n3, .int .i64 n4, .int .i64 n5, .int .i64 n6, .slice a7 l7 c7, .string s8, .bool b9]))] w = some (.slice (some ⟨w.heap.size, 0, none⟩) 1 1, w.alloc (.cells #[.int .i64 n1, .int .i64 n2, .int .i64 n3, .int .i64 n4, .int .i64 n5, .int .i64 n6, .slice a7 l7 c7, .string s8, .bool b9] 131)) := Fh (by kernel_rfl)
@[simp] theorem Vt (w : World) : bs P 79 0 #[] w = some (.slice (some ⟨w.heap.size, 0, none⟩) 0 0, w.alloc (.cells #[] 86)) := F8 (n := 2) (by kernel_rfl) (by kernel_rfl) w
@[simp] theorem TR (a1 : Option Addr) (l1 c1 : Nat) (a2 : Option Addr) (l2 c2 : Nat) (w : World) : bs P 79 1 #[(0, (.agg #[.slice a1 l1 c1, .slice a2 l2 c2]))] w = some (.slice (some ⟨w.heap.size, 0, none⟩) 1 1, w.alloc (.cells #[.slice a1 l1 c1, .slice a2 l2 c2] 86)) := Fh (by kernel_rfl)
@[simp] theorem TS (a1 : Option Addr) (l1 c1 : Nat) (w : World) : bs P 82 1 #[(0, (.slice a1 l1 c1))] w = some (.slice (some ⟨w.heap.size, 0, none⟩) 1 1, w.alloc (.cells #[.slice a1 l1 c1] 42)) := Fh (by kernel_rfl)
@[simp] theorem Uo (w : World) : bs P 109 0 #[] w = some (.slice (some ⟨w.heap.size, 0, none⟩) 0 0, w.alloc (.cells #[] 137)) := F8 (n := 6) (by kernel_rfl) (by kernel_rfl) w
@[simp] theorem S9 (n1 : Int) (n2 : Int) (n3 : Int) (n4 : Int) (s5 : ByteArray) (b6 : Bool) (w : World) : bs P 109 1 #[(0, (.agg #[.int .i64 n1, .int .i64 n2, .int .i64 n3, .int .i64 n4, .string s5, .bool b6]))] w = some (.slice (some ⟨w.heap.size, 0, none⟩) 1 1, w.alloc (.cells #[.int .i64 n1, .int .i64 n2, .int .i64 n3, .int .i64 n4, .string s5, .bool b6] 137)) := Fh (by kernel_rfl)
@[simp] theorem Mn (s1 : ByteArray) (s2 : ByteArray) (s3 : ByteArray) (s4 : ByteArray) (s5 : ByteArray) (s6 : ByteArray) (s7 : ByteArray) (s8 : ByteArray) (w : World) : bs P 140 8 #[(0, (.string s1)), (1, (.string s2)), (2, (.string s3)), (3, (.string s4)), (4, (.string s5)), (5, (.string s6)), (6, (.string s7)), (7, (.string s8))] w = some (.slice (some ⟨w.heap.size, 0, none⟩) 8 8, w.alloc (.cells #[.string s1, .string s2, .string s3, .string s4, .string s5, .string s6, .string s7, .string s8] 9)) := Fh (by kernel_rfl)
@[simp] theorem VX (n : Int) (w : World) : cv P 5 3 (.int .u8 n) w = some (.int .i64 (IntKind.wrap .i64 n), w) := Tv (by kernel_rfl) (by kernel_rfl) _ n w
attribute [simp ↓] VY Us Ut Ri To Tp Tq Tr Uu Ts Tt
attribute [simp] Uq Tc Td Tf Tg Th Ti Tj Tk Tl O5 O6 Tm Tn Rc World.size_alloc size_setRow Jm Qh O8 NC Ou Mr Qi K4 O9 Uv Ad BA Ra Rb Ab Aa Nz NA O7 Bh R9 Re Rf Qg BS Value.oneCell'
end Go.Proofs.YtjhhommnkaemlaaGreat.X
