/- A part of the proof: an evaluator of the model, its laws, and contracts of functions; no condition. -/
import Derived.Test.YtjhhommnkaemlaaGreatProg
import Derived.Test.YtjhhommnkaemlaaGreatEvM
set_option linter.unusedVariables false
set_option linter.unusedSimpArgs false
set_option linter.deprecated false
namespace Go.Proofs.YtjhhommnkaemlaaGreat.X
open Go Go.Ev
noncomputable def P : Program := Tryz.prog
theorem plain : Plain P := by
 have h : (P.funcs.toList.all fun fn => fn.body.isNone || fn.name != "runtime.NumGoroutine") = true := by kernel_rfl
 intro fn hf hb
 rw [List.all_eq_true] at h
 have := h fn (Array.mem_toList_iff.2 hf)
 simp only [Option.isNone_iff_eq_none, Bool.or_eq_true, bne_iff_ne, ne_eq] at this
 rcases this with h | h
 ·rw [h] at hb; simp at hb
 ·exact h
theorem mixed : P.follows .mixedOrders = true := by kernel_rfl
@[simp] theorem Ws (w : World) : al P 119 w = some (pt w.heap.size 0, w.alloc (.cells #[(.int .i64 0), (.int .i64 0), (Go.Value.slice none 0 0)] 119)) := Gc (z := [(.int .i64 0), (.int .i64 0), (Go.Value.slice none 0 0)]) (by kernel_rfl) w
@[simp] theorem Wu (w : World) : al P 129 w = some (pt w.heap.size 0, w.alloc (.cells #[(.int .i64 0), (Go.Value.slice none 0 0), (.int .i64 0), (.int .i64 0), (.int .i64 0)] 129)) := Gc (z := [(.int .i64 0), (Go.Value.slice none 0 0), (.int .i64 0), (.int .i64 0), (.int .i64 0)]) (by kernel_rfl) w
@[simp] theorem Wv (w : World) : al P 131 w = some (pt w.heap.size 0, w.alloc (.cells #[(.int .i64 0), (.int .i64 0), (.int .i64 0), (.int .i64 0), (.int .i64 0), (.int .i64 0), (Go.Value.slice none 0 0), (Go.Value.string { data := #[] }), (.bool false)] 131)) := Gc (z := [(.int .i64 0), (.int .i64 0), (.int .i64 0), (.int .i64 0), (.int .i64 0), (.int .i64 0), (Go.Value.slice none 0 0), (Go.Value.string { data := #[] }), (.bool false)]) (by kernel_rfl) w
@[simp] theorem Ww (w : World) : al P 137 w = some (pt w.heap.size 0, w.alloc (.cells #[(.int .i64 0), (.int .i64 0), (.int .i64 0), (.int .i64 0), (Go.Value.string { data := #[] }), (.bool false)] 137)) := Gc (z := [(.int .i64 0), (.int .i64 0), (.int .i64 0), (.int .i64 0), (Go.Value.string { data := #[] }), (.bool false)]) (by kernel_rfl) w
@[simp] theorem W6 (w : World) : al P 32 w = some (pt w.heap.size 0, w.alloc (.cells #[(Go.Value.slice none 0 0)] 32)) := Gc (z := [(Go.Value.slice none 0 0)]) (by kernel_rfl) w
@[simp] theorem W7 (w : World) : al P 36 w = some (pt w.heap.size 0, w.alloc (.cells #[(.int .i64 0), (.int .i64 0)] 36)) := Gc (z := [(.int .i64 0), (.int .i64 0)]) (by kernel_rfl) w
@[simp] theorem W8 (w : World) : al P 38 w = some (pt w.heap.size 0, w.alloc (.cells #[(.int .i64 0), (.int .i64 0), (.int .i64 0), (.int .i64 0), (.int .i64 0)] 38)) := Gc (z := [(.int .i64 0), (.int .i64 0), (.int .i64 0), (.int .i64 0), (.int .i64 0)]) (by kernel_rfl) w
@[simp] theorem W9 (w : World) : al P 44 w = some (pt w.heap.size 0, w.alloc (.cells #[(Go.Value.slice none 0 0)] 44)) := Gc (z := [(Go.Value.slice none 0 0)]) (by kernel_rfl) w
@[simp] theorem Xa (w : World) : al P 49 w = some (pt w.heap.size 0, w.alloc (.cells #[(.int .i64 0), (.int .i64 0), (.int .i64 0), (Go.Value.slice none 0 0), (Go.Value.string { data := #[] }), (.bool false)] 49)) := Gc (z := [(.int .i64 0), (.int .i64 0), (.int .i64 0), (Go.Value.slice none 0 0), (Go.Value.string { data := #[] }), (.bool false)]) (by kernel_rfl) w
@[simp] theorem Xb (w : World) : al P 77 w = some (pt w.heap.size 0, w.alloc (.cells #[(Go.Value.slice none 0 0), (Go.Value.slice none 0 0), (Go.Value.slice none 0 0), (Go.Value.slice none 0 0)] 77)) := Gc (z := [(Go.Value.slice none 0 0), (Go.Value.slice none 0 0), (Go.Value.slice none 0 0), (Go.Value.slice none 0 0)]) (by kernel_rfl) w
@[simp] theorem Xc (w : World) : al P 81 w = some (pt w.heap.size 0, w.alloc (.cells #[(Go.Value.slice none 0 0)] 81)) := Gc (z := [(Go.Value.slice none 0 0)]) (by kernel_rfl) w
@[simp] theorem Xd (w : World) : al P 84 w = some (pt w.heap.size 0, w.alloc (.cells #[(.int .i64 0), (.int .i64 0), (Go.Value.slice none 0 0), (Go.Value.slice none 0 0), (Go.Value.slice none 0 0), (.bool false)] 84)) := Gc (z := [(.int .i64 0), (.int .i64 0), (Go.Value.slice none 0 0), (Go.Value.slice none 0 0), (Go.Value.slice none 0 0), (.bool false)]) (by kernel_rfl) w
@[simp] theorem Xe (w : World) : al P 86 w = some (pt w.heap.size 0, w.alloc (.cells #[(Go.Value.slice none 0 0), (Go.Value.slice none 0 0)] 86)) := Gc (z := [(Go.Value.slice none 0 0), (Go.Value.slice none 0 0)]) (by kernel_rfl) w
@[simp] theorem VC (a : Option Addr) (n c : Nat) (w : World) : Ax P #[109] 3 #[.slice a n c] w = some (i64 n, w) := BD (e := 137) (s := (6, 56)) (by kernel_rfl) a n c w
@[simp] theorem VD (a : Option Addr) (n c : Nat) (w : World) : Ax P #[140] 3 #[.slice a n c] w = some (i64 n, w) := BD (e := 9) (s := (1, 16)) (by kernel_rfl) a n c w
@[simp] theorem Wx (a : Option Addr) (n c : Nat) (w : World) : Ax P #[22] 3 #[.slice a n c] w = some (i64 n, w) := BD (e := 5) (s := (1, 1)) (by kernel_rfl) a n c w
@[simp] theorem Wy (a : Option Addr) (n c : Nat) (w : World) : Ax P #[23] 3 #[.slice a n c] w = some (i64 n, w) := BD (e := 38) (s := (5, 40)) (by kernel_rfl) a n c w
@[simp] theorem Wz (a : Option Addr) (n c : Nat) (w : World) : Ax P #[30] 3 #[.slice a n c] w = some (i64 n, w) := BD (e := 36) (s := (2, 16)) (by kernel_rfl) a n c w
@[simp] theorem WA (a : Option Addr) (n c : Nat) (w : World) : Ax P #[42] 3 #[.slice a n c] w = some (i64 n, w) := BD (e := 49) (s := (6, 72)) (by kernel_rfl) a n c w
@[simp] theorem WB (a : Option Addr) (n c : Nat) (w : World) : Ax P #[64] 3 #[.slice a n c] w = some (i64 n, w) := BD (e := 3) (s := (1, 8)) (by kernel_rfl) a n c w
@[simp] theorem WC (a : Option Addr) (n c : Nat) (w : World) : Ax P #[73] 3 #[.slice a n c] w = some (i64 n, w) := BD (e := 84) (s := (6, 96)) (by kernel_rfl) a n c w
@[simp] theorem WD (a : Option Addr) (n c : Nat) (w : World) : Ax P #[74] 3 #[.slice a n c] w = some (i64 n, w) := BD (e := 129) (s := (5, 56)) (by kernel_rfl) a n c w
@[simp] theorem WE (a : Option Addr) (n c : Nat) (w : World) : Ax P #[75] 3 #[.slice a n c] w = some (i64 n, w) := BD (e := 131) (s := (9, 96)) (by kernel_rfl) a n c w
@[simp] theorem WG (a : Option Addr) (n c : Nat) (w : World) : Ax P #[79] 3 #[.slice a n c] w = some (i64 n, w) := BD (e := 86) (s := (2, 48)) (by kernel_rfl) a n c w
@[simp] theorem WH (a : Option Addr) (n c : Nat) (w : World) : Ax P #[82] 3 #[.slice a n c] w = some (i64 n, w) := BD (e := 42) (s := (1, 24)) (by kernel_rfl) a n c w
@[simp] theorem Xf (s : ByteArray) (w : World) : Ax P #[9] 3 #[.string s] w = some (i64 s.size, w) := Ta (by kernel_rfl) s w
theorem Tw : (P.fieldsOf 36).toList = [{ name := "Time", type := 3, offset := 0, embedded := false, tag := "", pkgPath := "", byteOffset := 0 }, { name := "Place", type := 3, offset := 1, embedded := false, tag := "", pkgPath := "", byteOffset := 8 }] := by kernel_rfl
@[simp] theorem UD (x y : Operand) (a0 a1 b0 b1 : Int) (w : World) : bo P .eql 36 x y (.agg #[i64 a0, i64 a1]) (.agg #[i64 b0, i64 b1]) w = some (.bool (((a0 == b0) && (a1 == b1))), w) := by
 have hg := run_eqGuard_agg (P := P) w .eql 36 x y #[i64 a0, i64 a1] #[i64 b0, i64 b1] (by kernel_rfl)
 have hs := run_equalIn_struct (P := P) w 9999 36 #[i64 a0, i64 a1] #[i64 b0, i64 b1] (by kernel_rfl) (by kernel_rfl)
 simp only [bo, Sem.run_bind, hg, Result.andThen_ok, run_eql_struct, hs, Tw]
 exact Ns (by kernel_rfl) (by kernel_rfl) ⟨by simp, by simp, rfl, rfl⟩ _ _ _ _ w
@[simp] theorem UE (x y : Operand) (a0 a1 b0 b1 : Int) (w : World) : bo P .neq 36 x y (.agg #[i64 a0, i64 a1]) (.agg #[i64 b0, i64 b1]) w = some (.bool (!((a0 == b0) && (a1 == b1))), w) := by
 have hg := run_eqGuard_agg (P := P) w .neq 36 x y #[i64 a0, i64 a1] #[i64 b0, i64 b1] (by kernel_rfl)
 have hs := run_equalIn_struct (P := P) w 9999 36 #[i64 a0, i64 a1] #[i64 b0, i64 b1] (by kernel_rfl) (by kernel_rfl)
 simp only [bo, Sem.run_bind, hg, Result.andThen_ok, run_neq_struct, hs, Tw]
 exact QS (by kernel_rfl) (by kernel_rfl) ⟨by simp, by simp, rfl, rfl⟩ _ _ _ _ w
@[simp] theorem UU (b o : Nat) (w : World) : fa P 119 (pt b o) 0 w = some (pt b (o + 0), w) := A8 (n := 0) (g := some false) (by kernel_rfl) b o w
@[simp] theorem UW (b o : Nat) (w : World) : fa P 119 (pt b o) 1 w = some (pt b (o + 1), w) := A8 (n := 0) (g := some false) (by kernel_rfl) b o w
@[simp] theorem UX (b o : Nat) (w : World) : fa P 119 (pt b o) 2 w = some (pt b (o + 2), w) := A8 (n := 0) (g := some true) (by kernel_rfl) b o w
@[simp] theorem UY (b o : Nat) (w : World) : fa P 129 (pt b o) 0 w = some (pt b (o + 0), w) := A8 (n := 0) (g := some false) (by kernel_rfl) b o w
@[simp] theorem UZ (b o : Nat) (w : World) : fa P 129 (pt b o) 1 w = some (pt b (o + 1), w) := A8 (n := 0) (g := some true) (by kernel_rfl) b o w
@[simp] theorem U0 (b o : Nat) (w : World) : fa P 129 (pt b o) 2 w = some (pt b (o + 2), w) := A8 (n := 1) (g := some true) (by kernel_rfl) b o w
@[simp] theorem U4 (b o : Nat) (w : World) : fa P 129 (pt b o) 3 w = some (pt b (o + 4), w) := A8 (n := 0) (g := some false) (by kernel_rfl) b o w
@[simp] theorem U5 (b o : Nat) (w : World) : fa P 131 (pt b o) 0 w = some (pt b (o + 0), w) := A8 (n := 0) (g := some false) (by kernel_rfl) b o w
@[simp] theorem U6 (b o : Nat) (w : World) : fa P 131 (pt b o) 1 w = some (pt b (o + 1), w) := A8 (n := 0) (g := some false) (by kernel_rfl) b o w
@[simp] theorem U7 (b o : Nat) (w : World) : fa P 131 (pt b o) 2 w = some (pt b (o + 2), w) := A8 (n := 0) (g := some false) (by kernel_rfl) b o w
@[simp] theorem U8 (b o : Nat) (w : World) : fa P 131 (pt b o) 3 w = some (pt b (o + 3), w) := A8 (n := 5) (g := some true) (by kernel_rfl) b o w
@[simp] theorem U9 (b o : Nat) (w : World) : fa P 137 (pt b o) 0 w = some (pt b (o + 0), w) := A8 (n := 0) (g := some false) (by kernel_rfl) b o w
@[simp] theorem Va (b o : Nat) (w : World) : fa P 137 (pt b o) 1 w = some (pt b (o + 1), w) := A8 (n := 0) (g := some false) (by kernel_rfl) b o w
@[simp] theorem Vb (b o : Nat) (w : World) : fa P 137 (pt b o) 2 w = some (pt b (o + 2), w) := A8 (n := 0) (g := some false) (by kernel_rfl) b o w
@[simp] theorem Vc (b o : Nat) (w : World) : fa P 137 (pt b o) 3 w = some (pt b (o + 3), w) := A8 (n := 0) (g := some false) (by kernel_rfl) b o w
@[simp] theorem Vd (b o : Nat) (w : World) : fa P 137 (pt b o) 4 w = some (pt b (o + 4), w) := A8 (n := 0) (g := some false) (by kernel_rfl) b o w
@[simp] theorem Ve (b o : Nat) (w : World) : fa P 137 (pt b o) 5 w = some (pt b (o + 5), w) := A8 (n := 0) (g := some false) (by kernel_rfl) b o w
@[simp] theorem VE (b o : Nat) (w : World) : fa P 32 (pt b o) 0 w = some (pt b (o + 0), w) := A8 (n := 0) (g := some false) (by kernel_rfl) b o w
@[simp] theorem VF (b o : Nat) (w : World) : fa P 36 (pt b o) 0 w = some (pt b (o + 0), w) := A8 (n := 0) (g := some false) (by kernel_rfl) b o w
@[simp] theorem VG (b o : Nat) (w : World) : fa P 36 (pt b o) 1 w = some (pt b (o + 1), w) := A8 (n := 0) (g := some false) (by kernel_rfl) b o w
@[simp] theorem VH (b o : Nat) (w : World) : fa P 38 (pt b o) 0 w = some (pt b (o + 0), w) := A8 (n := 0) (g := some false) (by kernel_rfl) b o w
@[simp] theorem VI (b o : Nat) (w : World) : fa P 38 (pt b o) 1 w = some (pt b (o + 1), w) := A8 (n := 0) (g := some false) (by kernel_rfl) b o w
@[simp] theorem VJ (b o : Nat) (w : World) : fa P 38 (pt b o) 2 w = some (pt b (o + 2), w) := A8 (n := 0) (g := some false) (by kernel_rfl) b o w
@[simp] theorem VK (b o : Nat) (w : World) : fa P 38 (pt b o) 3 w = some (pt b (o + 3), w) := A8 (n := 1) (g := some true) (by kernel_rfl) b o w
@[simp] theorem VL (b o : Nat) (w : World) : fa P 44 (pt b o) 0 w = some (pt b (o + 0), w) := A8 (n := 0) (g := some false) (by kernel_rfl) b o w
@[simp] theorem VM (b o : Nat) (w : World) : fa P 49 (pt b o) 0 w = some (pt b (o + 0), w) := A8 (n := 0) (g := some false) (by kernel_rfl) b o w
@[simp] theorem VN (b o : Nat) (w : World) : fa P 49 (pt b o) 1 w = some (pt b (o + 1), w) := A8 (n := 1) (g := some true) (by kernel_rfl) b o w
@[simp] theorem VO (b o : Nat) (w : World) : fa P 49 (pt b o) 2 w = some (pt b (o + 3), w) := A8 (n := 0) (g := some true) (by kernel_rfl) b o w
@[simp] theorem VP (b o : Nat) (w : World) : fa P 69 (pt b o) 0 w = some (pt b (o + 0), w) := A8 (n := 3) (g := some true) (by kernel_rfl) b o w
@[simp] theorem VQ (b o : Nat) (w : World) : fa P 69 (pt b o) 1 w = some (pt b (o + 4), w) := A8 (n := 0) (g := some false) (by kernel_rfl) b o w
@[simp] theorem VR (b o : Nat) (w : World) : fa P 77 (pt b o) 0 w = some (pt b (o + 0), w) := A8 (n := 0) (g := some false) (by kernel_rfl) b o w
@[simp] theorem VS (b o : Nat) (w : World) : fa P 77 (pt b o) 1 w = some (pt b (o + 1), w) := A8 (n := 0) (g := some false) (by kernel_rfl) b o w
@[simp] theorem VT (b o : Nat) (w : World) : fa P 77 (pt b o) 2 w = some (pt b (o + 2), w) := A8 (n := 0) (g := some false) (by kernel_rfl) b o w
@[simp] theorem VU (b o : Nat) (w : World) : fa P 77 (pt b o) 3 w = some (pt b (o + 3), w) := A8 (n := 0) (g := some false) (by kernel_rfl) b o w
@[simp] theorem VV (b o : Nat) (w : World) : fa P 81 (pt b o) 0 w = some (pt b (o + 0), w) := A8 (n := 0) (g := some false) (by kernel_rfl) b o w
@[simp] theorem VW (b o : Nat) (w : World) : fa P 84 (pt b o) 0 w = some (pt b (o + 0), w) := A8 (n := 0) (g := some false) (by kernel_rfl) b o w
@[simp] theorem VX (b o : Nat) (w : World) : fa P 84 (pt b o) 1 w = some (pt b (o + 1), w) := A8 (n := 0) (g := some false) (by kernel_rfl) b o w
@[simp] theorem VY (b o : Nat) (w : World) : fa P 84 (pt b o) 2 w = some (pt b (o + 2), w) := A8 (n := 0) (g := some true) (by kernel_rfl) b o w
@[simp] theorem VZ (b o : Nat) (w : World) : fa P 84 (pt b o) 3 w = some (pt b (o + 3), w) := A8 (n := 0) (g := some false) (by kernel_rfl) b o w
@[simp] theorem V0 (b o : Nat) (w : World) : fa P 84 (pt b o) 4 w = some (pt b (o + 4), w) := A8 (n := 0) (g := some false) (by kernel_rfl) b o w
@[simp] theorem V6 (b o : Nat) (w : World) : fa P 84 (pt b o) 5 w = some (pt b (o + 5), w) := A8 (n := 0) (g := some false) (by kernel_rfl) b o w
@[simp] theorem V7 (b o : Nat) (w : World) : fa P 86 (pt b o) 0 w = some (pt b (o + 0), w) := A8 (n := 0) (g := some true) (by kernel_rfl) b o w
@[simp] theorem V8 (b o : Nat) (w : World) : fa P 86 (pt b o) 1 w = some (pt b (o + 1), w) := A8 (n := 0) (g := some false) (by kernel_rfl) b o w
@[simp] theorem V9 (b o : Nat) (w : World) : fa P 93 (pt b o) 0 w = some (pt b (o + 0), w) := A8 (n := 0) (g := some false) (by kernel_rfl) b o w
@[simp] theorem Wb (b o : Nat) (w : World) : fa P 93 (pt b o) 1 w = some (pt b (o + 1), w) := A8 (n := 0) (g := some false) (by kernel_rfl) b o w
theorem PF : EY P 109 = some (137, 6, 56) := by kernel_rfl
theorem TV {b o n c : Nat} {i : Int} (h0 : 0 ≤ i) (h1 : i < n) (w : World) : ia P 109 (.slice (some ⟨b, o, none⟩) n c) (i64 i) w = some (pt b (o + i.toNat * 6), w) := Gd PF h0 h1 w
theorem TW : EY P 140 = some (9, 1, 16) := by kernel_rfl
theorem TX {b o n c : Nat} {i : Int} (h0 : 0 ≤ i) (h1 : i < n) (w : World) : ia P 140 (.slice (some ⟨b, o, none⟩) n c) (i64 i) w = some (pt b (o + i.toNat * 1), w) := Gd TW h0 h1 w
theorem Tx : EY P 22 = some (5, 1, 1) := by kernel_rfl
theorem Ty {b o n c : Nat} {i : Int} (h0 : 0 ≤ i) (h1 : i < n) (w : World) : ia P 22 (.slice (some ⟨b, o, none⟩) n c) (i64 i) w = some (pt b (o + i.toNat * 1), w) := Gd Tx h0 h1 w
theorem HO : EY P 23 = some (38, 5, 40) := by kernel_rfl
theorem Cf {b o n c : Nat} {i : Int} (h0 : 0 ≤ i) (h1 : i < n) (w : World) : ia P 23 (.slice (some ⟨b, o, none⟩) n c) (i64 i) w = some (pt b (o + i.toNat * 5), w) := Gd HO h0 h1 w
theorem CD : EY P 30 = some (36, 2, 16) := by kernel_rfl
theorem EN {b o n c : Nat} {i : Int} (h0 : 0 ≤ i) (h1 : i < n) (w : World) : ia P 30 (.slice (some ⟨b, o, none⟩) n c) (i64 i) w = some (pt b (o + i.toNat * 2), w) := Gd CD h0 h1 w
theorem CQ : EY P 42 = some (49, 6, 72) := by kernel_rfl
theorem BP {b o n c : Nat} {i : Int} (h0 : 0 ≤ i) (h1 : i < n) (w : World) : ia P 42 (.slice (some ⟨b, o, none⟩) n c) (i64 i) w = some (pt b (o + i.toNat * 6), w) := Gd CQ h0 h1 w
theorem Qj : EY P 58 = some (32, 1, 24) := by kernel_rfl
theorem OV {b o n c : Nat} {i : Int} (h0 : 0 ≤ i) (h1 : i < n) (w : World) : ia P 58 (.slice (some ⟨b, o, none⟩) n c) (i64 i) w = some (pt b (o + i.toNat * 1), w) := Gd Qj h0 h1 w
theorem Vf : EY P 64 = some (3, 1, 8) := by kernel_rfl
theorem RD {b o n c : Nat} {i : Int} (h0 : 0 ≤ i) (h1 : i < n) (w : World) : ia P 64 (.slice (some ⟨b, o, none⟩) n c) (i64 i) w = some (pt b (o + i.toNat * 1), w) := Gd Vf h0 h1 w
theorem RE : EY P 73 = some (84, 6, 96) := by kernel_rfl
theorem CR {b o n c : Nat} {i : Int} (h0 : 0 ≤ i) (h1 : i < n) (w : World) : ia P 73 (.slice (some ⟨b, o, none⟩) n c) (i64 i) w = some (pt b (o + i.toNat * 6), w) := Gd RE h0 h1 w
theorem RF : EY P 74 = some (129, 5, 56) := by kernel_rfl
theorem DE {b o n c : Nat} {i : Int} (h0 : 0 ≤ i) (h1 : i < n) (w : World) : ia P 74 (.slice (some ⟨b, o, none⟩) n c) (i64 i) w = some (pt b (o + i.toNat * 5), w) := Gd RF h0 h1 w
theorem Nr : EY P 75 = some (131, 9, 96) := by kernel_rfl
theorem RG {b o n c : Nat} {i : Int} (h0 : 0 ≤ i) (h1 : i < n) (w : World) : ia P 75 (.slice (some ⟨b, o, none⟩) n c) (i64 i) w = some (pt b (o + i.toNat * 9), w) := Gd Nr h0 h1 w
theorem Lt : EY P 79 = some (86, 2, 48) := by kernel_rfl
theorem Cw {b o n c : Nat} {i : Int} (h0 : 0 ≤ i) (h1 : i < n) (w : World) : ia P 79 (.slice (some ⟨b, o, none⟩) n c) (i64 i) w = some (pt b (o + i.toNat * 2), w) := Gd Lt h0 h1 w
theorem Qk : EY P 82 = some (42, 1, 24) := by kernel_rfl
theorem HP {b o n c : Nat} {i : Int} (h0 : 0 ≤ i) (h1 : i < n) (w : World) : ia P 82 (.slice (some ⟨b, o, none⟩) n c) (i64 i) w = some (pt b (o + i.toNat * 1), w) := Gd Qk h0 h1 w
@[simp] theorem WI (b o : Nat) (w : World) : ld P 129 (pt b o) w = PG P 129 b o w (Ba w b o 5) := Ec (by kernel_rfl) (by kernel_rfl) b o w
@[simp] theorem WJ (b o : Nat) (w : World) : ld P 131 (pt b o) w = PG P 131 b o w (Ba w b o 9) := Ec (by kernel_rfl) (by kernel_rfl) b o w
@[simp] theorem WK (b o : Nat) (w : World) : ld P 137 (pt b o) w = PG P 137 b o w (Ba w b o 6) := Ec (by kernel_rfl) (by kernel_rfl) b o w
@[simp] theorem Xg (b o : Nat) (w : World) : ld P 22 (pt b o) w = OY P 22 b o w (Bo (hp w b) o) := Dq (by kernel_rfl) b o w
@[simp] theorem Xh (b o : Nat) (w : World) : ld P 23 (pt b o) w = OY P 23 b o w (Bo (hp w b) o) := Dq (by kernel_rfl) b o w
@[simp] theorem XU (b o : Nat) (w : World) : ld P 3 (pt b o) w = OY P 3 b o w (Bo (hp w b) o) := Dq (by kernel_rfl) b o w
@[simp] theorem Xi (b o : Nat) (w : World) : ld P 30 (pt b o) w = OY P 30 b o w (Bo (hp w b) o) := Dq (by kernel_rfl) b o w
@[simp] theorem Xj (b o : Nat) (w : World) : ld P 32 (pt b o) w = PG P 32 b o w (Ba w b o 1) := Ec (by kernel_rfl) (by kernel_rfl) b o w
@[simp] theorem Xk (b o : Nat) (w : World) : ld P 36 (pt b o) w = PG P 36 b o w (Ba w b o 2) := Ec (by kernel_rfl) (by kernel_rfl) b o w
@[simp] theorem Xl (b o : Nat) (w : World) : ld P 38 (pt b o) w = PG P 38 b o w (Ba w b o 5) := Ec (by kernel_rfl) (by kernel_rfl) b o w
@[simp] theorem XV (b o : Nat) (w : World) : ld P 4 (pt b o) w = OY P 4 b o w (Bo (hp w b) o) := Dq (by kernel_rfl) b o w
@[simp] theorem Xn (b o : Nat) (w : World) : ld P 42 (pt b o) w = OY P 42 b o w (Bo (hp w b) o) := Dq (by kernel_rfl) b o w
@[simp] theorem Xo (b o : Nat) (w : World) : ld P 44 (pt b o) w = PG P 44 b o w (Ba w b o 1) := Ec (by kernel_rfl) (by kernel_rfl) b o w
@[simp] theorem Xp (b o : Nat) (w : World) : ld P 49 (pt b o) w = PG P 49 b o w (Ba w b o 6) := Ec (by kernel_rfl) (by kernel_rfl) b o w
@[simp] theorem XW (b o : Nat) (w : World) : ld P 5 (pt b o) w = OY P 5 b o w (Bo (hp w b) o) := Dq (by kernel_rfl) b o w
@[simp] theorem Xq (b o : Nat) (w : World) : ld P 67 (pt b o) w = OY P 67 b o w (Bo (hp w b) o) := Dq (by kernel_rfl) b o w
@[simp] theorem Xr (b o : Nat) (w : World) : ld P 73 (pt b o) w = OY P 73 b o w (Bo (hp w b) o) := Dq (by kernel_rfl) b o w
@[simp] theorem Xs (b o : Nat) (w : World) : ld P 74 (pt b o) w = OY P 74 b o w (Bo (hp w b) o) := Dq (by kernel_rfl) b o w
@[simp] theorem Xt (b o : Nat) (w : World) : ld P 75 (pt b o) w = OY P 75 b o w (Bo (hp w b) o) := Dq (by kernel_rfl) b o w
@[simp] theorem Xu (b o : Nat) (w : World) : ld P 77 (pt b o) w = PG P 77 b o w (Ba w b o 4) := Ec (by kernel_rfl) (by kernel_rfl) b o w
@[simp] theorem Xv (b o : Nat) (w : World) : ld P 79 (pt b o) w = OY P 79 b o w (Bo (hp w b) o) := Dq (by kernel_rfl) b o w
@[simp] theorem Xw (b o : Nat) (w : World) : ld P 81 (pt b o) w = PG P 81 b o w (Ba w b o 1) := Ec (by kernel_rfl) (by kernel_rfl) b o w
@[simp] theorem Xy (b o : Nat) (w : World) : ld P 82 (pt b o) w = OY P 82 b o w (Bo (hp w b) o) := Dq (by kernel_rfl) b o w
@[simp] theorem Xz (b o : Nat) (w : World) : ld P 84 (pt b o) w = PG P 84 b o w (Ba w b o 6) := Ec (by kernel_rfl) (by kernel_rfl) b o w
@[simp] theorem XA (b o : Nat) (w : World) : ld P 86 (pt b o) w = PG P 86 b o w (Ba w b o 2) := Ec (by kernel_rfl) (by kernel_rfl) b o w
@[simp] theorem XX (b o : Nat) (w : World) : ld P 9 (pt b o) w = OY P 9 b o w (Bo (hp w b) o) := Dq (by kernel_rfl) b o w
@[simp] theorem WL (b o : Nat) (v : Value) (w : World) : st P 119 (pt b o) v w = GK P 119 3 b o v w (hp w b) := Cn (by kernel_rfl) b o v w
@[simp] theorem WM (b o : Nat) (v : Value) (w : World) : st P 129 (pt b o) v w = GK P 129 5 b o v w (hp w b) := Cn (by kernel_rfl) b o v w
@[simp] theorem WN (b o : Nat) (v : Value) (w : World) : st P 131 (pt b o) v w = GK P 131 9 b o v w (hp w b) := Cn (by kernel_rfl) b o v w
@[simp] theorem WO (b o : Nat) (v : Value) (w : World) : st P 137 (pt b o) v w = GK P 137 6 b o v w (hp w b) := Cn (by kernel_rfl) b o v w
@[simp] theorem XB (b o : Nat) (v : Value) (w : World) : st P 23 (pt b o) v w = GK P 23 1 b o v w (hp w b) := Cn (by kernel_rfl) b o v w
@[simp] theorem XY (b o : Nat) (v : Value) (w : World) : st P 3 (pt b o) v w = GK P 3 1 b o v w (hp w b) := Cn (by kernel_rfl) b o v w
@[simp] theorem XC (b o : Nat) (v : Value) (w : World) : st P 30 (pt b o) v w = GK P 30 1 b o v w (hp w b) := Cn (by kernel_rfl) b o v w
@[simp] theorem XD (b o : Nat) (v : Value) (w : World) : st P 32 (pt b o) v w = GK P 32 1 b o v w (hp w b) := Cn (by kernel_rfl) b o v w
@[simp] theorem XE (b o : Nat) (v : Value) (w : World) : st P 36 (pt b o) v w = GK P 36 2 b o v w (hp w b) := Cn (by kernel_rfl) b o v w
@[simp] theorem XF (b o : Nat) (v : Value) (w : World) : st P 38 (pt b o) v w = GK P 38 5 b o v w (hp w b) := Cn (by kernel_rfl) b o v w
@[simp] theorem XZ (b o : Nat) (v : Value) (w : World) : st P 4 (pt b o) v w = GK P 4 1 b o v w (hp w b) := Cn (by kernel_rfl) b o v w
@[simp] theorem XG (b o : Nat) (v : Value) (w : World) : st P 42 (pt b o) v w = GK P 42 1 b o v w (hp w b) := Cn (by kernel_rfl) b o v w
@[simp] theorem XH (b o : Nat) (v : Value) (w : World) : st P 44 (pt b o) v w = GK P 44 1 b o v w (hp w b) := Cn (by kernel_rfl) b o v w
@[simp] theorem XI (b o : Nat) (v : Value) (w : World) : st P 49 (pt b o) v w = GK P 49 6 b o v w (hp w b) := Cn (by kernel_rfl) b o v w
@[simp] theorem XJ (b o : Nat) (v : Value) (w : World) : st P 73 (pt b o) v w = GK P 73 1 b o v w (hp w b) := Cn (by kernel_rfl) b o v w
@[simp] theorem XK (b o : Nat) (v : Value) (w : World) : st P 74 (pt b o) v w = GK P 74 1 b o v w (hp w b) := Cn (by kernel_rfl) b o v w
@[simp] theorem XL (b o : Nat) (v : Value) (w : World) : st P 75 (pt b o) v w = GK P 75 1 b o v w (hp w b) := Cn (by kernel_rfl) b o v w
@[simp] theorem XM (b o : Nat) (v : Value) (w : World) : st P 77 (pt b o) v w = GK P 77 4 b o v w (hp w b) := Cn (by kernel_rfl) b o v w
@[simp] theorem XN (b o : Nat) (v : Value) (w : World) : st P 79 (pt b o) v w = GK P 79 1 b o v w (hp w b) := Cn (by kernel_rfl) b o v w
@[simp] theorem XO (b o : Nat) (v : Value) (w : World) : st P 81 (pt b o) v w = GK P 81 1 b o v w (hp w b) := Cn (by kernel_rfl) b o v w
@[simp] theorem XP (b o : Nat) (v : Value) (w : World) : st P 82 (pt b o) v w = GK P 82 1 b o v w (hp w b) := Cn (by kernel_rfl) b o v w
@[simp] theorem XQ (b o : Nat) (v : Value) (w : World) : st P 84 (pt b o) v w = GK P 84 6 b o v w (hp w b) := Cn (by kernel_rfl) b o v w
@[simp] theorem XR (b o : Nat) (v : Value) (w : World) : st P 86 (pt b o) v w = GK P 86 2 b o v w (hp w b) := Cn (by kernel_rfl) b o v w
theorem OW : Cg P 38 = some [(.int .i64 0), (.int .i64 0), (.int .i64 0), (.int .i64 0), (.int .i64 0)] := by kernel_rfl
theorem Ga : Cg P 36 = some [(.int .i64 0), (.int .i64 0)] := by kernel_rfl
theorem Fx : Cg P 49 = some [(.int .i64 0), (.int .i64 0), (.int .i64 0), (Go.Value.slice none 0 0), (Go.Value.string { data := #[] }), (.bool false)] := by kernel_rfl
theorem RH : Cg P 32 = some [(Go.Value.slice none 0 0)] := by kernel_rfl
theorem Tz : Cg P 84 = some [(.int .i64 0), (.int .i64 0), (Go.Value.slice none 0 0), (Go.Value.slice none 0 0), (Go.Value.slice none 0 0), (.bool false)] := by kernel_rfl
theorem RI : Cg P 129 = some [(.int .i64 0), (Go.Value.slice none 0 0), (.int .i64 0), (.int .i64 0), (.int .i64 0)] := by kernel_rfl
theorem Og : Cg P 131 = some [(.int .i64 0), (.int .i64 0), (.int .i64 0), (.int .i64 0), (.int .i64 0), (.int .i64 0), (Go.Value.slice none 0 0), (Go.Value.string { data := #[] }), (.bool false)] := by kernel_rfl
theorem OX : Cg P 86 = some [(Go.Value.slice none 0 0), (Go.Value.slice none 0 0)] := by kernel_rfl
theorem RJ : Cg P 42 = some [(Go.Value.slice none 0 0)] := by kernel_rfl
theorem RK : Cg P 137 = some [(.int .i64 0), (.int .i64 0), (.int .i64 0), (.int .i64 0), (Go.Value.string { data := #[] }), (.bool false)] := by kernel_rfl
@[simp] theorem SZ (n1 : Int) (n2 : Int) (a3 : Option Addr) (l3 c3 : Nat) (w : World) : bd P 119 #[(0, (.int .i64 n1)), (1, (.int .i64 n2)), (2, (.agg #[.slice a3 l3 c3]))] w = some (.agg #[.int .i64 n1, .int .i64 n2, .slice a3 l3 c3], w) := Ch (by kernel_rfl)
@[simp] theorem TY (n1 : Int) (a2 : Option Addr) (l2 c2 : Nat) (w : World) : bd P 129 #[(0, (.int .i64 n1)), (1, (.agg #[.slice a2 l2 c2]))] w = some (.agg #[.int .i64 n1, .slice a2 l2 c2, (.int .i64 0), (.int .i64 0), (.int .i64 0)], w) := Ch (by kernel_rfl)
@[simp] theorem RL (n1 : Int) (n2 : Int) (n3 : Int) (n4 : Int) (n5 : Int) (n6 : Int) (a7 : Option Addr) (l7 c7 : Nat) (s8 : ByteArray) (b9 : Bool) (w : World) : bd P 131 #[(0, (.int .i64 n1)), (1, (.int .i64 n2)), (2, (.int .i64 n3)), (3, (.agg #[.int .i64 n4, .int .i64 n5, .int .i64 n6, .slice a7 l7 c7, .string s8, .bool b9]))] w = some (.agg #[.int .i64 n1, .int .i64 n2, .int .i64 n3, .int .i64 n4, .int .i64 n5, .int .i64 n6, .slice a7 l7 c7, .string s8, .bool b9], w) := Ch (by kernel_rfl)
@[simp] theorem TZ (n1 : Int) (n2 : Int) (w : World) : bd P 137 #[(0, (.int .i64 n1)), (1, (.int .i64 n2))] w = some (.agg #[.int .i64 n1, .int .i64 n2, (.int .i64 0), (.int .i64 0), (Go.Value.string { data := #[] }), (.bool false)], w) := Ch (by kernel_rfl)
@[simp] theorem S7 (n1 : Int) (n2 : Int) (n3 : Int) (w : World) : bd P 137 #[(0, (.int .i64 n1)), (1, (.int .i64 n2)), (2, (.int .i64 n3))] w = some (.agg #[.int .i64 n1, .int .i64 n2, .int .i64 n3, (.int .i64 0), (Go.Value.string { data := #[] }), (.bool false)], w) := Ch (by kernel_rfl)
@[simp] theorem RM (n1 : Int) (n2 : Int) (n3 : Int) (n4 : Int) (w : World) : bd P 137 #[(0, (.int .i64 n1)), (1, (.int .i64 n2)), (2, (.int .i64 n3)), (3, (.int .i64 n4))] w = some (.agg #[.int .i64 n1, .int .i64 n2, .int .i64 n3, .int .i64 n4, (Go.Value.string { data := #[] }), (.bool false)], w) := Ch (by kernel_rfl)
@[simp] theorem RN (n1 : Int) (n2 : Int) (n3 : Int) (s4 : ByteArray) (w : World) : bd P 137 #[(0, (.int .i64 n1)), (1, (.int .i64 n2)), (3, (.int .i64 n3)), (4, (.string s4))] w = some (.agg #[.int .i64 n1, .int .i64 n2, (.int .i64 0), .int .i64 n3, .string s4, (.bool false)], w) := Ch (by kernel_rfl)
@[simp] theorem RO (n1 : Int) (n2 : Int) (n3 : Int) (b4 : Bool) (w : World) : bd P 137 #[(0, (.int .i64 n1)), (1, (.int .i64 n2)), (3, (.int .i64 n3)), (5, (.bool b4))] w = some (.agg #[.int .i64 n1, .int .i64 n2, (.int .i64 0), .int .i64 n3, (Go.Value.string { data := #[] }), .bool b4], w) := Ch (by kernel_rfl)
@[simp] theorem WQ  (w : World) : bd P 32 #[] w = some (.agg #[(Go.Value.slice none 0 0)], w) := Ch (by kernel_rfl)
@[simp] theorem Wc (a1 : Option Addr) (l1 c1 : Nat) (w : World) : bd P 32 #[(0, (.slice a1 l1 c1))] w = some (.agg #[.slice a1 l1 c1], w) := Ch (by kernel_rfl)
@[simp] theorem WR  (w : World) : bd P 36 #[] w = some (.agg #[(.int .i64 0), (.int .i64 0)], w) := Ch (by kernel_rfl)
@[simp] theorem UF (n1 : Int) (n2 : Int) (w : World) : bd P 36 #[(0, (.int .i64 n1)), (1, (.int .i64 n2))] w = some (.agg #[.int .i64 n1, .int .i64 n2], w) := Ch (by kernel_rfl)
@[simp] theorem SD (n1 : Int) (n2 : Int) (n3 : Int) (n4 : Int) (n5 : Int) (w : World) : bd P 38 #[(0, (.int .i64 n1)), (1, (.int .i64 n2)), (2, (.int .i64 n3)), (3, (.agg #[.int .i64 n4, .int .i64 n5]))] w = some (.agg #[.int .i64 n1, .int .i64 n2, .int .i64 n3, .int .i64 n4, .int .i64 n5], w) := Ch (by kernel_rfl)
@[simp] theorem WS  (w : World) : bd P 44 #[] w = some (.agg #[(Go.Value.slice none 0 0)], w) := Ch (by kernel_rfl)
@[simp] theorem Wd (a1 : Option Addr) (l1 c1 : Nat) (w : World) : bd P 44 #[(0, (.slice a1 l1 c1))] w = some (.agg #[.slice a1 l1 c1], w) := Ch (by kernel_rfl)
@[simp] theorem Q5 (n1 : Int) (n2 : Int) (n3 : Int) (a4 : Option Addr) (l4 c4 : Nat) (s5 : ByteArray) (b6 : Bool) (w : World) : bd P 49 #[(0, (.int .i64 n1)), (1, (.agg #[.int .i64 n2, .int .i64 n3])), (2, (.agg #[.slice a4 l4 c4])), (3, (.string s5)), (4, (.bool b6))] w = some (.agg #[.int .i64 n1, .int .i64 n2, .int .i64 n3, .slice a4 l4 c4, .string s5, .bool b6], w) := Ch (by kernel_rfl)
@[simp] theorem We (m1 : Option Nat) (w : World) : bd P 69 #[(1, (.map m1))] w = some (.agg #[(Go.Value.slice none 0 0), (Go.Value.slice none 0 0), (Go.Value.slice none 0 0), (Go.Value.slice none 0 0), .map m1], w) := Ch (by kernel_rfl)
@[simp] theorem WT  (w : World) : bd P 77 #[] w = some (.agg #[(Go.Value.slice none 0 0), (Go.Value.slice none 0 0), (Go.Value.slice none 0 0), (Go.Value.slice none 0 0)], w) := Ch (by kernel_rfl)
@[simp] theorem Wf (a1 : Option Addr) (l1 c1 : Nat) (w : World) : bd P 77 #[(3, (.slice a1 l1 c1))] w = some (.agg #[(Go.Value.slice none 0 0), (Go.Value.slice none 0 0), (Go.Value.slice none 0 0), .slice a1 l1 c1], w) := Ch (by kernel_rfl)
@[simp] theorem WU  (w : World) : bd P 81 #[] w = some (.agg #[(Go.Value.slice none 0 0)], w) := Ch (by kernel_rfl)
@[simp] theorem Q6 (n1 : Int) (n2 : Int) (b3 : Bool) (a4 : Option Addr) (l4 c4 : Nat) (a5 : Option Addr) (l5 c5 : Nat) (w : World) : bd P 84 #[(0, (.int .i64 n1)), (1, (.int .i64 n2)), (5, (.bool b3)), (2, (.agg #[.slice a4 l4 c4])), (3, (.slice a5 l5 c5))] w = some (.agg #[.int .i64 n1, .int .i64 n2, .slice a4 l4 c4, .slice a5 l5 c5, (Go.Value.slice none 0 0), .bool b3], w) := Ch (by kernel_rfl)
@[simp] theorem TA (n1 : Int) (a2 : Option Addr) (l2 c2 : Nat) (a3 : Option Addr) (l3 c3 : Nat) (w : World) : bd P 84 #[(0, (.int .i64 n1)), (2, (.agg #[.slice a2 l2 c2])), (4, (.slice a3 l3 c3))] w = some (.agg #[.int .i64 n1, (.int .i64 0), .slice a2 l2 c2, (Go.Value.slice none 0 0), .slice a3 l3 c3, (.bool false)], w) := Ch (by kernel_rfl)
@[simp] theorem Wg (a1 : Option Addr) (l1 c1 : Nat) (w : World) : bd P 86 #[(0, (.agg #[.slice a1 l1 c1]))] w = some (.agg #[.slice a1 l1 c1, (Go.Value.slice none 0 0)], w) := Ch (by kernel_rfl)
@[simp] theorem Wh (a1 : Option Addr) (l1 c1 : Nat) (w : World) : bd P 93 #[(0, (.slice a1 l1 c1))] w = some (.agg #[.slice a1 l1 c1, (.int .i64 0)], w) := Ch (by kernel_rfl)
@[simp] theorem Wi (w : World) : bs P 23 0 #[] w = some (.slice (some ⟨w.heap.size, 0, none⟩) 0 0, w.alloc (.cells #[] 38)) := Gu (n := 5) (by kernel_rfl) (by kernel_rfl) w
@[simp] theorem UG (n1 : Int) (n2 : Int) (n3 : Int) (n4 : Int) (n5 : Int) (w : World) : bs P 23 1 #[(0, (.agg #[.int .i64 n1, .int .i64 n2, .int .i64 n3, .int .i64 n4, .int .i64 n5]))] w = some (.slice (some ⟨w.heap.size, 0, none⟩) 1 1, w.alloc (.cells #[.int .i64 n1, .int .i64 n2, .int .i64 n3, .int .i64 n4, .int .i64 n5] 38)) := EO (by kernel_rfl)
@[simp] theorem Wj (w : World) : bs P 30 0 #[] w = some (.slice (some ⟨w.heap.size, 0, none⟩) 0 0, w.alloc (.cells #[] 36)) := Gu (n := 2) (by kernel_rfl) (by kernel_rfl) w
@[simp] theorem UH (n1 : Int) (n2 : Int) (w : World) : bs P 30 1 #[(0, (.agg #[.int .i64 n1, .int .i64 n2]))] w = some (.slice (some ⟨w.heap.size, 0, none⟩) 1 1, w.alloc (.cells #[.int .i64 n1, .int .i64 n2] 36)) := EO (by kernel_rfl)
@[simp] theorem Wl (w : World) : bs P 42 0 #[] w = some (.slice (some ⟨w.heap.size, 0, none⟩) 0 0, w.alloc (.cells #[] 49)) := Gu (n := 6) (by kernel_rfl) (by kernel_rfl) w
@[simp] theorem UI (n1 : Int) (n2 : Int) (n3 : Int) (a4 : Option Addr) (l4 c4 : Nat) (s5 : ByteArray) (b6 : Bool) (w : World) : bs P 42 1 #[(0, (.agg #[.int .i64 n1, .int .i64 n2, .int .i64 n3, .slice a4 l4 c4, .string s5, .bool b6]))] w = some (.slice (some ⟨w.heap.size, 0, none⟩) 1 1, w.alloc (.cells #[.int .i64 n1, .int .i64 n2, .int .i64 n3, .slice a4 l4 c4, .string s5, .bool b6] 49)) := EO (by kernel_rfl)
@[simp] theorem Wm (w : World) : bs P 58 0 #[] w = some (.slice (some ⟨w.heap.size, 0, none⟩) 0 0, w.alloc (.cells #[] 32)) := Gu (n := 1) (by kernel_rfl) (by kernel_rfl) w
@[simp] theorem UJ (a1 : Option Addr) (l1 c1 : Nat) (w : World) : bs P 58 1 #[(0, (.agg #[.slice a1 l1 c1]))] w = some (.slice (some ⟨w.heap.size, 0, none⟩) 1 1, w.alloc (.cells #[.slice a1 l1 c1] 32)) := EO (by kernel_rfl)
@[simp] theorem TB (n1 : Int) (n2 : Int) (w : World) : bs P 64 2 #[(0, (.int .i64 n1)), (1, (.int .i64 n2))] w = some (.slice (some ⟨w.heap.size, 0, none⟩) 2 2, w.alloc (.cells #[.int .i64 n1, .int .i64 n2] 3)) := EO (by kernel_rfl)
@[simp] theorem Q7 (n1 : Int) (n2 : Int) (n3 : Int) (n4 : Int) (w : World) : bs P 64 4 #[(0, (.int .i64 n1)), (1, (.int .i64 n2)), (2, (.int .i64 n3)), (3, (.int .i64 n4))] w = some (.slice (some ⟨w.heap.size, 0, none⟩) 4 4, w.alloc (.cells #[.int .i64 n1, .int .i64 n2, .int .i64 n3, .int .i64 n4] 3)) := EO (by kernel_rfl)
@[simp] theorem Po (n1 : Int) (n2 : Int) (n3 : Int) (n4 : Int) (n5 : Int) (n6 : Int) (w : World) : bs P 64 6 #[(0, (.int .i64 n1)), (1, (.int .i64 n2)), (2, (.int .i64 n3)), (3, (.int .i64 n4)), (4, (.int .i64 n5)), (5, (.int .i64 n6))] w = some (.slice (some ⟨w.heap.size, 0, none⟩) 6 6, w.alloc (.cells #[.int .i64 n1, .int .i64 n2, .int .i64 n3, .int .i64 n4, .int .i64 n5, .int .i64 n6] 3)) := EO (by kernel_rfl)
@[simp] theorem Ow (n1 : Int) (n2 : Int) (n3 : Int) (n4 : Int) (n5 : Int) (n6 : Int) (n7 : Int) (w : World) : bs P 64 7 #[(0, (.int .i64 n1)), (1, (.int .i64 n2)), (2, (.int .i64 n3)), (3, (.int .i64 n4)), (4, (.int .i64 n5)), (5, (.int .i64 n6)), (6, (.int .i64 n7))] w = some (.slice (some ⟨w.heap.size, 0, none⟩) 7 7, w.alloc (.cells #[.int .i64 n1, .int .i64 n2, .int .i64 n3, .int .i64 n4, .int .i64 n5, .int .i64 n6, .int .i64 n7] 3)) := EO (by kernel_rfl)
@[simp] theorem UK (n1 : Int) (n2 : Int) (a3 : Option Addr) (l3 c3 : Nat) (a4 : Option Addr) (l4 c4 : Nat) (a5 : Option Addr) (l5 c5 : Nat) (b6 : Bool) (w : World) : bs P 73 1 #[(0, (.agg #[.int .i64 n1, .int .i64 n2, .slice a3 l3 c3, .slice a4 l4 c4, .slice a5 l5 c5, .bool b6]))] w = some (.slice (some ⟨w.heap.size, 0, none⟩) 1 1, w.alloc (.cells #[.int .i64 n1, .int .i64 n2, .slice a3 l3 c3, .slice a4 l4 c4, .slice a5 l5 c5, .bool b6] 84)) := EO (by kernel_rfl)
@[simp] theorem UL (n1 : Int) (a2 : Option Addr) (l2 c2 : Nat) (n3 : Int) (n4 : Int) (n5 : Int) (w : World) : bs P 74 1 #[(0, (.agg #[.int .i64 n1, .slice a2 l2 c2, .int .i64 n3, .int .i64 n4, .int .i64 n5]))] w = some (.slice (some ⟨w.heap.size, 0, none⟩) 1 1, w.alloc (.cells #[.int .i64 n1, .slice a2 l2 c2, .int .i64 n3, .int .i64 n4, .int .i64 n5] 129)) := EO (by kernel_rfl)
@[simp] theorem Wn (w : World) : bs P 75 0 #[] w = some (.slice (some ⟨w.heap.size, 0, none⟩) 0 0, w.alloc (.cells #[] 131)) := Gu (n := 9) (by kernel_rfl) (by kernel_rfl) w
@[simp] theorem UM (n1 : Int) (n2 : Int) (n3 : Int) (n4 : Int) (n5 : Int) (n6 : Int) (a7 : Option Addr) (l7 c7 : Nat) (s8 : ByteArray) (b9 : Bool) (w : World) : bs P 75 1 #[(0, (.agg #[.int .i64 n1, .int .i64 n2, .int .i64 n3, .int .i64 n4, .int .i64 n5, .int .i64 n6, .slice a7 l7 c7, .string s8, .bool b9]))] w = some (.slice (some ⟨w.heap.size, 0, none⟩) 1 1, w.alloc (.cells #[.int .i64 n1, .int .i64 n2, .int .i64 n3, .int .i64 n4, .int .i64 n5, .int .i64 n6, .slice a7 l7 c7, .string s8, .bool b9] 131)) := EO (by kernel_rfl)
@[simp] theorem Wo (w : World) : bs P 79 0 #[] w = some (.slice (some ⟨w.heap.size, 0, none⟩) 0 0, w.alloc (.cells #[] 86)) := Gu (n := 2) (by kernel_rfl) (by kernel_rfl) w
@[simp] theorem UN (a1 : Option Addr) (l1 c1 : Nat) (a2 : Option Addr) (l2 c2 : Nat) (w : World) : bs P 79 1 #[(0, (.agg #[.slice a1 l1 c1, .slice a2 l2 c2]))] w = some (.slice (some ⟨w.heap.size, 0, none⟩) 1 1, w.alloc (.cells #[.slice a1 l1 c1, .slice a2 l2 c2] 86)) := EO (by kernel_rfl)
@[simp] theorem UO (a1 : Option Addr) (l1 c1 : Nat) (w : World) : bs P 82 1 #[(0, (.slice a1 l1 c1))] w = some (.slice (some ⟨w.heap.size, 0, none⟩) 1 1, w.alloc (.cells #[.slice a1 l1 c1] 42)) := EO (by kernel_rfl)
@[simp] theorem Vg (w : World) : bs P 109 0 #[] w = some (.slice (some ⟨w.heap.size, 0, none⟩) 0 0, w.alloc (.cells #[] 137)) := Gu (n := 6) (by kernel_rfl) (by kernel_rfl) w
@[simp] theorem T0 (n1 : Int) (n2 : Int) (n3 : Int) (n4 : Int) (s5 : ByteArray) (b6 : Bool) (w : World) : bs P 109 1 #[(0, (.agg #[.int .i64 n1, .int .i64 n2, .int .i64 n3, .int .i64 n4, .string s5, .bool b6]))] w = some (.slice (some ⟨w.heap.size, 0, none⟩) 1 1, w.alloc (.cells #[.int .i64 n1, .int .i64 n2, .int .i64 n3, .int .i64 n4, .string s5, .bool b6] 137)) := EO (by kernel_rfl)
@[simp] theorem MU (s1 : ByteArray) (s2 : ByteArray) (s3 : ByteArray) (s4 : ByteArray) (s5 : ByteArray) (s6 : ByteArray) (s7 : ByteArray) (s8 : ByteArray) (w : World) : bs P 140 8 #[(0, (.string s1)), (1, (.string s2)), (2, (.string s3)), (3, (.string s4)), (4, (.string s5)), (5, (.string s6)), (6, (.string s7)), (7, (.string s8))] w = some (.slice (some ⟨w.heap.size, 0, none⟩) 8 8, w.alloc (.cells #[.string s1, .string s2, .string s3, .string s4, .string s5, .string s6, .string s7, .string s8] 9)) := EO (by kernel_rfl)
@[simp] theorem WV (n : Int) (w : World) : cv P 5 3 (.int .u8 n) w = some (.int .i64 (IntKind.wrap .i64 n), w) := Uq (by kernel_rfl) (by kernel_rfl) _ n w
attribute [simp ↓] WW Vk Vl R8 Uj Uk Ul Um Vm Un Uo
attribute [simp] Vi T8 T9 Ua Ub Uc Ud Ue Uf Ug PH PI Uh Ui RV World.size_alloc size_setRow JM QU PK Ol O1 MY QV Lv PL Vn Ad BA RT RU Ab Aa Oi Oj PJ Bh Tb RX RY QT B7 Value.oneCell'
end Go.Proofs.YtjhhommnkaemlaaGreat.X
