/- A part of the proof, without conditions. -/
import Derived.Test.YtjhhommnkaemlaaGreatProg
import Derived.Test.YtjhhommnkaemlaaGreatEvM
set_option linter.unusedVariables false
set_option linter.unusedSimpArgs false
set_option linter.deprecated false
namespace Go.Proofs.YtjhhommnkaemlaaGreat.X
open Go Go.Ev
noncomputable def P : Program := Tryz.prog
theorem plain : Plain P := by
 have h : (P.funcs.toList.all fun fn => fn.body.isNone || fn.name != "runtime.NumGoroutine") = true := by kernel_rfl
 intro fn hf hb
 rw [List.all_eq_true] at h
 have := h fn (Array.mem_toList_iff.2 hf)
 simp only [Option.isNone_iff_eq_none, Bool.or_eq_true, bne_iff_ne, ne_eq] at this
 rcases this with h | h
 ·rw [h] at hb; simp at hb
 ·exact h
theorem mixed : P.follows .mixedOrders = true := by kernel_rfl
@[simp] theorem WG (w : World) : al P 119 w = some (pt w.heap.size 0, w.alloc (.cells #[(.int .i64 0), (.int .i64 0), (Go.Value.slice none 0 0)] 119)) := Gb (z := [(.int .i64 0), (.int .i64 0), (Go.Value.slice none 0 0)]) (by kernel_rfl) w
@[simp] theorem WH (w : World) : al P 129 w = some (pt w.heap.size 0, w.alloc (.cells #[(.int .i64 0), (Go.Value.slice none 0 0), (.int .i64 0), (.int .i64 0), (.int .i64 0)] 129)) := Gb (z := [(.int .i64 0), (Go.Value.slice none 0 0), (.int .i64 0), (.int .i64 0), (.int .i64 0)]) (by kernel_rfl) w
@[simp] theorem WI (w : World) : al P 131 w = some (pt w.heap.size 0, w.alloc (.cells #[(.int .i64 0), (.int .i64 0), (.int .i64 0), (.int .i64 0), (.int .i64 0), (.int .i64 0), (Go.Value.slice none 0 0), (Go.Value.string { data := #[] }), (.bool false)] 131)) := Gb (z := [(.int .i64 0), (.int .i64 0), (.int .i64 0), (.int .i64 0), (.int .i64 0), (.int .i64 0), (Go.Value.slice none 0 0), (Go.Value.string { data := #[] }), (.bool false)]) (by kernel_rfl) w
@[simp] theorem WJ (w : World) : al P 137 w = some (pt w.heap.size 0, w.alloc (.cells #[(.int .i64 0), (.int .i64 0), (.int .i64 0), (.int .i64 0), (Go.Value.string { data := #[] }), (.bool false)] 137)) := Gb (z := [(.int .i64 0), (.int .i64 0), (.int .i64 0), (.int .i64 0), (Go.Value.string { data := #[] }), (.bool false)]) (by kernel_rfl) w
@[simp] theorem Xi (w : World) : al P 32 w = some (pt w.heap.size 0, w.alloc (.cells #[(Go.Value.slice none 0 0)] 32)) := Gb (z := [(Go.Value.slice none 0 0)]) (by kernel_rfl) w
@[simp] theorem Xj (w : World) : al P 36 w = some (pt w.heap.size 0, w.alloc (.cells #[(.int .i64 0), (.int .i64 0)] 36)) := Gb (z := [(.int .i64 0), (.int .i64 0)]) (by kernel_rfl) w
@[simp] theorem Xk (w : World) : al P 38 w = some (pt w.heap.size 0, w.alloc (.cells #[(.int .i64 0), (.int .i64 0), (.int .i64 0), (.int .i64 0), (.int .i64 0)] 38)) := Gb (z := [(.int .i64 0), (.int .i64 0), (.int .i64 0), (.int .i64 0), (.int .i64 0)]) (by kernel_rfl) w
@[simp] theorem Xl (w : World) : al P 44 w = some (pt w.heap.size 0, w.alloc (.cells #[(Go.Value.slice none 0 0)] 44)) := Gb (z := [(Go.Value.slice none 0 0)]) (by kernel_rfl) w
@[simp] theorem Xn (w : World) : al P 49 w = some (pt w.heap.size 0, w.alloc (.cells #[(.int .i64 0), (.int .i64 0), (.int .i64 0), (Go.Value.slice none 0 0), (Go.Value.string { data := #[] }), (.bool false)] 49)) := Gb (z := [(.int .i64 0), (.int .i64 0), (.int .i64 0), (Go.Value.slice none 0 0), (Go.Value.string { data := #[] }), (.bool false)]) (by kernel_rfl) w
@[simp] theorem Xo (w : World) : al P 77 w = some (pt w.heap.size 0, w.alloc (.cells #[(Go.Value.slice none 0 0), (Go.Value.slice none 0 0), (Go.Value.slice none 0 0), (Go.Value.slice none 0 0)] 77)) := Gb (z := [(Go.Value.slice none 0 0), (Go.Value.slice none 0 0), (Go.Value.slice none 0 0), (Go.Value.slice none 0 0)]) (by kernel_rfl) w
@[simp] theorem Xp (w : World) : al P 81 w = some (pt w.heap.size 0, w.alloc (.cells #[(Go.Value.slice none 0 0)] 81)) := Gb (z := [(Go.Value.slice none 0 0)]) (by kernel_rfl) w
@[simp] theorem Xq (w : World) : al P 84 w = some (pt w.heap.size 0, w.alloc (.cells #[(.int .i64 0), (.int .i64 0), (Go.Value.slice none 0 0), (Go.Value.slice none 0 0), (Go.Value.slice none 0 0), (.bool false)] 84)) := Gb (z := [(.int .i64 0), (.int .i64 0), (Go.Value.slice none 0 0), (Go.Value.slice none 0 0), (Go.Value.slice none 0 0), (.bool false)]) (by kernel_rfl) w
@[simp] theorem Xr (w : World) : al P 86 w = some (pt w.heap.size 0, w.alloc (.cells #[(Go.Value.slice none 0 0), (Go.Value.slice none 0 0)] 86)) := Gb (z := [(Go.Value.slice none 0 0), (Go.Value.slice none 0 0)]) (by kernel_rfl) w
@[simp] theorem VO (a : Option Addr) (n c : Nat) (w : World) : Ax P #[109] 3 #[.slice a n c] w = some (i64 n, w) := BG (e := 137) (s := (6, 56)) (by kernel_rfl) a n c w
@[simp] theorem VP (a : Option Addr) (n c : Nat) (w : World) : Ax P #[140] 3 #[.slice a n c] w = some (i64 n, w) := BG (e := 9) (s := (1, 16)) (by kernel_rfl) a n c w
@[simp] theorem WK (a : Option Addr) (n c : Nat) (w : World) : Ax P #[22] 3 #[.slice a n c] w = some (i64 n, w) := BG (e := 5) (s := (1, 1)) (by kernel_rfl) a n c w
@[simp] theorem WL (a : Option Addr) (n c : Nat) (w : World) : Ax P #[23] 3 #[.slice a n c] w = some (i64 n, w) := BG (e := 38) (s := (5, 40)) (by kernel_rfl) a n c w
@[simp] theorem WM (a : Option Addr) (n c : Nat) (w : World) : Ax P #[30] 3 #[.slice a n c] w = some (i64 n, w) := BG (e := 36) (s := (2, 16)) (by kernel_rfl) a n c w
@[simp] theorem WN (a : Option Addr) (n c : Nat) (w : World) : Ax P #[42] 3 #[.slice a n c] w = some (i64 n, w) := BG (e := 49) (s := (6, 72)) (by kernel_rfl) a n c w
@[simp] theorem WO (a : Option Addr) (n c : Nat) (w : World) : Ax P #[64] 3 #[.slice a n c] w = some (i64 n, w) := BG (e := 3) (s := (1, 8)) (by kernel_rfl) a n c w
@[simp] theorem WQ (a : Option Addr) (n c : Nat) (w : World) : Ax P #[73] 3 #[.slice a n c] w = some (i64 n, w) := BG (e := 84) (s := (6, 96)) (by kernel_rfl) a n c w
@[simp] theorem WR (a : Option Addr) (n c : Nat) (w : World) : Ax P #[74] 3 #[.slice a n c] w = some (i64 n, w) := BG (e := 129) (s := (5, 56)) (by kernel_rfl) a n c w
@[simp] theorem WS (a : Option Addr) (n c : Nat) (w : World) : Ax P #[75] 3 #[.slice a n c] w = some (i64 n, w) := BG (e := 131) (s := (9, 96)) (by kernel_rfl) a n c w
@[simp] theorem WT (a : Option Addr) (n c : Nat) (w : World) : Ax P #[79] 3 #[.slice a n c] w = some (i64 n, w) := BG (e := 86) (s := (2, 48)) (by kernel_rfl) a n c w
@[simp] theorem WU (a : Option Addr) (n c : Nat) (w : World) : Ax P #[82] 3 #[.slice a n c] w = some (i64 n, w) := BG (e := 42) (s := (1, 24)) (by kernel_rfl) a n c w
@[simp] theorem Xs (s : ByteArray) (w : World) : Ax P #[9] 3 #[.string s] w = some (i64 s.size, w) := Tk (by kernel_rfl) s w
theorem TF : (P.fieldsOf 36).toList = [{ name := "Time", type := 3, offset := 0, embedded := false, tag := "", pkgPath := "", byteOffset := 0 }, { name := "Place", type := 3, offset := 1, embedded := false, tag := "", pkgPath := "", byteOffset := 8 }] := by kernel_rfl
@[simp] theorem UN (x y : Operand) (a0 a1 b0 b1 : Int) (w : World) : bo P .eql 36 x y (.agg #[i64 a0, i64 a1]) (.agg #[i64 b0, i64 b1]) w = some (.bool (((a0 == b0) && (a1 == b1))), w) := by
 have hg := run_eqGuard_agg (P := P) w .eql 36 x y #[i64 a0, i64 a1] #[i64 b0, i64 b1] (by kernel_rfl)
 have hs := run_equalIn_struct (P := P) w 9999 36 #[i64 a0, i64 a1] #[i64 b0, i64 b1] (by kernel_rfl) (by kernel_rfl)
 simp only [bo, Sem.run_bind, hg, Result.andThen_ok, run_eql_struct, hs, TF]
 exact Ny (by kernel_rfl) (by kernel_rfl) ⟨by simp, by simp, rfl, rfl⟩ _ _ _ _ w
@[simp] theorem UO (x y : Operand) (a0 a1 b0 b1 : Int) (w : World) : bo P .neq 36 x y (.agg #[i64 a0, i64 a1]) (.agg #[i64 b0, i64 b1]) w = some (.bool (!((a0 == b0) && (a1 == b1))), w) := by
 have hg := run_eqGuard_agg (P := P) w .neq 36 x y #[i64 a0, i64 a1] #[i64 b0, i64 b1] (by kernel_rfl)
 have hs := run_equalIn_struct (P := P) w 9999 36 #[i64 a0, i64 a1] #[i64 b0, i64 b1] (by kernel_rfl) (by kernel_rfl)
 simp only [bo, Sem.run_bind, hg, Result.andThen_ok, run_neq_struct, hs, TF]
 exact QU (by kernel_rfl) (by kernel_rfl) ⟨by simp, by simp, rfl, rfl⟩ _ _ _ _ w
@[simp] theorem U8 (b o : Nat) (w : World) : fa P 119 (pt b o) 0 w = some (pt b (o + 0), w) := A8 (n := 0) (g := some false) (by kernel_rfl) b o w
@[simp] theorem U9 (b o : Nat) (w : World) : fa P 119 (pt b o) 1 w = some (pt b (o + 1), w) := A8 (n := 0) (g := some false) (by kernel_rfl) b o w
@[simp] theorem Va (b o : Nat) (w : World) : fa P 119 (pt b o) 2 w = some (pt b (o + 2), w) := A8 (n := 0) (g := some true) (by kernel_rfl) b o w
@[simp] theorem Vb (b o : Nat) (w : World) : fa P 129 (pt b o) 0 w = some (pt b (o + 0), w) := A8 (n := 0) (g := some false) (by kernel_rfl) b o w
@[simp] theorem Vc (b o : Nat) (w : World) : fa P 129 (pt b o) 1 w = some (pt b (o + 1), w) := A8 (n := 0) (g := some true) (by kernel_rfl) b o w
@[simp] theorem Vd (b o : Nat) (w : World) : fa P 129 (pt b o) 2 w = some (pt b (o + 2), w) := A8 (n := 1) (g := some true) (by kernel_rfl) b o w
@[simp] theorem Ve (b o : Nat) (w : World) : fa P 129 (pt b o) 3 w = some (pt b (o + 4), w) := A8 (n := 0) (g := some false) (by kernel_rfl) b o w
@[simp] theorem Vf (b o : Nat) (w : World) : fa P 131 (pt b o) 0 w = some (pt b (o + 0), w) := A8 (n := 0) (g := some false) (by kernel_rfl) b o w
@[simp] theorem Vg (b o : Nat) (w : World) : fa P 131 (pt b o) 1 w = some (pt b (o + 1), w) := A8 (n := 0) (g := some false) (by kernel_rfl) b o w
@[simp] theorem Vh (b o : Nat) (w : World) : fa P 131 (pt b o) 2 w = some (pt b (o + 2), w) := A8 (n := 0) (g := some false) (by kernel_rfl) b o w
@[simp] theorem Vi (b o : Nat) (w : World) : fa P 131 (pt b o) 3 w = some (pt b (o + 3), w) := A8 (n := 5) (g := some true) (by kernel_rfl) b o w
@[simp] theorem Vj (b o : Nat) (w : World) : fa P 137 (pt b o) 0 w = some (pt b (o + 0), w) := A8 (n := 0) (g := some false) (by kernel_rfl) b o w
@[simp] theorem Vk (b o : Nat) (w : World) : fa P 137 (pt b o) 1 w = some (pt b (o + 1), w) := A8 (n := 0) (g := some false) (by kernel_rfl) b o w
@[simp] theorem Vl (b o : Nat) (w : World) : fa P 137 (pt b o) 2 w = some (pt b (o + 2), w) := A8 (n := 0) (g := some false) (by kernel_rfl) b o w
@[simp] theorem Vm (b o : Nat) (w : World) : fa P 137 (pt b o) 3 w = some (pt b (o + 3), w) := A8 (n := 0) (g := some false) (by kernel_rfl) b o w
@[simp] theorem Vn (b o : Nat) (w : World) : fa P 137 (pt b o) 4 w = some (pt b (o + 4), w) := A8 (n := 0) (g := some false) (by kernel_rfl) b o w
@[simp] theorem Vo (b o : Nat) (w : World) : fa P 137 (pt b o) 5 w = some (pt b (o + 5), w) := A8 (n := 0) (g := some false) (by kernel_rfl) b o w
@[simp] theorem VQ (b o : Nat) (w : World) : fa P 32 (pt b o) 0 w = some (pt b (o + 0), w) := A8 (n := 0) (g := some false) (by kernel_rfl) b o w
@[simp] theorem VR (b o : Nat) (w : World) : fa P 36 (pt b o) 0 w = some (pt b (o + 0), w) := A8 (n := 0) (g := some false) (by kernel_rfl) b o w
@[simp] theorem VS (b o : Nat) (w : World) : fa P 36 (pt b o) 1 w = some (pt b (o + 1), w) := A8 (n := 0) (g := some false) (by kernel_rfl) b o w
@[simp] theorem VT (b o : Nat) (w : World) : fa P 38 (pt b o) 0 w = some (pt b (o + 0), w) := A8 (n := 0) (g := some false) (by kernel_rfl) b o w
@[simp] theorem VU (b o : Nat) (w : World) : fa P 38 (pt b o) 1 w = some (pt b (o + 1), w) := A8 (n := 0) (g := some false) (by kernel_rfl) b o w
@[simp] theorem VV (b o : Nat) (w : World) : fa P 38 (pt b o) 2 w = some (pt b (o + 2), w) := A8 (n := 0) (g := some false) (by kernel_rfl) b o w
@[simp] theorem VW (b o : Nat) (w : World) : fa P 38 (pt b o) 3 w = some (pt b (o + 3), w) := A8 (n := 1) (g := some true) (by kernel_rfl) b o w
@[simp] theorem VX (b o : Nat) (w : World) : fa P 44 (pt b o) 0 w = some (pt b (o + 0), w) := A8 (n := 0) (g := some false) (by kernel_rfl) b o w
@[simp] theorem VY (b o : Nat) (w : World) : fa P 49 (pt b o) 0 w = some (pt b (o + 0), w) := A8 (n := 0) (g := some false) (by kernel_rfl) b o w
@[simp] theorem VZ (b o : Nat) (w : World) : fa P 49 (pt b o) 1 w = some (pt b (o + 1), w) := A8 (n := 1) (g := some true) (by kernel_rfl) b o w
@[simp] theorem V0 (b o : Nat) (w : World) : fa P 49 (pt b o) 2 w = some (pt b (o + 3), w) := A8 (n := 0) (g := some true) (by kernel_rfl) b o w
@[simp] theorem V6 (b o : Nat) (w : World) : fa P 69 (pt b o) 0 w = some (pt b (o + 0), w) := A8 (n := 3) (g := some true) (by kernel_rfl) b o w
@[simp] theorem V7 (b o : Nat) (w : World) : fa P 69 (pt b o) 1 w = some (pt b (o + 4), w) := A8 (n := 0) (g := some false) (by kernel_rfl) b o w
@[simp] theorem V8 (b o : Nat) (w : World) : fa P 77 (pt b o) 0 w = some (pt b (o + 0), w) := A8 (n := 0) (g := some false) (by kernel_rfl) b o w
@[simp] theorem V9 (b o : Nat) (w : World) : fa P 77 (pt b o) 1 w = some (pt b (o + 1), w) := A8 (n := 0) (g := some false) (by kernel_rfl) b o w
@[simp] theorem Wb (b o : Nat) (w : World) : fa P 77 (pt b o) 2 w = some (pt b (o + 2), w) := A8 (n := 0) (g := some false) (by kernel_rfl) b o w
@[simp] theorem Wc (b o : Nat) (w : World) : fa P 77 (pt b o) 3 w = some (pt b (o + 3), w) := A8 (n := 0) (g := some false) (by kernel_rfl) b o w
@[simp] theorem Wd (b o : Nat) (w : World) : fa P 81 (pt b o) 0 w = some (pt b (o + 0), w) := A8 (n := 0) (g := some false) (by kernel_rfl) b o w
@[simp] theorem We (b o : Nat) (w : World) : fa P 84 (pt b o) 0 w = some (pt b (o + 0), w) := A8 (n := 0) (g := some false) (by kernel_rfl) b o w
@[simp] theorem Wf (b o : Nat) (w : World) : fa P 84 (pt b o) 1 w = some (pt b (o + 1), w) := A8 (n := 0) (g := some false) (by kernel_rfl) b o w
@[simp] theorem Wg (b o : Nat) (w : World) : fa P 84 (pt b o) 2 w = some (pt b (o + 2), w) := A8 (n := 0) (g := some true) (by kernel_rfl) b o w
@[simp] theorem Wh (b o : Nat) (w : World) : fa P 84 (pt b o) 3 w = some (pt b (o + 3), w) := A8 (n := 0) (g := some false) (by kernel_rfl) b o w
@[simp] theorem Wi (b o : Nat) (w : World) : fa P 84 (pt b o) 4 w = some (pt b (o + 4), w) := A8 (n := 0) (g := some false) (by kernel_rfl) b o w
@[simp] theorem Wj (b o : Nat) (w : World) : fa P 84 (pt b o) 5 w = some (pt b (o + 5), w) := A8 (n := 0) (g := some false) (by kernel_rfl) b o w
@[simp] theorem Wl (b o : Nat) (w : World) : fa P 86 (pt b o) 0 w = some (pt b (o + 0), w) := A8 (n := 0) (g := some true) (by kernel_rfl) b o w
@[simp] theorem Wm (b o : Nat) (w : World) : fa P 86 (pt b o) 1 w = some (pt b (o + 1), w) := A8 (n := 0) (g := some false) (by kernel_rfl) b o w
@[simp] theorem Wn (b o : Nat) (w : World) : fa P 93 (pt b o) 0 w = some (pt b (o + 0), w) := A8 (n := 0) (g := some false) (by kernel_rfl) b o w
@[simp] theorem Wo (b o : Nat) (w : World) : fa P 93 (pt b o) 1 w = some (pt b (o + 1), w) := A8 (n := 0) (g := some false) (by kernel_rfl) b o w
theorem PG : EZ P 109 = some (137, 6, 56) := by kernel_rfl
theorem Ua {b o n c : Nat} {i : Int} (h0 : 0 ≤ i) (h1 : i < n) (w : World) : ia P 109 (.slice (some ⟨b, o, none⟩) n c) (i64 i) w = some (pt b (o + i.toNat * 6), w) := Gc PG h0 h1 w
theorem Ub : EZ P 140 = some (9, 1, 16) := by kernel_rfl
theorem Uc {b o n c : Nat} {i : Int} (h0 : 0 ≤ i) (h1 : i < n) (w : World) : ia P 140 (.slice (some ⟨b, o, none⟩) n c) (i64 i) w = some (pt b (o + i.toNat * 1), w) := Gc Ub h0 h1 w
theorem TG : EZ P 22 = some (5, 1, 1) := by kernel_rfl
theorem TH {b o n c : Nat} {i : Int} (h0 : 0 ≤ i) (h1 : i < n) (w : World) : ia P 22 (.slice (some ⟨b, o, none⟩) n c) (i64 i) w = some (pt b (o + i.toNat * 1), w) := Gc TG h0 h1 w
theorem GZ : EZ P 23 = some (38, 5, 40) := by kernel_rfl
theorem CC {b o n c : Nat} {i : Int} (h0 : 0 ≤ i) (h1 : i < n) (w : World) : ia P 23 (.slice (some ⟨b, o, none⟩) n c) (i64 i) w = some (pt b (o + i.toNat * 5), w) := Gc GZ h0 h1 w
theorem CD : EZ P 30 = some (36, 2, 16) := by kernel_rfl
theorem Em {b o n c : Nat} {i : Int} (h0 : 0 ≤ i) (h1 : i < n) (w : World) : ia P 30 (.slice (some ⟨b, o, none⟩) n c) (i64 i) w = some (pt b (o + i.toNat * 2), w) := Gc CD h0 h1 w
theorem CP : EZ P 42 = some (49, 6, 72) := by kernel_rfl
theorem BP {b o n c : Nat} {i : Int} (h0 : 0 ≤ i) (h1 : i < n) (w : World) : ia P 42 (.slice (some ⟨b, o, none⟩) n c) (i64 i) w = some (pt b (o + i.toNat * 6), w) := Gc CP h0 h1 w
theorem Qk : EZ P 58 = some (32, 1, 24) := by kernel_rfl
theorem OZ {b o n c : Nat} {i : Int} (h0 : 0 ≤ i) (h1 : i < n) (w : World) : ia P 58 (.slice (some ⟨b, o, none⟩) n c) (i64 i) w = some (pt b (o + i.toNat * 1), w) := Gc Qk h0 h1 w
theorem Vp : EZ P 64 = some (3, 1, 8) := by kernel_rfl
theorem RL {b o n c : Nat} {i : Int} (h0 : 0 ≤ i) (h1 : i < n) (w : World) : ia P 64 (.slice (some ⟨b, o, none⟩) n c) (i64 i) w = some (pt b (o + i.toNat * 1), w) := Gc Vp h0 h1 w
theorem RM : EZ P 73 = some (84, 6, 96) := by kernel_rfl
theorem CQ {b o n c : Nat} {i : Int} (h0 : 0 ≤ i) (h1 : i < n) (w : World) : ia P 73 (.slice (some ⟨b, o, none⟩) n c) (i64 i) w = some (pt b (o + i.toNat * 6), w) := Gc RM h0 h1 w
theorem RN : EZ P 74 = some (129, 5, 56) := by kernel_rfl
theorem DD {b o n c : Nat} {i : Int} (h0 : 0 ≤ i) (h1 : i < n) (w : World) : ia P 74 (.slice (some ⟨b, o, none⟩) n c) (i64 i) w = some (pt b (o + i.toNat * 5), w) := Gc RN h0 h1 w
theorem Nv : EZ P 75 = some (131, 9, 96) := by kernel_rfl
theorem RO {b o n c : Nat} {i : Int} (h0 : 0 ≤ i) (h1 : i < n) (w : World) : ia P 75 (.slice (some ⟨b, o, none⟩) n c) (i64 i) w = some (pt b (o + i.toNat * 9), w) := Gc Nv h0 h1 w
theorem Ly : EZ P 79 = some (86, 2, 48) := by kernel_rfl
theorem Cx {b o n c : Nat} {i : Int} (h0 : 0 ≤ i) (h1 : i < n) (w : World) : ia P 79 (.slice (some ⟨b, o, none⟩) n c) (i64 i) w = some (pt b (o + i.toNat * 2), w) := Gc Ly h0 h1 w
theorem Ql : EZ P 82 = some (42, 1, 24) := by kernel_rfl
theorem HM {b o n c : Nat} {i : Int} (h0 : 0 ≤ i) (h1 : i < n) (w : World) : ia P 82 (.slice (some ⟨b, o, none⟩) n c) (i64 i) w = some (pt b (o + i.toNat * 1), w) := Gc Ql h0 h1 w
@[simp] theorem WV (b o : Nat) (w : World) : ld P 129 (pt b o) w = PH P 129 b o w (Ba w b o 5) := Ee (by kernel_rfl) (by kernel_rfl) b o w
@[simp] theorem WW (b o : Nat) (w : World) : ld P 131 (pt b o) w = PH P 131 b o w (Ba w b o 9) := Ee (by kernel_rfl) (by kernel_rfl) b o w
@[simp] theorem WX (b o : Nat) (w : World) : ld P 137 (pt b o) w = PH P 137 b o w (Ba w b o 6) := Ee (by kernel_rfl) (by kernel_rfl) b o w
@[simp] theorem Xt (b o : Nat) (w : World) : ld P 22 (pt b o) w = O1 P 22 b o w (Bn (hp w b) o) := Dl (by kernel_rfl) b o w
@[simp] theorem Xu (b o : Nat) (w : World) : ld P 23 (pt b o) w = O1 P 23 b o w (Bn (hp w b) o) := Dl (by kernel_rfl) b o w
@[simp] theorem Yf (b o : Nat) (w : World) : ld P 3 (pt b o) w = O1 P 3 b o w (Bn (hp w b) o) := Dl (by kernel_rfl) b o w
@[simp] theorem Xv (b o : Nat) (w : World) : ld P 30 (pt b o) w = O1 P 30 b o w (Bn (hp w b) o) := Dl (by kernel_rfl) b o w
@[simp] theorem Xw (b o : Nat) (w : World) : ld P 32 (pt b o) w = PH P 32 b o w (Ba w b o 1) := Ee (by kernel_rfl) (by kernel_rfl) b o w
@[simp] theorem Xy (b o : Nat) (w : World) : ld P 36 (pt b o) w = PH P 36 b o w (Ba w b o 2) := Ee (by kernel_rfl) (by kernel_rfl) b o w
@[simp] theorem Xz (b o : Nat) (w : World) : ld P 38 (pt b o) w = PH P 38 b o w (Ba w b o 5) := Ee (by kernel_rfl) (by kernel_rfl) b o w
@[simp] theorem Yh (b o : Nat) (w : World) : ld P 4 (pt b o) w = O1 P 4 b o w (Bn (hp w b) o) := Dl (by kernel_rfl) b o w
@[simp] theorem XA (b o : Nat) (w : World) : ld P 42 (pt b o) w = O1 P 42 b o w (Bn (hp w b) o) := Dl (by kernel_rfl) b o w
@[simp] theorem XB (b o : Nat) (w : World) : ld P 44 (pt b o) w = PH P 44 b o w (Ba w b o 1) := Ee (by kernel_rfl) (by kernel_rfl) b o w
@[simp] theorem XC (b o : Nat) (w : World) : ld P 49 (pt b o) w = PH P 49 b o w (Ba w b o 6) := Ee (by kernel_rfl) (by kernel_rfl) b o w
@[simp] theorem Yi (b o : Nat) (w : World) : ld P 5 (pt b o) w = O1 P 5 b o w (Bn (hp w b) o) := Dl (by kernel_rfl) b o w
@[simp] theorem XD (b o : Nat) (w : World) : ld P 67 (pt b o) w = O1 P 67 b o w (Bn (hp w b) o) := Dl (by kernel_rfl) b o w
@[simp] theorem XE (b o : Nat) (w : World) : ld P 73 (pt b o) w = O1 P 73 b o w (Bn (hp w b) o) := Dl (by kernel_rfl) b o w
@[simp] theorem XF (b o : Nat) (w : World) : ld P 74 (pt b o) w = O1 P 74 b o w (Bn (hp w b) o) := Dl (by kernel_rfl) b o w
@[simp] theorem XG (b o : Nat) (w : World) : ld P 75 (pt b o) w = O1 P 75 b o w (Bn (hp w b) o) := Dl (by kernel_rfl) b o w
@[simp] theorem XH (b o : Nat) (w : World) : ld P 77 (pt b o) w = PH P 77 b o w (Ba w b o 4) := Ee (by kernel_rfl) (by kernel_rfl) b o w
@[simp] theorem XI (b o : Nat) (w : World) : ld P 79 (pt b o) w = O1 P 79 b o w (Bn (hp w b) o) := Dl (by kernel_rfl) b o w
@[simp] theorem XJ (b o : Nat) (w : World) : ld P 81 (pt b o) w = PH P 81 b o w (Ba w b o 1) := Ee (by kernel_rfl) (by kernel_rfl) b o w
@[simp] theorem XK (b o : Nat) (w : World) : ld P 82 (pt b o) w = O1 P 82 b o w (Bn (hp w b) o) := Dl (by kernel_rfl) b o w
@[simp] theorem XL (b o : Nat) (w : World) : ld P 84 (pt b o) w = PH P 84 b o w (Ba w b o 6) := Ee (by kernel_rfl) (by kernel_rfl) b o w
@[simp] theorem XM (b o : Nat) (w : World) : ld P 86 (pt b o) w = PH P 86 b o w (Ba w b o 2) := Ee (by kernel_rfl) (by kernel_rfl) b o w
@[simp] theorem Yj (b o : Nat) (w : World) : ld P 9 (pt b o) w = O1 P 9 b o w (Bn (hp w b) o) := Dl (by kernel_rfl) b o w
@[simp] theorem WY (b o : Nat) (v : Value) (w : World) : st P 119 (pt b o) v w = GJ P 119 3 b o v w (hp w b) := Cn (by kernel_rfl) b o v w
@[simp] theorem WZ (b o : Nat) (v : Value) (w : World) : st P 129 (pt b o) v w = GJ P 129 5 b o v w (hp w b) := Cn (by kernel_rfl) b o v w
@[simp] theorem W0 (b o : Nat) (v : Value) (w : World) : st P 131 (pt b o) v w = GJ P 131 9 b o v w (hp w b) := Cn (by kernel_rfl) b o v w
@[simp] theorem W5 (b o : Nat) (v : Value) (w : World) : st P 137 (pt b o) v w = GJ P 137 6 b o v w (hp w b) := Cn (by kernel_rfl) b o v w
@[simp] theorem XN (b o : Nat) (v : Value) (w : World) : st P 23 (pt b o) v w = GJ P 23 1 b o v w (hp w b) := Cn (by kernel_rfl) b o v w
@[simp] theorem Yk (b o : Nat) (v : Value) (w : World) : st P 3 (pt b o) v w = GJ P 3 1 b o v w (hp w b) := Cn (by kernel_rfl) b o v w
@[simp] theorem XO (b o : Nat) (v : Value) (w : World) : st P 30 (pt b o) v w = GJ P 30 1 b o v w (hp w b) := Cn (by kernel_rfl) b o v w
@[simp] theorem XP (b o : Nat) (v : Value) (w : World) : st P 32 (pt b o) v w = GJ P 32 1 b o v w (hp w b) := Cn (by kernel_rfl) b o v w
@[simp] theorem XQ (b o : Nat) (v : Value) (w : World) : st P 36 (pt b o) v w = GJ P 36 2 b o v w (hp w b) := Cn (by kernel_rfl) b o v w
@[simp] theorem XR (b o : Nat) (v : Value) (w : World) : st P 38 (pt b o) v w = GJ P 38 5 b o v w (hp w b) := Cn (by kernel_rfl) b o v w
@[simp] theorem Yl (b o : Nat) (v : Value) (w : World) : st P 4 (pt b o) v w = GJ P 4 1 b o v w (hp w b) := Cn (by kernel_rfl) b o v w
@[simp] theorem XS (b o : Nat) (v : Value) (w : World) : st P 42 (pt b o) v w = GJ P 42 1 b o v w (hp w b) := Cn (by kernel_rfl) b o v w
@[simp] theorem XT (b o : Nat) (v : Value) (w : World) : st P 44 (pt b o) v w = GJ P 44 1 b o v w (hp w b) := Cn (by kernel_rfl) b o v w
@[simp] theorem XU (b o : Nat) (v : Value) (w : World) : st P 49 (pt b o) v w = GJ P 49 6 b o v w (hp w b) := Cn (by kernel_rfl) b o v w
@[simp] theorem XV (b o : Nat) (v : Value) (w : World) : st P 73 (pt b o) v w = GJ P 73 1 b o v w (hp w b) := Cn (by kernel_rfl) b o v w
@[simp] theorem XW (b o : Nat) (v : Value) (w : World) : st P 74 (pt b o) v w = GJ P 74 1 b o v w (hp w b) := Cn (by kernel_rfl) b o v w
@[simp] theorem XX (b o : Nat) (v : Value) (w : World) : st P 75 (pt b o) v w = GJ P 75 1 b o v w (hp w b) := Cn (by kernel_rfl) b o v w
@[simp] theorem XY (b o : Nat) (v : Value) (w : World) : st P 77 (pt b o) v w = GJ P 77 4 b o v w (hp w b) := Cn (by kernel_rfl) b o v w
@[simp] theorem XZ (b o : Nat) (v : Value) (w : World) : st P 79 (pt b o) v w = GJ P 79 1 b o v w (hp w b) := Cn (by kernel_rfl) b o v w
@[simp] theorem X0 (b o : Nat) (v : Value) (w : World) : st P 81 (pt b o) v w = GJ P 81 1 b o v w (hp w b) := Cn (by kernel_rfl) b o v w
@[simp] theorem Ya (b o : Nat) (v : Value) (w : World) : st P 82 (pt b o) v w = GJ P 82 1 b o v w (hp w b) := Cn (by kernel_rfl) b o v w
@[simp] theorem Yb (b o : Nat) (v : Value) (w : World) : st P 84 (pt b o) v w = GJ P 84 6 b o v w (hp w b) := Cn (by kernel_rfl) b o v w
@[simp] theorem Yc (b o : Nat) (v : Value) (w : World) : st P 86 (pt b o) v w = GJ P 86 2 b o v w (hp w b) := Cn (by kernel_rfl) b o v w
theorem Nw : Cg P 38 = some [(.int .i64 0), (.int .i64 0), (.int .i64 0), (.int .i64 0), (.int .i64 0)] := by kernel_rfl
theorem F9 : Cg P 36 = some [(.int .i64 0), (.int .i64 0)] := by kernel_rfl
theorem Fw : Cg P 49 = some [(.int .i64 0), (.int .i64 0), (.int .i64 0), (Go.Value.slice none 0 0), (Go.Value.string { data := #[] }), (.bool false)] := by kernel_rfl
theorem RP : Cg P 32 = some [(Go.Value.slice none 0 0)] := by kernel_rfl
theorem TI : Cg P 84 = some [(.int .i64 0), (.int .i64 0), (Go.Value.slice none 0 0), (Go.Value.slice none 0 0), (Go.Value.slice none 0 0), (.bool false)] := by kernel_rfl
theorem RQ : Cg P 129 = some [(.int .i64 0), (Go.Value.slice none 0 0), (.int .i64 0), (.int .i64 0), (.int .i64 0)] := by kernel_rfl
theorem On : Cg P 131 = some [(.int .i64 0), (.int .i64 0), (.int .i64 0), (.int .i64 0), (.int .i64 0), (.int .i64 0), (Go.Value.slice none 0 0), (Go.Value.string { data := #[] }), (.bool false)] := by kernel_rfl
theorem O0 : Cg P 86 = some [(Go.Value.slice none 0 0), (Go.Value.slice none 0 0)] := by kernel_rfl
theorem RR : Cg P 42 = some [(Go.Value.slice none 0 0)] := by kernel_rfl
theorem RS : Cg P 137 = some [(.int .i64 0), (.int .i64 0), (.int .i64 0), (.int .i64 0), (Go.Value.string { data := #[] }), (.bool false)] := by kernel_rfl
@[simp] theorem Th (n1 : Int) (n2 : Int) (a3 : Option Addr) (l3 c3 : Nat) (w : World) : bd P 119 #[(0, (.int .i64 n1)), (1, (.int .i64 n2)), (2, (.agg #[.slice a3 l3 c3]))] w = some (.agg #[.int .i64 n1, .int .i64 n2, .slice a3 l3 c3], w) := Ch (by kernel_rfl)
@[simp] theorem Ud (n1 : Int) (a2 : Option Addr) (l2 c2 : Nat) (w : World) : bd P 129 #[(0, (.int .i64 n1)), (1, (.agg #[.slice a2 l2 c2]))] w = some (.agg #[.int .i64 n1, .slice a2 l2 c2, (.int .i64 0), (.int .i64 0), (.int .i64 0)], w) := Ch (by kernel_rfl)
@[simp] theorem RT (n1 : Int) (n2 : Int) (n3 : Int) (n4 : Int) (n5 : Int) (n6 : Int) (a7 : Option Addr) (l7 c7 : Nat) (s8 : ByteArray) (b9 : Bool) (w : World) : bd P 131 #[(0, (.int .i64 n1)), (1, (.int .i64 n2)), (2, (.int .i64 n3)), (3, (.agg #[.int .i64 n4, .int .i64 n5, .int .i64 n6, .slice a7 l7 c7, .string s8, .bool b9]))] w = some (.agg #[.int .i64 n1, .int .i64 n2, .int .i64 n3, .int .i64 n4, .int .i64 n5, .int .i64 n6, .slice a7 l7 c7, .string s8, .bool b9], w) := Ch (by kernel_rfl)
@[simp] theorem Ue (n1 : Int) (n2 : Int) (w : World) : bd P 137 #[(0, (.int .i64 n1)), (1, (.int .i64 n2))] w = some (.agg #[.int .i64 n1, .int .i64 n2, (.int .i64 0), (.int .i64 0), (Go.Value.string { data := #[] }), (.bool false)], w) := Ch (by kernel_rfl)
@[simp] theorem Ti (n1 : Int) (n2 : Int) (n3 : Int) (w : World) : bd P 137 #[(0, (.int .i64 n1)), (1, (.int .i64 n2)), (2, (.int .i64 n3))] w = some (.agg #[.int .i64 n1, .int .i64 n2, .int .i64 n3, (.int .i64 0), (Go.Value.string { data := #[] }), (.bool false)], w) := Ch (by kernel_rfl)
@[simp] theorem RU (n1 : Int) (n2 : Int) (n3 : Int) (n4 : Int) (w : World) : bd P 137 #[(0, (.int .i64 n1)), (1, (.int .i64 n2)), (2, (.int .i64 n3)), (3, (.int .i64 n4))] w = some (.agg #[.int .i64 n1, .int .i64 n2, .int .i64 n3, .int .i64 n4, (Go.Value.string { data := #[] }), (.bool false)], w) := Ch (by kernel_rfl)
@[simp] theorem RV (n1 : Int) (n2 : Int) (n3 : Int) (s4 : ByteArray) (w : World) : bd P 137 #[(0, (.int .i64 n1)), (1, (.int .i64 n2)), (3, (.int .i64 n3)), (4, (.string s4))] w = some (.agg #[.int .i64 n1, .int .i64 n2, (.int .i64 0), .int .i64 n3, .string s4, (.bool false)], w) := Ch (by kernel_rfl)
@[simp] theorem RX (n1 : Int) (n2 : Int) (n3 : Int) (b4 : Bool) (w : World) : bd P 137 #[(0, (.int .i64 n1)), (1, (.int .i64 n2)), (3, (.int .i64 n3)), (5, (.bool b4))] w = some (.agg #[.int .i64 n1, .int .i64 n2, (.int .i64 0), .int .i64 n3, (Go.Value.string { data := #[] }), .bool b4], w) := Ch (by kernel_rfl)
@[simp] theorem W6  (w : World) : bd P 32 #[] w = some (.agg #[(Go.Value.slice none 0 0)], w) := Ch (by kernel_rfl)
@[simp] theorem Wp (a1 : Option Addr) (l1 c1 : Nat) (w : World) : bd P 32 #[(0, (.slice a1 l1 c1))] w = some (.agg #[.slice a1 l1 c1], w) := Ch (by kernel_rfl)
@[simp] theorem W7  (w : World) : bd P 36 #[] w = some (.agg #[(.int .i64 0), (.int .i64 0)], w) := Ch (by kernel_rfl)
@[simp] theorem UP (n1 : Int) (n2 : Int) (w : World) : bd P 36 #[(0, (.int .i64 n1)), (1, (.int .i64 n2))] w = some (.agg #[.int .i64 n1, .int .i64 n2], w) := Ch (by kernel_rfl)
@[simp] theorem SL (n1 : Int) (n2 : Int) (n3 : Int) (n4 : Int) (n5 : Int) (w : World) : bd P 38 #[(0, (.int .i64 n1)), (1, (.int .i64 n2)), (2, (.int .i64 n3)), (3, (.agg #[.int .i64 n4, .int .i64 n5]))] w = some (.agg #[.int .i64 n1, .int .i64 n2, .int .i64 n3, .int .i64 n4, .int .i64 n5], w) := Ch (by kernel_rfl)
@[simp] theorem W8  (w : World) : bd P 44 #[] w = some (.agg #[(Go.Value.slice none 0 0)], w) := Ch (by kernel_rfl)
@[simp] theorem Wq (a1 : Option Addr) (l1 c1 : Nat) (w : World) : bd P 44 #[(0, (.slice a1 l1 c1))] w = some (.agg #[.slice a1 l1 c1], w) := Ch (by kernel_rfl)
@[simp] theorem Q7 (n1 : Int) (n2 : Int) (n3 : Int) (a4 : Option Addr) (l4 c4 : Nat) (s5 : ByteArray) (b6 : Bool) (w : World) : bd P 49 #[(0, (.int .i64 n1)), (1, (.agg #[.int .i64 n2, .int .i64 n3])), (2, (.agg #[.slice a4 l4 c4])), (3, (.string s5)), (4, (.bool b6))] w = some (.agg #[.int .i64 n1, .int .i64 n2, .int .i64 n3, .slice a4 l4 c4, .string s5, .bool b6], w) := Ch (by kernel_rfl)
@[simp] theorem Ws (m1 : Option Nat) (w : World) : bd P 69 #[(1, (.map m1))] w = some (.agg #[(Go.Value.slice none 0 0), (Go.Value.slice none 0 0), (Go.Value.slice none 0 0), (Go.Value.slice none 0 0), .map m1], w) := Ch (by kernel_rfl)
@[simp] theorem W9  (w : World) : bd P 77 #[] w = some (.agg #[(Go.Value.slice none 0 0), (Go.Value.slice none 0 0), (Go.Value.slice none 0 0), (Go.Value.slice none 0 0)], w) := Ch (by kernel_rfl)
@[simp] theorem Wu (a1 : Option Addr) (l1 c1 : Nat) (w : World) : bd P 77 #[(3, (.slice a1 l1 c1))] w = some (.agg #[(Go.Value.slice none 0 0), (Go.Value.slice none 0 0), (Go.Value.slice none 0 0), .slice a1 l1 c1], w) := Ch (by kernel_rfl)
@[simp] theorem Xa  (w : World) : bd P 81 #[] w = some (.agg #[(Go.Value.slice none 0 0)], w) := Ch (by kernel_rfl)
@[simp] theorem Q8 (n1 : Int) (n2 : Int) (b3 : Bool) (a4 : Option Addr) (l4 c4 : Nat) (a5 : Option Addr) (l5 c5 : Nat) (w : World) : bd P 84 #[(0, (.int .i64 n1)), (1, (.int .i64 n2)), (5, (.bool b3)), (2, (.agg #[.slice a4 l4 c4])), (3, (.slice a5 l5 c5))] w = some (.agg #[.int .i64 n1, .int .i64 n2, .slice a4 l4 c4, .slice a5 l5 c5, (Go.Value.slice none 0 0), .bool b3], w) := Ch (by kernel_rfl)
@[simp] theorem TJ (n1 : Int) (a2 : Option Addr) (l2 c2 : Nat) (a3 : Option Addr) (l3 c3 : Nat) (w : World) : bd P 84 #[(0, (.int .i64 n1)), (2, (.agg #[.slice a2 l2 c2])), (4, (.slice a3 l3 c3))] w = some (.agg #[.int .i64 n1, (.int .i64 0), .slice a2 l2 c2, (Go.Value.slice none 0 0), .slice a3 l3 c3, (.bool false)], w) := Ch (by kernel_rfl)
@[simp] theorem Wv (a1 : Option Addr) (l1 c1 : Nat) (w : World) : bd P 86 #[(0, (.agg #[.slice a1 l1 c1]))] w = some (.agg #[.slice a1 l1 c1, (Go.Value.slice none 0 0)], w) := Ch (by kernel_rfl)
@[simp] theorem Ww (a1 : Option Addr) (l1 c1 : Nat) (w : World) : bd P 93 #[(0, (.slice a1 l1 c1))] w = some (.agg #[.slice a1 l1 c1, (.int .i64 0)], w) := Ch (by kernel_rfl)
@[simp] theorem Wx (w : World) : bs P 23 0 #[] w = some (.slice (some ⟨w.heap.size, 0, none⟩) 0 0, w.alloc (.cells #[] 38)) := Gu (n := 5) (by kernel_rfl) (by kernel_rfl) w
@[simp] theorem UQ (n1 : Int) (n2 : Int) (n3 : Int) (n4 : Int) (n5 : Int) (w : World) : bs P 23 1 #[(0, (.agg #[.int .i64 n1, .int .i64 n2, .int .i64 n3, .int .i64 n4, .int .i64 n5]))] w = some (.slice (some ⟨w.heap.size, 0, none⟩) 1 1, w.alloc (.cells #[.int .i64 n1, .int .i64 n2, .int .i64 n3, .int .i64 n4, .int .i64 n5] 38)) := ER (by kernel_rfl)
@[simp] theorem Wy (w : World) : bs P 30 0 #[] w = some (.slice (some ⟨w.heap.size, 0, none⟩) 0 0, w.alloc (.cells #[] 36)) := Gu (n := 2) (by kernel_rfl) (by kernel_rfl) w
@[simp] theorem UR (n1 : Int) (n2 : Int) (w : World) : bs P 30 1 #[(0, (.agg #[.int .i64 n1, .int .i64 n2]))] w = some (.slice (some ⟨w.heap.size, 0, none⟩) 1 1, w.alloc (.cells #[.int .i64 n1, .int .i64 n2] 36)) := ER (by kernel_rfl)
@[simp] theorem Wz (w : World) : bs P 42 0 #[] w = some (.slice (some ⟨w.heap.size, 0, none⟩) 0 0, w.alloc (.cells #[] 49)) := Gu (n := 6) (by kernel_rfl) (by kernel_rfl) w
@[simp] theorem US (n1 : Int) (n2 : Int) (n3 : Int) (a4 : Option Addr) (l4 c4 : Nat) (s5 : ByteArray) (b6 : Bool) (w : World) : bs P 42 1 #[(0, (.agg #[.int .i64 n1, .int .i64 n2, .int .i64 n3, .slice a4 l4 c4, .string s5, .bool b6]))] w = some (.slice (some ⟨w.heap.size, 0, none⟩) 1 1, w.alloc (.cells #[.int .i64 n1, .int .i64 n2, .int .i64 n3, .slice a4 l4 c4, .string s5, .bool b6] 49)) := ER (by kernel_rfl)
@[simp] theorem WA (w : World) : bs P 58 0 #[] w = some (.slice (some ⟨w.heap.size, 0, none⟩) 0 0, w.alloc (.cells #[] 32)) := Gu (n := 1) (by kernel_rfl) (by kernel_rfl) w
@[simp] theorem UT (a1 : Option Addr) (l1 c1 : Nat) (w : World) : bs P 58 1 #[(0, (.agg #[.slice a1 l1 c1]))] w = some (.slice (some ⟨w.heap.size, 0, none⟩) 1 1, w.alloc (.cells #[.slice a1 l1 c1] 32)) := ER (by kernel_rfl)
@[simp] theorem TK (n1 : Int) (n2 : Int) (w : World) : bs P 64 2 #[(0, (.int .i64 n1)), (1, (.int .i64 n2))] w = some (.slice (some ⟨w.heap.size, 0, none⟩) 2 2, w.alloc (.cells #[.int .i64 n1, .int .i64 n2] 3)) := ER (by kernel_rfl)
@[simp] theorem Q9 (n1 : Int) (n2 : Int) (n3 : Int) (n4 : Int) (w : World) : bs P 64 4 #[(0, (.int .i64 n1)), (1, (.int .i64 n2)), (2, (.int .i64 n3)), (3, (.int .i64 n4))] w = some (.slice (some ⟨w.heap.size, 0, none⟩) 4 4, w.alloc (.cells #[.int .i64 n1, .int .i64 n2, .int .i64 n3, .int .i64 n4] 3)) := ER (by kernel_rfl)
@[simp] theorem Pr (n1 : Int) (n2 : Int) (n3 : Int) (n4 : Int) (n5 : Int) (n6 : Int) (w : World) : bs P 64 6 #[(0, (.int .i64 n1)), (1, (.int .i64 n2)), (2, (.int .i64 n3)), (3, (.int .i64 n4)), (4, (.int .i64 n5)), (5, (.int .i64 n6))] w = some (.slice (some ⟨w.heap.size, 0, none⟩) 6 6, w.alloc (.cells #[.int .i64 n1, .int .i64 n2, .int .i64 n3, .int .i64 n4, .int .i64 n5, .int .i64 n6] 3)) := ER (by kernel_rfl)
@[simp] theorem OB (n1 : Int) (n2 : Int) (n3 : Int) (n4 : Int) (n5 : Int) (n6 : Int) (n7 : Int) (w : World) : bs P 64 7 #[(0, (.int .i64 n1)), (1, (.int .i64 n2)), (2, (.int .i64 n3)), (3, (.int .i64 n4)), (4, (.int .i64 n5)), (5, (.int .i64 n6)), (6, (.int .i64 n7))] w = some (.slice (some ⟨w.heap.size, 0, none⟩) 7 7, w.alloc (.cells #[.int .i64 n1, .int .i64 n2, .int .i64 n3, .int .i64 n4, .int .i64 n5, .int .i64 n6, .int .i64 n7] 3)) := ER (by kernel_rfl)
@[simp] theorem UU (n1 : Int) (n2 : Int) (a3 : Option Addr) (l3 c3 : Nat) (a4 : Option Addr) (l4 c4 : Nat) (a5 : Option Addr) (l5 c5 : Nat) (b6 : Bool) (w : World) : bs P 73 1 #[(0, (.agg #[.int .i64 n1, .int .i64 n2, .slice a3 l3 c3, .slice a4 l4 c4, .slice a5 l5 c5, .bool b6]))] w = some (.slice (some ⟨w.heap.size, 0, none⟩) 1 1, w.alloc (.cells #[.int .i64 n1, .int .i64 n2, .slice a3 l3 c3, .slice a4 l4 c4, .slice a5 l5 c5, .bool b6] 84)) := ER (by kernel_rfl)
@[simp] theorem UW (n1 : Int) (a2 : Option Addr) (l2 c2 : Nat) (n3 : Int) (n4 : Int) (n5 : Int) (w : World) : bs P 74 1 #[(0, (.agg #[.int .i64 n1, .slice a2 l2 c2, .int .i64 n3, .int .i64 n4, .int .i64 n5]))] w = some (.slice (some ⟨w.heap.size, 0, none⟩) 1 1, w.alloc (.cells #[.int .i64 n1, .slice a2 l2 c2, .int .i64 n3, .int .i64 n4, .int .i64 n5] 129)) := ER (by kernel_rfl)
@[simp] theorem WB (w : World) : bs P 75 0 #[] w = some (.slice (some ⟨w.heap.size, 0, none⟩) 0 0, w.alloc (.cells #[] 131)) := Gu (n := 9) (by kernel_rfl) (by kernel_rfl) w
@[simp] theorem UX (n1 : Int) (n2 : Int) (n3 : Int) (n4 : Int) (n5 : Int) (n6 : Int) (a7 : Option Addr) (l7 c7 : Nat) (s8 : ByteArray) (b9 : Bool) (w : World) : bs P 75 1 #[(0, (.agg #[.int .i64 n1, .int .i64 n2, .int .i64 n3, .int .i64 n4, .int .i64 n5, .int .i64 n6, .slice a7 l7 c7, .string s8, .bool b9]))] w = some (.slice (some ⟨w.heap.size, 0, none⟩) 1 1, w.alloc (.cells #[.int .i64 n1, .int .i64 n2, .int .i64 n3, .int .i64 n4, .int .i64 n5, .int .i64 n6, .slice a7 l7 c7, .string s8, .bool b9] 131)) := ER (by kernel_rfl)
@[simp] theorem WC (w : World) : bs P 79 0 #[] w = some (.slice (some ⟨w.heap.size, 0, none⟩) 0 0, w.alloc (.cells #[] 86)) := Gu (n := 2) (by kernel_rfl) (by kernel_rfl) w
@[simp] theorem UY (a1 : Option Addr) (l1 c1 : Nat) (a2 : Option Addr) (l2 c2 : Nat) (w : World) : bs P 79 1 #[(0, (.agg #[.slice a1 l1 c1, .slice a2 l2 c2]))] w = some (.slice (some ⟨w.heap.size, 0, none⟩) 1 1, w.alloc (.cells #[.slice a1 l1 c1, .slice a2 l2 c2] 86)) := ER (by kernel_rfl)
@[simp] theorem UZ (a1 : Option Addr) (l1 c1 : Nat) (w : World) : bs P 82 1 #[(0, (.slice a1 l1 c1))] w = some (.slice (some ⟨w.heap.size, 0, none⟩) 1 1, w.alloc (.cells #[.slice a1 l1 c1] 42)) := ER (by kernel_rfl)
@[simp] theorem Vq (w : World) : bs P 109 0 #[] w = some (.slice (some ⟨w.heap.size, 0, none⟩) 0 0, w.alloc (.cells #[] 137)) := Gu (n := 6) (by kernel_rfl) (by kernel_rfl) w
@[simp] theorem Uf (n1 : Int) (n2 : Int) (n3 : Int) (n4 : Int) (s5 : ByteArray) (b6 : Bool) (w : World) : bs P 109 1 #[(0, (.agg #[.int .i64 n1, .int .i64 n2, .int .i64 n3, .int .i64 n4, .string s5, .bool b6]))] w = some (.slice (some ⟨w.heap.size, 0, none⟩) 1 1, w.alloc (.cells #[.int .i64 n1, .int .i64 n2, .int .i64 n3, .int .i64 n4, .string s5, .bool b6] 137)) := ER (by kernel_rfl)
@[simp] theorem MZ (s1 : ByteArray) (s2 : ByteArray) (s3 : ByteArray) (s4 : ByteArray) (s5 : ByteArray) (s6 : ByteArray) (s7 : ByteArray) (s8 : ByteArray) (w : World) : bs P 140 8 #[(0, (.string s1)), (1, (.string s2)), (2, (.string s3)), (3, (.string s4)), (4, (.string s5)), (5, (.string s6)), (6, (.string s7)), (7, (.string s8))] w = some (.slice (some ⟨w.heap.size, 0, none⟩) 8 8, w.alloc (.cells #[.string s1, .string s2, .string s3, .string s4, .string s5, .string s6, .string s7, .string s8] 9)) := ER (by kernel_rfl)
@[simp] theorem Xb (n : Int) (w : World) : cv P 5 3 (.int .u8 n) w = some (.int .i64 (IntKind.wrap .i64 n), w) := UA (by kernel_rfl) (by kernel_rfl) _ n w
attribute [simp ↓] Xc Vu Vv Sj Ut Uu Uv Uw Vx Ux Uy
attribute [simp] Vs Ui Uj Uk Ul Um Un Uo Up Uq PI PJ Ur Us Sd World.size_alloc size_setRow JO QW PL Ou O4 Nd QX LA PM Vy Ad BB R9 Sc Ab Aa Oq Ot PK Bm Tl Se Sg QV B8 Value.oneCell'
end Go.Proofs.YtjhhommnkaemlaaGreat.X
