/- A part of the proof: an evaluator of the model, its laws, and contracts of functions; no condition. -/
import Derived.Test.YtjhhommnkaemlaaGreatProg
import Derived.Test.YtjhhommnkaemlaaGreatEvM
set_option linter.unusedVariables false
set_option linter.unusedSimpArgs false
set_option linter.deprecated false
namespace Go.Proofs.YtjhhommnkaemlaaGreat.X
open Go Go.Ev
noncomputable def P : Program := Tryz.prog
theorem plain : Plain P := by
 have h : (P.funcs.toList.all fun fn => fn.body.isNone || fn.name != "runtime.NumGoroutine") = true := by kernel_rfl
 intro fn hf hb
 rw [List.all_eq_true] at h
 have := h fn (Array.mem_toList_iff.2 hf)
 simp only [Option.isNone_iff_eq_none, Bool.or_eq_true, bne_iff_ne, ne_eq] at this
 rcases this with h | h
 ·rw [h] at hb; simp at hb
 ·exact h
theorem mixed : P.follows .mixedOrders = true := by kernel_rfl
@[simp] theorem WQ (w : World) : al P 119 w = some (pt w.heap.size 0, w.alloc (.cells #[(.int .i64 0), (.int .i64 0), (Go.Value.slice none 0 0)] 119)) := Gh (z := [(.int .i64 0), (.int .i64 0), (Go.Value.slice none 0 0)]) (by kernel_rfl) w
@[simp] theorem WR (w : World) : al P 129 w = some (pt w.heap.size 0, w.alloc (.cells #[(.int .i64 0), (Go.Value.slice none 0 0), (.int .i64 0), (.int .i64 0), (.int .i64 0)] 129)) := Gh (z := [(.int .i64 0), (Go.Value.slice none 0 0), (.int .i64 0), (.int .i64 0), (.int .i64 0)]) (by kernel_rfl) w
@[simp] theorem WS (w : World) : al P 131 w = some (pt w.heap.size 0, w.alloc (.cells #[(.int .i64 0), (.int .i64 0), (.int .i64 0), (.int .i64 0), (.int .i64 0), (.int .i64 0), (Go.Value.slice none 0 0), (Go.Value.string { data := #[] }), (.bool false)] 131)) := Gh (z := [(.int .i64 0), (.int .i64 0), (.int .i64 0), (.int .i64 0), (.int .i64 0), (.int .i64 0), (Go.Value.slice none 0 0), (Go.Value.string { data := #[] }), (.bool false)]) (by kernel_rfl) w
@[simp] theorem WT (w : World) : al P 137 w = some (pt w.heap.size 0, w.alloc (.cells #[(.int .i64 0), (.int .i64 0), (.int .i64 0), (.int .i64 0), (Go.Value.string { data := #[] }), (.bool false)] 137)) := Gh (z := [(.int .i64 0), (.int .i64 0), (.int .i64 0), (.int .i64 0), (Go.Value.string { data := #[] }), (.bool false)]) (by kernel_rfl) w
@[simp] theorem Xs (w : World) : al P 32 w = some (pt w.heap.size 0, w.alloc (.cells #[(Go.Value.slice none 0 0)] 32)) := Gh (z := [(Go.Value.slice none 0 0)]) (by kernel_rfl) w
@[simp] theorem Xt (w : World) : al P 36 w = some (pt w.heap.size 0, w.alloc (.cells #[(.int .i64 0), (.int .i64 0)] 36)) := Gh (z := [(.int .i64 0), (.int .i64 0)]) (by kernel_rfl) w
@[simp] theorem Xu (w : World) : al P 38 w = some (pt w.heap.size 0, w.alloc (.cells #[(.int .i64 0), (.int .i64 0), (.int .i64 0), (.int .i64 0), (.int .i64 0)] 38)) := Gh (z := [(.int .i64 0), (.int .i64 0), (.int .i64 0), (.int .i64 0), (.int .i64 0)]) (by kernel_rfl) w
@[simp] theorem Xv (w : World) : al P 44 w = some (pt w.heap.size 0, w.alloc (.cells #[(Go.Value.slice none 0 0)] 44)) := Gh (z := [(Go.Value.slice none 0 0)]) (by kernel_rfl) w
@[simp] theorem Xw (w : World) : al P 49 w = some (pt w.heap.size 0, w.alloc (.cells #[(.int .i64 0), (.int .i64 0), (.int .i64 0), (Go.Value.slice none 0 0), (Go.Value.string { data := #[] }), (.bool false)] 49)) := Gh (z := [(.int .i64 0), (.int .i64 0), (.int .i64 0), (Go.Value.slice none 0 0), (Go.Value.string { data := #[] }), (.bool false)]) (by kernel_rfl) w
@[simp] theorem Xy (w : World) : al P 77 w = some (pt w.heap.size 0, w.alloc (.cells #[(Go.Value.slice none 0 0), (Go.Value.slice none 0 0), (Go.Value.slice none 0 0), (Go.Value.slice none 0 0)] 77)) := Gh (z := [(Go.Value.slice none 0 0), (Go.Value.slice none 0 0), (Go.Value.slice none 0 0), (Go.Value.slice none 0 0)]) (by kernel_rfl) w
@[simp] theorem Xz (w : World) : al P 81 w = some (pt w.heap.size 0, w.alloc (.cells #[(Go.Value.slice none 0 0)] 81)) := Gh (z := [(Go.Value.slice none 0 0)]) (by kernel_rfl) w
@[simp] theorem XA (w : World) : al P 84 w = some (pt w.heap.size 0, w.alloc (.cells #[(.int .i64 0), (.int .i64 0), (Go.Value.slice none 0 0), (Go.Value.slice none 0 0), (Go.Value.slice none 0 0), (.bool false)] 84)) := Gh (z := [(.int .i64 0), (.int .i64 0), (Go.Value.slice none 0 0), (Go.Value.slice none 0 0), (Go.Value.slice none 0 0), (.bool false)]) (by kernel_rfl) w
@[simp] theorem XB (w : World) : al P 86 w = some (pt w.heap.size 0, w.alloc (.cells #[(Go.Value.slice none 0 0), (Go.Value.slice none 0 0)] 86)) := Gh (z := [(Go.Value.slice none 0 0), (Go.Value.slice none 0 0)]) (by kernel_rfl) w
@[simp] theorem VX (a : Option Addr) (n c : Nat) (w : World) : Ax P #[109] 3 #[.slice a n c] w = some (i64 n, w) := BF (e := 137) (s := (6, 56)) (by kernel_rfl) a n c w
@[simp] theorem VY (a : Option Addr) (n c : Nat) (w : World) : Ax P #[140] 3 #[.slice a n c] w = some (i64 n, w) := BF (e := 9) (s := (1, 16)) (by kernel_rfl) a n c w
@[simp] theorem WU (a : Option Addr) (n c : Nat) (w : World) : Ax P #[22] 3 #[.slice a n c] w = some (i64 n, w) := BF (e := 5) (s := (1, 1)) (by kernel_rfl) a n c w
@[simp] theorem WV (a : Option Addr) (n c : Nat) (w : World) : Ax P #[23] 3 #[.slice a n c] w = some (i64 n, w) := BF (e := 38) (s := (5, 40)) (by kernel_rfl) a n c w
@[simp] theorem WW (a : Option Addr) (n c : Nat) (w : World) : Ax P #[30] 3 #[.slice a n c] w = some (i64 n, w) := BF (e := 36) (s := (2, 16)) (by kernel_rfl) a n c w
@[simp] theorem WX (a : Option Addr) (n c : Nat) (w : World) : Ax P #[42] 3 #[.slice a n c] w = some (i64 n, w) := BF (e := 49) (s := (6, 72)) (by kernel_rfl) a n c w
@[simp] theorem WY (a : Option Addr) (n c : Nat) (w : World) : Ax P #[64] 3 #[.slice a n c] w = some (i64 n, w) := BF (e := 3) (s := (1, 8)) (by kernel_rfl) a n c w
@[simp] theorem WZ (a : Option Addr) (n c : Nat) (w : World) : Ax P #[73] 3 #[.slice a n c] w = some (i64 n, w) := BF (e := 84) (s := (6, 96)) (by kernel_rfl) a n c w
@[simp] theorem W0 (a : Option Addr) (n c : Nat) (w : World) : Ax P #[74] 3 #[.slice a n c] w = some (i64 n, w) := BF (e := 129) (s := (5, 56)) (by kernel_rfl) a n c w
@[simp] theorem W5 (a : Option Addr) (n c : Nat) (w : World) : Ax P #[75] 3 #[.slice a n c] w = some (i64 n, w) := BF (e := 131) (s := (9, 96)) (by kernel_rfl) a n c w
@[simp] theorem W6 (a : Option Addr) (n c : Nat) (w : World) : Ax P #[79] 3 #[.slice a n c] w = some (i64 n, w) := BF (e := 86) (s := (2, 48)) (by kernel_rfl) a n c w
@[simp] theorem W7 (a : Option Addr) (n c : Nat) (w : World) : Ax P #[82] 3 #[.slice a n c] w = some (i64 n, w) := BF (e := 42) (s := (1, 24)) (by kernel_rfl) a n c w
@[simp] theorem XC (s : ByteArray) (w : World) : Ax P #[9] 3 #[.string s] w = some (i64 s.size, w) := Tx (by kernel_rfl) s w
theorem TR : (P.fieldsOf 36).toList = [{ name := "Time", type := 3, offset := 0, embedded := false, tag := "", pkgPath := "", byteOffset := 0 }, { name := "Place", type := 3, offset := 1, embedded := false, tag := "", pkgPath := "", byteOffset := 8 }] := by kernel_rfl
@[simp] theorem UY (x y : Operand) (a0 a1 b0 b1 : Int) (w : World) : bo P .eql 36 x y (.agg #[i64 a0, i64 a1]) (.agg #[i64 b0, i64 b1]) w = some (.bool (((a0 == b0) && (a1 == b1))), w) := by
 have hg := run_eqGuard_agg (P := P) w .eql 36 x y #[i64 a0, i64 a1] #[i64 b0, i64 b1] (by kernel_rfl)
 have hs := run_equalIn_struct (P := P) w 9999 36 #[i64 a0, i64 a1] #[i64 b0, i64 b1] (by kernel_rfl) (by kernel_rfl)
 simp only [bo, Sem.run_bind, hg, Result.andThen_ok, run_eql_struct, hs, TR]
 exact NK (by kernel_rfl) (by kernel_rfl) ⟨by simp, by simp, rfl, rfl⟩ _ _ _ _ w
@[simp] theorem UZ (x y : Operand) (a0 a1 b0 b1 : Int) (w : World) : bo P .neq 36 x y (.agg #[i64 a0, i64 a1]) (.agg #[i64 b0, i64 b1]) w = some (.bool (!((a0 == b0) && (a1 == b1))), w) := by
 have hg := run_eqGuard_agg (P := P) w .neq 36 x y #[i64 a0, i64 a1] #[i64 b0, i64 b1] (by kernel_rfl)
 have hs := run_equalIn_struct (P := P) w 9999 36 #[i64 a0, i64 a1] #[i64 b0, i64 b1] (by kernel_rfl) (by kernel_rfl)
 simp only [bo, Sem.run_bind, hg, Result.andThen_ok, run_neq_struct, hs, TR]
 exact Rb (by kernel_rfl) (by kernel_rfl) ⟨by simp, by simp, rfl, rfl⟩ _ _ _ _ w
@[simp] theorem Vi (b o : Nat) (w : World) : fa P 119 (pt b o) 0 w = some (pt b (o + 0), w) := A8 (n := 0) (g := some false) (by kernel_rfl) b o w
@[simp] theorem Vj (b o : Nat) (w : World) : fa P 119 (pt b o) 1 w = some (pt b (o + 1), w) := A8 (n := 0) (g := some false) (by kernel_rfl) b o w
@[simp] theorem Vk (b o : Nat) (w : World) : fa P 119 (pt b o) 2 w = some (pt b (o + 2), w) := A8 (n := 0) (g := some true) (by kernel_rfl) b o w
@[simp] theorem Vl (b o : Nat) (w : World) : fa P 129 (pt b o) 0 w = some (pt b (o + 0), w) := A8 (n := 0) (g := some false) (by kernel_rfl) b o w
@[simp] theorem Vm (b o : Nat) (w : World) : fa P 129 (pt b o) 1 w = some (pt b (o + 1), w) := A8 (n := 0) (g := some true) (by kernel_rfl) b o w
@[simp] theorem Vn (b o : Nat) (w : World) : fa P 129 (pt b o) 2 w = some (pt b (o + 2), w) := A8 (n := 1) (g := some true) (by kernel_rfl) b o w
@[simp] theorem Vo (b o : Nat) (w : World) : fa P 129 (pt b o) 3 w = some (pt b (o + 4), w) := A8 (n := 0) (g := some false) (by kernel_rfl) b o w
@[simp] theorem Vp (b o : Nat) (w : World) : fa P 131 (pt b o) 0 w = some (pt b (o + 0), w) := A8 (n := 0) (g := some false) (by kernel_rfl) b o w
@[simp] theorem Vq (b o : Nat) (w : World) : fa P 131 (pt b o) 1 w = some (pt b (o + 1), w) := A8 (n := 0) (g := some false) (by kernel_rfl) b o w
@[simp] theorem Vr (b o : Nat) (w : World) : fa P 131 (pt b o) 2 w = some (pt b (o + 2), w) := A8 (n := 0) (g := some false) (by kernel_rfl) b o w
@[simp] theorem Vs (b o : Nat) (w : World) : fa P 131 (pt b o) 3 w = some (pt b (o + 3), w) := A8 (n := 5) (g := some true) (by kernel_rfl) b o w
@[simp] theorem Vt (b o : Nat) (w : World) : fa P 137 (pt b o) 0 w = some (pt b (o + 0), w) := A8 (n := 0) (g := some false) (by kernel_rfl) b o w
@[simp] theorem Vu (b o : Nat) (w : World) : fa P 137 (pt b o) 1 w = some (pt b (o + 1), w) := A8 (n := 0) (g := some false) (by kernel_rfl) b o w
@[simp] theorem Vv (b o : Nat) (w : World) : fa P 137 (pt b o) 2 w = some (pt b (o + 2), w) := A8 (n := 0) (g := some false) (by kernel_rfl) b o w
@[simp] theorem Vx (b o : Nat) (w : World) : fa P 137 (pt b o) 3 w = some (pt b (o + 3), w) := A8 (n := 0) (g := some false) (by kernel_rfl) b o w
@[simp] theorem Vy (b o : Nat) (w : World) : fa P 137 (pt b o) 4 w = some (pt b (o + 4), w) := A8 (n := 0) (g := some false) (by kernel_rfl) b o w
@[simp] theorem Vz (b o : Nat) (w : World) : fa P 137 (pt b o) 5 w = some (pt b (o + 5), w) := A8 (n := 0) (g := some false) (by kernel_rfl) b o w
@[simp] theorem VZ (b o : Nat) (w : World) : fa P 32 (pt b o) 0 w = some (pt b (o + 0), w) := A8 (n := 0) (g := some false) (by kernel_rfl) b o w
@[simp] theorem V0 (b o : Nat) (w : World) : fa P 36 (pt b o) 0 w = some (pt b (o + 0), w) := A8 (n := 0) (g := some false) (by kernel_rfl) b o w
@[simp] theorem V6 (b o : Nat) (w : World) : fa P 36 (pt b o) 1 w = some (pt b (o + 1), w) := A8 (n := 0) (g := some false) (by kernel_rfl) b o w
@[simp] theorem V7 (b o : Nat) (w : World) : fa P 38 (pt b o) 0 w = some (pt b (o + 0), w) := A8 (n := 0) (g := some false) (by kernel_rfl) b o w
@[simp] theorem V8 (b o : Nat) (w : World) : fa P 38 (pt b o) 1 w = some (pt b (o + 1), w) := A8 (n := 0) (g := some false) (by kernel_rfl) b o w
@[simp] theorem V9 (b o : Nat) (w : World) : fa P 38 (pt b o) 2 w = some (pt b (o + 2), w) := A8 (n := 0) (g := some false) (by kernel_rfl) b o w
@[simp] theorem Wb (b o : Nat) (w : World) : fa P 38 (pt b o) 3 w = some (pt b (o + 3), w) := A8 (n := 1) (g := some true) (by kernel_rfl) b o w
@[simp] theorem Wc (b o : Nat) (w : World) : fa P 44 (pt b o) 0 w = some (pt b (o + 0), w) := A8 (n := 0) (g := some false) (by kernel_rfl) b o w
@[simp] theorem Wd (b o : Nat) (w : World) : fa P 49 (pt b o) 0 w = some (pt b (o + 0), w) := A8 (n := 0) (g := some false) (by kernel_rfl) b o w
@[simp] theorem We (b o : Nat) (w : World) : fa P 49 (pt b o) 1 w = some (pt b (o + 1), w) := A8 (n := 1) (g := some true) (by kernel_rfl) b o w
@[simp] theorem Wf (b o : Nat) (w : World) : fa P 49 (pt b o) 2 w = some (pt b (o + 3), w) := A8 (n := 0) (g := some true) (by kernel_rfl) b o w
@[simp] theorem Wg (b o : Nat) (w : World) : fa P 69 (pt b o) 0 w = some (pt b (o + 0), w) := A8 (n := 3) (g := some true) (by kernel_rfl) b o w
@[simp] theorem Wh (b o : Nat) (w : World) : fa P 69 (pt b o) 1 w = some (pt b (o + 4), w) := A8 (n := 0) (g := some false) (by kernel_rfl) b o w
@[simp] theorem Wi (b o : Nat) (w : World) : fa P 77 (pt b o) 0 w = some (pt b (o + 0), w) := A8 (n := 0) (g := some false) (by kernel_rfl) b o w
@[simp] theorem Wj (b o : Nat) (w : World) : fa P 77 (pt b o) 1 w = some (pt b (o + 1), w) := A8 (n := 0) (g := some false) (by kernel_rfl) b o w
@[simp] theorem Wl (b o : Nat) (w : World) : fa P 77 (pt b o) 2 w = some (pt b (o + 2), w) := A8 (n := 0) (g := some false) (by kernel_rfl) b o w
@[simp] theorem Wm (b o : Nat) (w : World) : fa P 77 (pt b o) 3 w = some (pt b (o + 3), w) := A8 (n := 0) (g := some false) (by kernel_rfl) b o w
@[simp] theorem Wn (b o : Nat) (w : World) : fa P 81 (pt b o) 0 w = some (pt b (o + 0), w) := A8 (n := 0) (g := some false) (by kernel_rfl) b o w
@[simp] theorem Wo (b o : Nat) (w : World) : fa P 84 (pt b o) 0 w = some (pt b (o + 0), w) := A8 (n := 0) (g := some false) (by kernel_rfl) b o w
@[simp] theorem Wp (b o : Nat) (w : World) : fa P 84 (pt b o) 1 w = some (pt b (o + 1), w) := A8 (n := 0) (g := some false) (by kernel_rfl) b o w
@[simp] theorem Wq (b o : Nat) (w : World) : fa P 84 (pt b o) 2 w = some (pt b (o + 2), w) := A8 (n := 0) (g := some true) (by kernel_rfl) b o w
@[simp] theorem Ws (b o : Nat) (w : World) : fa P 84 (pt b o) 3 w = some (pt b (o + 3), w) := A8 (n := 0) (g := some false) (by kernel_rfl) b o w
@[simp] theorem Wu (b o : Nat) (w : World) : fa P 84 (pt b o) 4 w = some (pt b (o + 4), w) := A8 (n := 0) (g := some false) (by kernel_rfl) b o w
@[simp] theorem Wv (b o : Nat) (w : World) : fa P 84 (pt b o) 5 w = some (pt b (o + 5), w) := A8 (n := 0) (g := some false) (by kernel_rfl) b o w
@[simp] theorem Ww (b o : Nat) (w : World) : fa P 86 (pt b o) 0 w = some (pt b (o + 0), w) := A8 (n := 0) (g := some true) (by kernel_rfl) b o w
@[simp] theorem Wx (b o : Nat) (w : World) : fa P 86 (pt b o) 1 w = some (pt b (o + 1), w) := A8 (n := 0) (g := some false) (by kernel_rfl) b o w
@[simp] theorem Wy (b o : Nat) (w : World) : fa P 93 (pt b o) 0 w = some (pt b (o + 0), w) := A8 (n := 0) (g := some false) (by kernel_rfl) b o w
@[simp] theorem Wz (b o : Nat) (w : World) : fa P 93 (pt b o) 1 w = some (pt b (o + 1), w) := A8 (n := 0) (g := some false) (by kernel_rfl) b o w
theorem PZ : Fc P 109 = some (137, 6, 56) := by kernel_rfl
theorem Ul {b o n c : Nat} {i : Int} (h0 : 0 ≤ i) (h1 : i < n) (w : World) : ia P 109 (.slice (some ⟨b, o, none⟩) n c) (i64 i) w = some (pt b (o + i.toNat * 6), w) := Gi PZ h0 h1 w
theorem Um : Fc P 140 = some (9, 1, 16) := by kernel_rfl
theorem Un {b o n c : Nat} {i : Int} (h0 : 0 ≤ i) (h1 : i < n) (w : World) : ia P 140 (.slice (some ⟨b, o, none⟩) n c) (i64 i) w = some (pt b (o + i.toNat * 1), w) := Gi Um h0 h1 w
theorem TS : Fc P 22 = some (5, 1, 1) := by kernel_rfl
theorem TT {b o n c : Nat} {i : Int} (h0 : 0 ≤ i) (h1 : i < n) (w : World) : ia P 22 (.slice (some ⟨b, o, none⟩) n c) (i64 i) w = some (pt b (o + i.toNat * 1), w) := Gi TS h0 h1 w
theorem HQ : Fc P 23 = some (38, 5, 40) := by kernel_rfl
theorem Ci {b o n c : Nat} {i : Int} (h0 : 0 ≤ i) (h1 : i < n) (w : World) : ia P 23 (.slice (some ⟨b, o, none⟩) n c) (i64 i) w = some (pt b (o + i.toNat * 5), w) := Gi HQ h0 h1 w
theorem CJ : Fc P 30 = some (36, 2, 16) := by kernel_rfl
theorem DL {b o n c : Nat} {i : Int} (h0 : 0 ≤ i) (h1 : i < n) (w : World) : ia P 30 (.slice (some ⟨b, o, none⟩) n c) (i64 i) w = some (pt b (o + i.toNat * 2), w) := Gi CJ h0 h1 w
theorem CX : Fc P 42 = some (49, 6, 72) := by kernel_rfl
theorem BQ {b o n c : Nat} {i : Int} (h0 : 0 ≤ i) (h1 : i < n) (w : World) : ia P 42 (.slice (some ⟨b, o, none⟩) n c) (i64 i) w = some (pt b (o + i.toNat * 6), w) := Gi CX h0 h1 w
theorem Qz : Fc P 58 = some (32, 1, 24) := by kernel_rfl
theorem Pf {b o n c : Nat} {i : Int} (h0 : 0 ≤ i) (h1 : i < n) (w : World) : ia P 58 (.slice (some ⟨b, o, none⟩) n c) (i64 i) w = some (pt b (o + i.toNat * 1), w) := Gi Qz h0 h1 w
theorem VA : Fc P 64 = some (3, 1, 8) := by kernel_rfl
theorem R8 {b o n c : Nat} {i : Int} (h0 : 0 ≤ i) (h1 : i < n) (w : World) : ia P 64 (.slice (some ⟨b, o, none⟩) n c) (i64 i) w = some (pt b (o + i.toNat * 1), w) := Gi VA h0 h1 w
theorem R9 : Fc P 73 = some (84, 6, 96) := by kernel_rfl
theorem CY {b o n c : Nat} {i : Int} (h0 : 0 ≤ i) (h1 : i < n) (w : World) : ia P 73 (.slice (some ⟨b, o, none⟩) n c) (i64 i) w = some (pt b (o + i.toNat * 6), w) := Gi R9 h0 h1 w
theorem Sc : Fc P 74 = some (129, 5, 56) := by kernel_rfl
theorem DM {b o n c : Nat} {i : Int} (h0 : 0 ≤ i) (h1 : i < n) (w : World) : ia P 74 (.slice (some ⟨b, o, none⟩) n c) (i64 i) w = some (pt b (o + i.toNat * 5), w) := Gi Sc h0 h1 w
theorem NJ : Fc P 75 = some (131, 9, 96) := by kernel_rfl
theorem Sd {b o n c : Nat} {i : Int} (h0 : 0 ≤ i) (h1 : i < n) (w : World) : ia P 75 (.slice (some ⟨b, o, none⟩) n c) (i64 i) w = some (pt b (o + i.toNat * 9), w) := Gi NJ h0 h1 w
theorem LN : Fc P 79 = some (86, 2, 48) := by kernel_rfl
theorem CC {b o n c : Nat} {i : Int} (h0 : 0 ≤ i) (h1 : i < n) (w : World) : ia P 79 (.slice (some ⟨b, o, none⟩) n c) (i64 i) w = some (pt b (o + i.toNat * 2), w) := Gi LN h0 h1 w
theorem QA : Fc P 82 = some (42, 1, 24) := by kernel_rfl
theorem HR {b o n c : Nat} {i : Int} (h0 : 0 ≤ i) (h1 : i < n) (w : World) : ia P 82 (.slice (some ⟨b, o, none⟩) n c) (i64 i) w = some (pt b (o + i.toNat * 1), w) := Gi QA h0 h1 w
@[simp] theorem W8 (b o : Nat) (w : World) : ld P 129 (pt b o) w = P0 P 129 b o w (Ba w b o 5) := Ei (by kernel_rfl) (by kernel_rfl) b o w
@[simp] theorem W9 (b o : Nat) (w : World) : ld P 131 (pt b o) w = P0 P 131 b o w (Ba w b o 9) := Ei (by kernel_rfl) (by kernel_rfl) b o w
@[simp] theorem Xa (b o : Nat) (w : World) : ld P 137 (pt b o) w = P0 P 137 b o w (Ba w b o 6) := Ei (by kernel_rfl) (by kernel_rfl) b o w
@[simp] theorem XD (b o : Nat) (w : World) : ld P 22 (pt b o) w = Ph P 22 b o w (Bj (hp w b) o) := Dy (by kernel_rfl) b o w
@[simp] theorem XE (b o : Nat) (w : World) : ld P 23 (pt b o) w = Ph P 23 b o w (Bj (hp w b) o) := Dy (by kernel_rfl) b o w
@[simp] theorem Yp (b o : Nat) (w : World) : ld P 3 (pt b o) w = Ph P 3 b o w (Bj (hp w b) o) := Dy (by kernel_rfl) b o w
@[simp] theorem XF (b o : Nat) (w : World) : ld P 30 (pt b o) w = Ph P 30 b o w (Bj (hp w b) o) := Dy (by kernel_rfl) b o w
@[simp] theorem XG (b o : Nat) (w : World) : ld P 32 (pt b o) w = P0 P 32 b o w (Ba w b o 1) := Ei (by kernel_rfl) (by kernel_rfl) b o w
@[simp] theorem XH (b o : Nat) (w : World) : ld P 36 (pt b o) w = P0 P 36 b o w (Ba w b o 2) := Ei (by kernel_rfl) (by kernel_rfl) b o w
@[simp] theorem XI (b o : Nat) (w : World) : ld P 38 (pt b o) w = P0 P 38 b o w (Ba w b o 5) := Ei (by kernel_rfl) (by kernel_rfl) b o w
@[simp] theorem Yq (b o : Nat) (w : World) : ld P 4 (pt b o) w = Ph P 4 b o w (Bj (hp w b) o) := Dy (by kernel_rfl) b o w
@[simp] theorem XJ (b o : Nat) (w : World) : ld P 42 (pt b o) w = Ph P 42 b o w (Bj (hp w b) o) := Dy (by kernel_rfl) b o w
@[simp] theorem XK (b o : Nat) (w : World) : ld P 44 (pt b o) w = P0 P 44 b o w (Ba w b o 1) := Ei (by kernel_rfl) (by kernel_rfl) b o w
@[simp] theorem XL (b o : Nat) (w : World) : ld P 49 (pt b o) w = P0 P 49 b o w (Ba w b o 6) := Ei (by kernel_rfl) (by kernel_rfl) b o w
@[simp] theorem Yr (b o : Nat) (w : World) : ld P 5 (pt b o) w = Ph P 5 b o w (Bj (hp w b) o) := Dy (by kernel_rfl) b o w
@[simp] theorem XM (b o : Nat) (w : World) : ld P 67 (pt b o) w = Ph P 67 b o w (Bj (hp w b) o) := Dy (by kernel_rfl) b o w
@[simp] theorem XN (b o : Nat) (w : World) : ld P 73 (pt b o) w = Ph P 73 b o w (Bj (hp w b) o) := Dy (by kernel_rfl) b o w
@[simp] theorem XO (b o : Nat) (w : World) : ld P 74 (pt b o) w = Ph P 74 b o w (Bj (hp w b) o) := Dy (by kernel_rfl) b o w
@[simp] theorem XP (b o : Nat) (w : World) : ld P 75 (pt b o) w = Ph P 75 b o w (Bj (hp w b) o) := Dy (by kernel_rfl) b o w
@[simp] theorem XQ (b o : Nat) (w : World) : ld P 77 (pt b o) w = P0 P 77 b o w (Ba w b o 4) := Ei (by kernel_rfl) (by kernel_rfl) b o w
@[simp] theorem XR (b o : Nat) (w : World) : ld P 79 (pt b o) w = Ph P 79 b o w (Bj (hp w b) o) := Dy (by kernel_rfl) b o w
@[simp] theorem XS (b o : Nat) (w : World) : ld P 81 (pt b o) w = P0 P 81 b o w (Ba w b o 1) := Ei (by kernel_rfl) (by kernel_rfl) b o w
@[simp] theorem XT (b o : Nat) (w : World) : ld P 82 (pt b o) w = Ph P 82 b o w (Bj (hp w b) o) := Dy (by kernel_rfl) b o w
@[simp] theorem XU (b o : Nat) (w : World) : ld P 84 (pt b o) w = P0 P 84 b o w (Ba w b o 6) := Ei (by kernel_rfl) (by kernel_rfl) b o w
@[simp] theorem XV (b o : Nat) (w : World) : ld P 86 (pt b o) w = P0 P 86 b o w (Ba w b o 2) := Ei (by kernel_rfl) (by kernel_rfl) b o w
@[simp] theorem Ys (b o : Nat) (w : World) : ld P 9 (pt b o) w = Ph P 9 b o w (Bj (hp w b) o) := Dy (by kernel_rfl) b o w
@[simp] theorem Xb (b o : Nat) (v : Value) (w : World) : st P 119 (pt b o) v w = GL P 119 3 b o v w (hp w b) := Ct (by kernel_rfl) b o v w
@[simp] theorem Xc (b o : Nat) (v : Value) (w : World) : st P 129 (pt b o) v w = GL P 129 5 b o v w (hp w b) := Ct (by kernel_rfl) b o v w
@[simp] theorem Xd (b o : Nat) (v : Value) (w : World) : st P 131 (pt b o) v w = GL P 131 9 b o v w (hp w b) := Ct (by kernel_rfl) b o v w
@[simp] theorem Xe (b o : Nat) (v : Value) (w : World) : st P 137 (pt b o) v w = GL P 137 6 b o v w (hp w b) := Ct (by kernel_rfl) b o v w
@[simp] theorem XW (b o : Nat) (v : Value) (w : World) : st P 23 (pt b o) v w = GL P 23 1 b o v w (hp w b) := Ct (by kernel_rfl) b o v w
@[simp] theorem Yt (b o : Nat) (v : Value) (w : World) : st P 3 (pt b o) v w = GL P 3 1 b o v w (hp w b) := Ct (by kernel_rfl) b o v w
@[simp] theorem XX (b o : Nat) (v : Value) (w : World) : st P 30 (pt b o) v w = GL P 30 1 b o v w (hp w b) := Ct (by kernel_rfl) b o v w
@[simp] theorem XY (b o : Nat) (v : Value) (w : World) : st P 32 (pt b o) v w = GL P 32 1 b o v w (hp w b) := Ct (by kernel_rfl) b o v w
@[simp] theorem XZ (b o : Nat) (v : Value) (w : World) : st P 36 (pt b o) v w = GL P 36 2 b o v w (hp w b) := Ct (by kernel_rfl) b o v w
@[simp] theorem X0 (b o : Nat) (v : Value) (w : World) : st P 38 (pt b o) v w = GL P 38 5 b o v w (hp w b) := Ct (by kernel_rfl) b o v w
@[simp] theorem Yu (b o : Nat) (v : Value) (w : World) : st P 4 (pt b o) v w = GL P 4 1 b o v w (hp w b) := Ct (by kernel_rfl) b o v w
@[simp] theorem Ya (b o : Nat) (v : Value) (w : World) : st P 42 (pt b o) v w = GL P 42 1 b o v w (hp w b) := Ct (by kernel_rfl) b o v w
@[simp] theorem Yb (b o : Nat) (v : Value) (w : World) : st P 44 (pt b o) v w = GL P 44 1 b o v w (hp w b) := Ct (by kernel_rfl) b o v w
@[simp] theorem Yc (b o : Nat) (v : Value) (w : World) : st P 49 (pt b o) v w = GL P 49 6 b o v w (hp w b) := Ct (by kernel_rfl) b o v w
@[simp] theorem Yd (b o : Nat) (v : Value) (w : World) : st P 73 (pt b o) v w = GL P 73 1 b o v w (hp w b) := Ct (by kernel_rfl) b o v w
@[simp] theorem Ye (b o : Nat) (v : Value) (w : World) : st P 74 (pt b o) v w = GL P 74 1 b o v w (hp w b) := Ct (by kernel_rfl) b o v w
@[simp] theorem Yf (b o : Nat) (v : Value) (w : World) : st P 75 (pt b o) v w = GL P 75 1 b o v w (hp w b) := Ct (by kernel_rfl) b o v w
@[simp] theorem Yh (b o : Nat) (v : Value) (w : World) : st P 77 (pt b o) v w = GL P 77 4 b o v w (hp w b) := Ct (by kernel_rfl) b o v w
@[simp] theorem Yi (b o : Nat) (v : Value) (w : World) : st P 79 (pt b o) v w = GL P 79 1 b o v w (hp w b) := Ct (by kernel_rfl) b o v w
@[simp] theorem Yj (b o : Nat) (v : Value) (w : World) : st P 81 (pt b o) v w = GL P 81 1 b o v w (hp w b) := Ct (by kernel_rfl) b o v w
@[simp] theorem Yk (b o : Nat) (v : Value) (w : World) : st P 82 (pt b o) v w = GL P 82 1 b o v w (hp w b) := Ct (by kernel_rfl) b o v w
@[simp] theorem Yl (b o : Nat) (v : Value) (w : World) : st P 84 (pt b o) v w = GL P 84 6 b o v w (hp w b) := Ct (by kernel_rfl) b o v w
@[simp] theorem Ym (b o : Nat) (v : Value) (w : World) : st P 86 (pt b o) v w = GL P 86 2 b o v w (hp w b) := Ct (by kernel_rfl) b o v w
theorem QB : Cj P 38 = some [(.int .i64 0), (.int .i64 0), (.int .i64 0), (.int .i64 0), (.int .i64 0)] := by kernel_rfl
theorem Gf : Cj P 36 = some [(.int .i64 0), (.int .i64 0)] := by kernel_rfl
theorem FC : Cj P 49 = some [(.int .i64 0), (.int .i64 0), (.int .i64 0), (Go.Value.slice none 0 0), (Go.Value.string { data := #[] }), (.bool false)] := by kernel_rfl
theorem Se : Cj P 32 = some [(Go.Value.slice none 0 0)] := by kernel_rfl
theorem TU : Cj P 84 = some [(.int .i64 0), (.int .i64 0), (Go.Value.slice none 0 0), (Go.Value.slice none 0 0), (Go.Value.slice none 0 0), (.bool false)] := by kernel_rfl
theorem Sg : Cj P 129 = some [(.int .i64 0), (Go.Value.slice none 0 0), (.int .i64 0), (.int .i64 0), (.int .i64 0)] := by kernel_rfl
theorem Oz : Cj P 131 = some [(.int .i64 0), (.int .i64 0), (.int .i64 0), (.int .i64 0), (.int .i64 0), (.int .i64 0), (Go.Value.slice none 0 0), (Go.Value.string { data := #[] }), (.bool false)] := by kernel_rfl
theorem Pg : Cj P 86 = some [(Go.Value.slice none 0 0), (Go.Value.slice none 0 0)] := by kernel_rfl
theorem Sh : Cj P 42 = some [(Go.Value.slice none 0 0)] := by kernel_rfl
theorem Si : Cj P 137 = some [(.int .i64 0), (.int .i64 0), (.int .i64 0), (.int .i64 0), (Go.Value.string { data := #[] }), (.bool false)] := by kernel_rfl
@[simp] theorem Tu (n1 : Int) (n2 : Int) (a3 : Option Addr) (l3 c3 : Nat) (w : World) : bd P 119 #[(0, (.int .i64 n1)), (1, (.int .i64 n2)), (2, (.agg #[.slice a3 l3 c3]))] w = some (.agg #[.int .i64 n1, .int .i64 n2, .slice a3 l3 c3], w) := Ck (by kernel_rfl)
@[simp] theorem Uo (n1 : Int) (a2 : Option Addr) (l2 c2 : Nat) (w : World) : bd P 129 #[(0, (.int .i64 n1)), (1, (.agg #[.slice a2 l2 c2]))] w = some (.agg #[.int .i64 n1, .slice a2 l2 c2, (.int .i64 0), (.int .i64 0), (.int .i64 0)], w) := Ck (by kernel_rfl)
@[simp] theorem Sj (n1 : Int) (n2 : Int) (n3 : Int) (n4 : Int) (n5 : Int) (n6 : Int) (a7 : Option Addr) (l7 c7 : Nat) (s8 : ByteArray) (b9 : Bool) (w : World) : bd P 131 #[(0, (.int .i64 n1)), (1, (.int .i64 n2)), (2, (.int .i64 n3)), (3, (.agg #[.int .i64 n4, .int .i64 n5, .int .i64 n6, .slice a7 l7 c7, .string s8, .bool b9]))] w = some (.agg #[.int .i64 n1, .int .i64 n2, .int .i64 n3, .int .i64 n4, .int .i64 n5, .int .i64 n6, .slice a7 l7 c7, .string s8, .bool b9], w) := Ck (by kernel_rfl)
@[simp] theorem Up (n1 : Int) (n2 : Int) (w : World) : bd P 137 #[(0, (.int .i64 n1)), (1, (.int .i64 n2))] w = some (.agg #[.int .i64 n1, .int .i64 n2, (.int .i64 0), (.int .i64 0), (Go.Value.string { data := #[] }), (.bool false)], w) := Ck (by kernel_rfl)
@[simp] theorem Tv (n1 : Int) (n2 : Int) (n3 : Int) (w : World) : bd P 137 #[(0, (.int .i64 n1)), (1, (.int .i64 n2)), (2, (.int .i64 n3))] w = some (.agg #[.int .i64 n1, .int .i64 n2, .int .i64 n3, (.int .i64 0), (Go.Value.string { data := #[] }), (.bool false)], w) := Ck (by kernel_rfl)
@[simp] theorem Sk (n1 : Int) (n2 : Int) (n3 : Int) (n4 : Int) (w : World) : bd P 137 #[(0, (.int .i64 n1)), (1, (.int .i64 n2)), (2, (.int .i64 n3)), (3, (.int .i64 n4))] w = some (.agg #[.int .i64 n1, .int .i64 n2, .int .i64 n3, .int .i64 n4, (Go.Value.string { data := #[] }), (.bool false)], w) := Ck (by kernel_rfl)
@[simp] theorem Sm (n1 : Int) (n2 : Int) (n3 : Int) (s4 : ByteArray) (w : World) : bd P 137 #[(0, (.int .i64 n1)), (1, (.int .i64 n2)), (3, (.int .i64 n3)), (4, (.string s4))] w = some (.agg #[.int .i64 n1, .int .i64 n2, (.int .i64 0), .int .i64 n3, .string s4, (.bool false)], w) := Ck (by kernel_rfl)
@[simp] theorem Sn (n1 : Int) (n2 : Int) (n3 : Int) (b4 : Bool) (w : World) : bd P 137 #[(0, (.int .i64 n1)), (1, (.int .i64 n2)), (3, (.int .i64 n3)), (5, (.bool b4))] w = some (.agg #[.int .i64 n1, .int .i64 n2, (.int .i64 0), .int .i64 n3, (Go.Value.string { data := #[] }), .bool b4], w) := Ck (by kernel_rfl)
@[simp] theorem Xf  (w : World) : bd P 32 #[] w = some (.agg #[(Go.Value.slice none 0 0)], w) := Ck (by kernel_rfl)
@[simp] theorem WA (a1 : Option Addr) (l1 c1 : Nat) (w : World) : bd P 32 #[(0, (.slice a1 l1 c1))] w = some (.agg #[.slice a1 l1 c1], w) := Ck (by kernel_rfl)
@[simp] theorem Xg  (w : World) : bd P 36 #[] w = some (.agg #[(.int .i64 0), (.int .i64 0)], w) := Ck (by kernel_rfl)
@[simp] theorem U0 (n1 : Int) (n2 : Int) (w : World) : bd P 36 #[(0, (.int .i64 n1)), (1, (.int .i64 n2))] w = some (.agg #[.int .i64 n1, .int .i64 n2], w) := Ck (by kernel_rfl)
@[simp] theorem Ta (n1 : Int) (n2 : Int) (n3 : Int) (n4 : Int) (n5 : Int) (w : World) : bd P 38 #[(0, (.int .i64 n1)), (1, (.int .i64 n2)), (2, (.int .i64 n3)), (3, (.agg #[.int .i64 n4, .int .i64 n5]))] w = some (.agg #[.int .i64 n1, .int .i64 n2, .int .i64 n3, .int .i64 n4, .int .i64 n5], w) := Ck (by kernel_rfl)
@[simp] theorem Xh  (w : World) : bd P 44 #[] w = some (.agg #[(Go.Value.slice none 0 0)], w) := Ck (by kernel_rfl)
@[simp] theorem WB (a1 : Option Addr) (l1 c1 : Nat) (w : World) : bd P 44 #[(0, (.slice a1 l1 c1))] w = some (.agg #[.slice a1 l1 c1], w) := Ck (by kernel_rfl)
@[simp] theorem Rp (n1 : Int) (n2 : Int) (n3 : Int) (a4 : Option Addr) (l4 c4 : Nat) (s5 : ByteArray) (b6 : Bool) (w : World) : bd P 49 #[(0, (.int .i64 n1)), (1, (.agg #[.int .i64 n2, .int .i64 n3])), (2, (.agg #[.slice a4 l4 c4])), (3, (.string s5)), (4, (.bool b6))] w = some (.agg #[.int .i64 n1, .int .i64 n2, .int .i64 n3, .slice a4 l4 c4, .string s5, .bool b6], w) := Ck (by kernel_rfl)
@[simp] theorem WC (m1 : Option Nat) (w : World) : bd P 69 #[(1, (.map m1))] w = some (.agg #[(Go.Value.slice none 0 0), (Go.Value.slice none 0 0), (Go.Value.slice none 0 0), (Go.Value.slice none 0 0), .map m1], w) := Ck (by kernel_rfl)
@[simp] theorem Xi  (w : World) : bd P 77 #[] w = some (.agg #[(Go.Value.slice none 0 0), (Go.Value.slice none 0 0), (Go.Value.slice none 0 0), (Go.Value.slice none 0 0)], w) := Ck (by kernel_rfl)
@[simp] theorem WD (a1 : Option Addr) (l1 c1 : Nat) (w : World) : bd P 77 #[(3, (.slice a1 l1 c1))] w = some (.agg #[(Go.Value.slice none 0 0), (Go.Value.slice none 0 0), (Go.Value.slice none 0 0), .slice a1 l1 c1], w) := Ck (by kernel_rfl)
@[simp] theorem Xj  (w : World) : bd P 81 #[] w = some (.agg #[(Go.Value.slice none 0 0)], w) := Ck (by kernel_rfl)
@[simp] theorem Rq (n1 : Int) (n2 : Int) (b3 : Bool) (a4 : Option Addr) (l4 c4 : Nat) (a5 : Option Addr) (l5 c5 : Nat) (w : World) : bd P 84 #[(0, (.int .i64 n1)), (1, (.int .i64 n2)), (5, (.bool b3)), (2, (.agg #[.slice a4 l4 c4])), (3, (.slice a5 l5 c5))] w = some (.agg #[.int .i64 n1, .int .i64 n2, .slice a4 l4 c4, .slice a5 l5 c5, (Go.Value.slice none 0 0), .bool b3], w) := Ck (by kernel_rfl)
@[simp] theorem TV (n1 : Int) (a2 : Option Addr) (l2 c2 : Nat) (a3 : Option Addr) (l3 c3 : Nat) (w : World) : bd P 84 #[(0, (.int .i64 n1)), (2, (.agg #[.slice a2 l2 c2])), (4, (.slice a3 l3 c3))] w = some (.agg #[.int .i64 n1, (.int .i64 0), .slice a2 l2 c2, (Go.Value.slice none 0 0), .slice a3 l3 c3, (.bool false)], w) := Ck (by kernel_rfl)
@[simp] theorem WE (a1 : Option Addr) (l1 c1 : Nat) (w : World) : bd P 86 #[(0, (.agg #[.slice a1 l1 c1]))] w = some (.agg #[.slice a1 l1 c1, (Go.Value.slice none 0 0)], w) := Ck (by kernel_rfl)
@[simp] theorem WG (a1 : Option Addr) (l1 c1 : Nat) (w : World) : bd P 93 #[(0, (.slice a1 l1 c1))] w = some (.agg #[.slice a1 l1 c1, (.int .i64 0)], w) := Ck (by kernel_rfl)
@[simp] theorem WH (w : World) : bs P 23 0 #[] w = some (.slice (some ⟨w.heap.size, 0, none⟩) 0 0, w.alloc (.cells #[] 38)) := Gx (n := 5) (by kernel_rfl) (by kernel_rfl) w
@[simp] theorem U4 (n1 : Int) (n2 : Int) (n3 : Int) (n4 : Int) (n5 : Int) (w : World) : bs P 23 1 #[(0, (.agg #[.int .i64 n1, .int .i64 n2, .int .i64 n3, .int .i64 n4, .int .i64 n5]))] w = some (.slice (some ⟨w.heap.size, 0, none⟩) 1 1, w.alloc (.cells #[.int .i64 n1, .int .i64 n2, .int .i64 n3, .int .i64 n4, .int .i64 n5] 38)) := EU (by kernel_rfl)
@[simp] theorem WI (w : World) : bs P 30 0 #[] w = some (.slice (some ⟨w.heap.size, 0, none⟩) 0 0, w.alloc (.cells #[] 36)) := Gx (n := 2) (by kernel_rfl) (by kernel_rfl) w
@[simp] theorem U5 (n1 : Int) (n2 : Int) (w : World) : bs P 30 1 #[(0, (.agg #[.int .i64 n1, .int .i64 n2]))] w = some (.slice (some ⟨w.heap.size, 0, none⟩) 1 1, w.alloc (.cells #[.int .i64 n1, .int .i64 n2] 36)) := EU (by kernel_rfl)
@[simp] theorem WJ (w : World) : bs P 42 0 #[] w = some (.slice (some ⟨w.heap.size, 0, none⟩) 0 0, w.alloc (.cells #[] 49)) := Gx (n := 6) (by kernel_rfl) (by kernel_rfl) w
@[simp] theorem U6 (n1 : Int) (n2 : Int) (n3 : Int) (a4 : Option Addr) (l4 c4 : Nat) (s5 : ByteArray) (b6 : Bool) (w : World) : bs P 42 1 #[(0, (.agg #[.int .i64 n1, .int .i64 n2, .int .i64 n3, .slice a4 l4 c4, .string s5, .bool b6]))] w = some (.slice (some ⟨w.heap.size, 0, none⟩) 1 1, w.alloc (.cells #[.int .i64 n1, .int .i64 n2, .int .i64 n3, .slice a4 l4 c4, .string s5, .bool b6] 49)) := EU (by kernel_rfl)
@[simp] theorem WK (w : World) : bs P 58 0 #[] w = some (.slice (some ⟨w.heap.size, 0, none⟩) 0 0, w.alloc (.cells #[] 32)) := Gx (n := 1) (by kernel_rfl) (by kernel_rfl) w
@[simp] theorem U7 (a1 : Option Addr) (l1 c1 : Nat) (w : World) : bs P 58 1 #[(0, (.agg #[.slice a1 l1 c1]))] w = some (.slice (some ⟨w.heap.size, 0, none⟩) 1 1, w.alloc (.cells #[.slice a1 l1 c1] 32)) := EU (by kernel_rfl)
@[simp] theorem TW (n1 : Int) (n2 : Int) (w : World) : bs P 64 2 #[(0, (.int .i64 n1)), (1, (.int .i64 n2))] w = some (.slice (some ⟨w.heap.size, 0, none⟩) 2 2, w.alloc (.cells #[.int .i64 n1, .int .i64 n2] 3)) := EU (by kernel_rfl)
@[simp] theorem Rr (n1 : Int) (n2 : Int) (n3 : Int) (n4 : Int) (w : World) : bs P 64 4 #[(0, (.int .i64 n1)), (1, (.int .i64 n2)), (2, (.int .i64 n3)), (3, (.int .i64 n4))] w = some (.slice (some ⟨w.heap.size, 0, none⟩) 4 4, w.alloc (.cells #[.int .i64 n1, .int .i64 n2, .int .i64 n3, .int .i64 n4] 3)) := EU (by kernel_rfl)
@[simp] theorem PI (n1 : Int) (n2 : Int) (n3 : Int) (n4 : Int) (n5 : Int) (n6 : Int) (w : World) : bs P 64 6 #[(0, (.int .i64 n1)), (1, (.int .i64 n2)), (2, (.int .i64 n3)), (3, (.int .i64 n4)), (4, (.int .i64 n5)), (5, (.int .i64 n6))] w = some (.slice (some ⟨w.heap.size, 0, none⟩) 6 6, w.alloc (.cells #[.int .i64 n1, .int .i64 n2, .int .i64 n3, .int .i64 n4, .int .i64 n5, .int .i64 n6] 3)) := EU (by kernel_rfl)
@[simp] theorem OL (n1 : Int) (n2 : Int) (n3 : Int) (n4 : Int) (n5 : Int) (n6 : Int) (n7 : Int) (w : World) : bs P 64 7 #[(0, (.int .i64 n1)), (1, (.int .i64 n2)), (2, (.int .i64 n3)), (3, (.int .i64 n4)), (4, (.int .i64 n5)), (5, (.int .i64 n6)), (6, (.int .i64 n7))] w = some (.slice (some ⟨w.heap.size, 0, none⟩) 7 7, w.alloc (.cells #[.int .i64 n1, .int .i64 n2, .int .i64 n3, .int .i64 n4, .int .i64 n5, .int .i64 n6, .int .i64 n7] 3)) := EU (by kernel_rfl)
@[simp] theorem U8 (n1 : Int) (n2 : Int) (a3 : Option Addr) (l3 c3 : Nat) (a4 : Option Addr) (l4 c4 : Nat) (a5 : Option Addr) (l5 c5 : Nat) (b6 : Bool) (w : World) : bs P 73 1 #[(0, (.agg #[.int .i64 n1, .int .i64 n2, .slice a3 l3 c3, .slice a4 l4 c4, .slice a5 l5 c5, .bool b6]))] w = some (.slice (some ⟨w.heap.size, 0, none⟩) 1 1, w.alloc (.cells #[.int .i64 n1, .int .i64 n2, .slice a3 l3 c3, .slice a4 l4 c4, .slice a5 l5 c5, .bool b6] 84)) := EU (by kernel_rfl)
@[simp] theorem U9 (n1 : Int) (a2 : Option Addr) (l2 c2 : Nat) (n3 : Int) (n4 : Int) (n5 : Int) (w : World) : bs P 74 1 #[(0, (.agg #[.int .i64 n1, .slice a2 l2 c2, .int .i64 n3, .int .i64 n4, .int .i64 n5]))] w = some (.slice (some ⟨w.heap.size, 0, none⟩) 1 1, w.alloc (.cells #[.int .i64 n1, .slice a2 l2 c2, .int .i64 n3, .int .i64 n4, .int .i64 n5] 129)) := EU (by kernel_rfl)
@[simp] theorem WL (w : World) : bs P 75 0 #[] w = some (.slice (some ⟨w.heap.size, 0, none⟩) 0 0, w.alloc (.cells #[] 131)) := Gx (n := 9) (by kernel_rfl) (by kernel_rfl) w
@[simp] theorem Va (n1 : Int) (n2 : Int) (n3 : Int) (n4 : Int) (n5 : Int) (n6 : Int) (a7 : Option Addr) (l7 c7 : Nat) (s8 : ByteArray) (b9 : Bool) (w : World) : bs P 75 1 #[(0, (.agg #[.int .i64 n1, .int .i64 n2, .int .i64 n3, .int .i64 n4, .int .i64 n5, .int .i64 n6, .slice a7 l7 c7, .string s8, .bool b9]))] w = some (.slice (some ⟨w.heap.size, 0, none⟩) 1 1, w.alloc (.cells #[.int .i64 n1, .int .i64 n2, .int .i64 n3, .int .i64 n4, .int .i64 n5, .int .i64 n6, .slice a7 l7 c7, .string s8, .bool b9] 131)) := EU (by kernel_rfl)
@[simp] theorem WM (w : World) : bs P 79 0 #[] w = some (.slice (some ⟨w.heap.size, 0, none⟩) 0 0, w.alloc (.cells #[] 86)) := Gx (n := 2) (by kernel_rfl) (by kernel_rfl) w
@[simp] theorem Vb (a1 : Option Addr) (l1 c1 : Nat) (a2 : Option Addr) (l2 c2 : Nat) (w : World) : bs P 79 1 #[(0, (.agg #[.slice a1 l1 c1, .slice a2 l2 c2]))] w = some (.slice (some ⟨w.heap.size, 0, none⟩) 1 1, w.alloc (.cells #[.slice a1 l1 c1, .slice a2 l2 c2] 86)) := EU (by kernel_rfl)
@[simp] theorem Vc (a1 : Option Addr) (l1 c1 : Nat) (w : World) : bs P 82 1 #[(0, (.slice a1 l1 c1))] w = some (.slice (some ⟨w.heap.size, 0, none⟩) 1 1, w.alloc (.cells #[.slice a1 l1 c1] 42)) := EU (by kernel_rfl)
@[simp] theorem VB (w : World) : bs P 109 0 #[] w = some (.slice (some ⟨w.heap.size, 0, none⟩) 0 0, w.alloc (.cells #[] 137)) := Gx (n := 6) (by kernel_rfl) (by kernel_rfl) w
@[simp] theorem Uq (n1 : Int) (n2 : Int) (n3 : Int) (n4 : Int) (s5 : ByteArray) (b6 : Bool) (w : World) : bs P 109 1 #[(0, (.agg #[.int .i64 n1, .int .i64 n2, .int .i64 n3, .int .i64 n4, .string s5, .bool b6]))] w = some (.slice (some ⟨w.heap.size, 0, none⟩) 1 1, w.alloc (.cells #[.int .i64 n1, .int .i64 n2, .int .i64 n3, .int .i64 n4, .string s5, .bool b6] 137)) := EU (by kernel_rfl)
@[simp] theorem Nq (s1 : ByteArray) (s2 : ByteArray) (s3 : ByteArray) (s4 : ByteArray) (s5 : ByteArray) (s6 : ByteArray) (s7 : ByteArray) (s8 : ByteArray) (w : World) : bs P 140 8 #[(0, (.string s1)), (1, (.string s2)), (2, (.string s3)), (3, (.string s4)), (4, (.string s5)), (5, (.string s6)), (6, (.string s7)), (7, (.string s8))] w = some (.slice (some ⟨w.heap.size, 0, none⟩) 8 8, w.alloc (.cells #[.string s1, .string s2, .string s3, .string s4, .string s5, .string s6, .string s7, .string s8] 9)) := EU (by kernel_rfl)
@[simp] theorem Xk (n : Int) (w : World) : cv P 5 3 (.int .u8 n) w = some (.int .i64 (IntKind.wrap .i64 n), w) := UK (by kernel_rfl) (by kernel_rfl) _ n w
attribute [simp ↓] Xl VF VG SF UE UF UG UH VH UI UJ
attribute [simp] VD Ut Uu Uv Uw Ux Uy Uz UA UB P4 P5 UC UD SA World.size_alloc size_setRow JX Re P7 OD Pl Nt Rf LP P8 VI Ac Bz Sy Sz Ab Aa OB OC P6 Bm Ty SB SC Rc Cb Value.oneCell'
end Go.Proofs.YtjhhommnkaemlaaGreat.X
