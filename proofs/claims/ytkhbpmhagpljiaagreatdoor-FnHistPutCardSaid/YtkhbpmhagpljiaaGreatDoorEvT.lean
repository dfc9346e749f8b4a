/- A part of the proof, without conditions. -/
import Derived.Test.YtkhbpmhagpljiaaGreatDoorProg
import Derived.Test.YtkhbpmhagpljiaaGreatDoorEvI
set_option linter.unusedVariables false
set_option linter.unusedSimpArgs false
set_option linter.deprecated false
namespace Go.Proofs.YtkhbpmhagpljiaaGreatDoor.X
open Go Go.Ev
noncomputable def P : Program := Tryz.prog
theorem plain : Plain P := by
 have h : (P.funcs.toList.all fun fn => fn.body.isNone || fn.name != "runtime.NumGoroutine") = true := by kernel_rfl
 intro fn hf hb
 rw [List.all_eq_true] at h
 have := h fn (Array.mem_toList_iff.2 hf)
 simp only [Option.isNone_iff_eq_none, Bool.or_eq_true, bne_iff_ne, ne_eq] at this
 rcases this with h | h
 ·rw [h] at hb; simp at hb
 ·exact h
theorem mixed : P.follows .mixedOrders = true := by kernel_rfl
end Go.Proofs.YtkhbpmhagpljiaaGreatDoor.X
 -- FELL ('build', 152, (0, 1, 2)) pat other
namespace Go.Proofs.YtkhbpmhagpljiaaGreatDoor.X
open Go Go.Ev
@[simp] theorem XO (w : World) : al P 102 w = some (pt w.heap.size 0, w.alloc (.cells #[(.int .i64 0), (.int .i64 0), (Go.Value.slice none 0 0), (Go.Value.slice none 0 0), (Go.Value.slice none 0 0), (.bool false)] 102)) := F6 (z := [(.int .i64 0), (.int .i64 0), (Go.Value.slice none 0 0), (Go.Value.slice none 0 0), (Go.Value.slice none 0 0), (.bool false)]) (by kernel_rfl) w
@[simp] theorem XP (w : World) : al P 106 w = some (pt w.heap.size 0, w.alloc (.cells #[(Go.Value.slice none 0 0)] 106)) := F6 (z := [(Go.Value.slice none 0 0)]) (by kernel_rfl) w
@[simp] theorem XQ (w : World) : al P 108 w = some (pt w.heap.size 0, w.alloc (.cells #[(.int .i64 0), (Go.Value.slice none 0 0), (.int .i64 0), (.int .i64 0), (.int .i64 0)] 108)) := F6 (z := [(.int .i64 0), (Go.Value.slice none 0 0), (.int .i64 0), (.int .i64 0), (.int .i64 0)]) (by kernel_rfl) w
@[simp] theorem XR (w : World) : al P 110 w = some (pt w.heap.size 0, w.alloc (.cells #[(.int .i64 0), (.int .i64 0), (.int .i64 0), (Go.Value.slice none 0 0), (Go.Value.string { data := #[] }), (.bool false)] 110)) := F6 (z := [(.int .i64 0), (.int .i64 0), (.int .i64 0), (Go.Value.slice none 0 0), (Go.Value.string { data := #[] }), (.bool false)]) (by kernel_rfl) w
@[simp] theorem XS (w : World) : al P 112 w = some (pt w.heap.size 0, w.alloc (.cells #[(.int .i64 0), (.int .i64 0), (.int .i64 0), (.int .i64 0), (.int .i64 0), (.int .i64 0), (Go.Value.slice none 0 0), (Go.Value.string { data := #[] }), (.bool false)] 112)) := F6 (z := [(.int .i64 0), (.int .i64 0), (.int .i64 0), (.int .i64 0), (.int .i64 0), (.int .i64 0), (Go.Value.slice none 0 0), (Go.Value.string { data := #[] }), (.bool false)]) (by kernel_rfl) w
@[simp] theorem XT (w : World) : al P 118 w = some (pt w.heap.size 0, w.alloc (.cells #[(.int .i64 0), (.int .i64 0), (.int .i64 0), (.int .i64 0), (Go.Value.string { data := #[] }), (.bool false)] 118)) := F6 (z := [(.int .i64 0), (.int .i64 0), (.int .i64 0), (.int .i64 0), (Go.Value.string { data := #[] }), (.bool false)]) (by kernel_rfl) w
@[simp] theorem XU (w : World) : al P 119 w = some (pt w.heap.size 0, w.alloc (.cells #[(.int .u8 0), (.int .u8 0), (.int .u8 0), (.int .u8 0), (.int .u8 0), (.int .u8 0), (.int .u8 0), (.int .u8 0), (.int .u8 0), (.int .u8 0), (.int .u8 0), (.int .u8 0), (.int .u8 0), (.int .u8 0), (.int .u8 0), (.int .u8 0), (.int .u8 0), (.int .u8 0), (.int .u8 0), (.int .u8 0), (.int .u8 0), (.int .u8 0), (.int .u8 0), (.int .u8 0)] 119)) := F6 (z := [(.int .u8 0), (.int .u8 0), (.int .u8 0), (.int .u8 0), (.int .u8 0), (.int .u8 0), (.int .u8 0), (.int .u8 0), (.int .u8 0), (.int .u8 0), (.int .u8 0), (.int .u8 0), (.int .u8 0), (.int .u8 0), (.int .u8 0), (.int .u8 0), (.int .u8 0), (.int .u8 0), (.int .u8 0), (.int .u8 0), (.int .u8 0), (.int .u8 0), (.int .u8 0), (.int .u8 0)]) (by kernel_rfl) w
@[simp] theorem XV (w : World) : al P 156 w = some (pt w.heap.size 0, w.alloc (.cells #[(Go.Value.slice none 0 0)] 156)) := F6 (z := [(Go.Value.slice none 0 0)]) (by kernel_rfl) w
@[simp] theorem XW (w : World) : al P 159 w = some (pt w.heap.size 0, w.alloc (.cells #[(Go.Value.slice none 0 0), (Go.Value.slice none 0 0)] 159)) := F6 (z := [(Go.Value.slice none 0 0), (Go.Value.slice none 0 0)]) (by kernel_rfl) w
@[simp] theorem YV (w : World) : al P 37 w = some (pt w.heap.size 0, w.alloc (.cells #[(Go.Value.pointer none), (Go.Value.slice none 0 0)] 37)) := F6 (z := [(Go.Value.pointer none), (Go.Value.slice none 0 0)]) (by kernel_rfl) w
@[simp] theorem YW (w : World) : al P 39 w = some (pt w.heap.size 0, w.alloc (.cells #[(.int .i64 0), (.int .i64 0)] 39)) := F6 (z := [(.int .i64 0), (.int .i64 0)]) (by kernel_rfl) w
@[simp] theorem YX (w : World) : al P 41 w = some (pt w.heap.size 0, w.alloc (.cells #[(.int .i64 0), (.int .i64 0), (.int .i64 0), (.int .i64 0), (.int .i64 0)] 41)) := F6 (z := [(.int .i64 0), (.int .i64 0), (.int .i64 0), (.int .i64 0), (.int .i64 0)]) (by kernel_rfl) w
@[simp] theorem YY (w : World) : al P 67 w = some (pt w.heap.size 0, w.alloc (.cells #[(Go.Value.slice none 0 0), (Go.Value.slice none 0 0), (Go.Value.slice none 0 0), (Go.Value.slice none 0 0)] 67)) := F6 (z := [(Go.Value.slice none 0 0), (Go.Value.slice none 0 0), (Go.Value.slice none 0 0), (Go.Value.slice none 0 0)]) (by kernel_rfl) w
@[simp] theorem YZ (w : World) : al P 98 w = some (pt w.heap.size 0, w.alloc (.cells #[(Go.Value.slice none 0 0)] 98)) := F6 (z := [(Go.Value.slice none 0 0)]) (by kernel_rfl) w
@[simp] theorem Xj (a : Option Addr) (n c : Nat) (w : World) : Au P #[100] 3 #[.slice a n c] w = some (i64 n, w) := Ce (e := 99) (s := (1, 24)) (by kernel_rfl) a n c w
@[simp] theorem XX (a : Option Addr) (n c : Nat) (w : World) : Au P #[22] 3 #[.slice a n c] w = some (i64 n, w) := Ce (e := 5) (s := (1, 1)) (by kernel_rfl) a n c w
@[simp] theorem XY (a : Option Addr) (n c : Nat) (w : World) : Au P #[23] 3 #[.slice a n c] w = some (i64 n, w) := Ce (e := 41) (s := (5, 40)) (by kernel_rfl) a n c w
@[simp] theorem XZ (a : Option Addr) (n c : Nat) (w : World) : Au P #[47] 3 #[.slice a n c] w = some (i64 n, w) := Ce (e := 9) (s := (1, 16)) (by kernel_rfl) a n c w
@[simp] theorem Ya (a : Option Addr) (n c : Nat) (w : World) : Au P #[63] 3 #[.slice a n c] w = some (i64 n, w) := Ce (e := 102) (s := (6, 96)) (by kernel_rfl) a n c w
@[simp] theorem Yb (a : Option Addr) (n c : Nat) (w : World) : Au P #[64] 3 #[.slice a n c] w = some (i64 n, w) := Ce (e := 108) (s := (5, 56)) (by kernel_rfl) a n c w
@[simp] theorem Yc (a : Option Addr) (n c : Nat) (w : World) : Au P #[65] 3 #[.slice a n c] w = some (i64 n, w) := Ce (e := 112) (s := (9, 96)) (by kernel_rfl) a n c w
@[simp] theorem Yd (a : Option Addr) (n c : Nat) (w : World) : Au P #[81] 3 #[.slice a n c] w = some (i64 n, w) := Ce (e := 118) (s := (6, 56)) (by kernel_rfl) a n c w
@[simp] theorem Ye (a : Option Addr) (n c : Nat) (w : World) : Au P #[87] 3 #[.slice a n c] w = some (i64 n, w) := Ce (e := 3) (s := (1, 8)) (by kernel_rfl) a n c w
@[simp] theorem Y7 (s : ByteArray) (w : World) : Au P #[9] 3 #[.string s] w = some (i64 s.size, w) := Uh (by kernel_rfl) s w
@[simp] theorem Yf (a : Option Addr) (n c : Nat) (w : World) : Au P #[96] 3 #[.slice a n c] w = some (i64 n, w) := Ce (e := 159) (s := (2, 48)) (by kernel_rfl) a n c w
@[simp] theorem Yh (a : Option Addr) (n c : Nat) (w : World) : Au P #[99] 3 #[.slice a n c] w = some (i64 n, w) := Ce (e := 110) (s := (6, 72)) (by kernel_rfl) a n c w
theorem We : (P.fieldsOf 39).toList = [{ name := "Time", type := 3, offset := 0, embedded := false, tag := "", pkgPath := "", byteOffset := 0 }, { name := "Place", type := 3, offset := 1, embedded := false, tag := "", pkgPath := "", byteOffset := 8 }] := by kernel_rfl
@[simp] theorem VS (x y : Operand) (a0 a1 b0 b1 : Int) (w : World) : bo P .eql 39 x y (.agg #[i64 a0, i64 a1]) (.agg #[i64 b0, i64 b1]) w = some (.bool (((a0 == b0) && (a1 == b1))), w) := by
 have hg := run_eqGuard_agg (P := P) w .eql 39 x y #[i64 a0, i64 a1] #[i64 b0, i64 b1] (by kernel_rfl)
 have hs := run_equalIn_struct (P := P) w 9999 39 #[i64 a0, i64 a1] #[i64 b0, i64 b1] (by kernel_rfl) (by kernel_rfl)
 simp only [bo, Sem.run_bind, hg, Result.andThen_ok, run_eql_struct, hs, We]
 exact Rv (by kernel_rfl) (by kernel_rfl) ⟨by simp, by simp, rfl, rfl⟩ _ _ _ _ w
@[simp] theorem Wf (b o : Nat) (w : World) : fa P 102 (pt b o) 0 w = some (pt b (o + 0), w) := Bm (n := 0) (g := some false) (by kernel_rfl) b o w
@[simp] theorem Wg (b o : Nat) (w : World) : fa P 102 (pt b o) 1 w = some (pt b (o + 1), w) := Bm (n := 0) (g := some false) (by kernel_rfl) b o w
@[simp] theorem Wh (b o : Nat) (w : World) : fa P 102 (pt b o) 2 w = some (pt b (o + 2), w) := Bm (n := 0) (g := some true) (by kernel_rfl) b o w
@[simp] theorem Wi (b o : Nat) (w : World) : fa P 102 (pt b o) 3 w = some (pt b (o + 3), w) := Bm (n := 0) (g := some false) (by kernel_rfl) b o w
@[simp] theorem Wj (b o : Nat) (w : World) : fa P 102 (pt b o) 4 w = some (pt b (o + 4), w) := Bm (n := 0) (g := some false) (by kernel_rfl) b o w
@[simp] theorem Wk (b o : Nat) (w : World) : fa P 102 (pt b o) 5 w = some (pt b (o + 5), w) := Bm (n := 0) (g := some false) (by kernel_rfl) b o w
@[simp] theorem Wl (b o : Nat) (w : World) : fa P 106 (pt b o) 0 w = some (pt b (o + 0), w) := Bm (n := 0) (g := some false) (by kernel_rfl) b o w
@[simp] theorem Wm (b o : Nat) (w : World) : fa P 108 (pt b o) 0 w = some (pt b (o + 0), w) := Bm (n := 0) (g := some false) (by kernel_rfl) b o w
@[simp] theorem Wn (b o : Nat) (w : World) : fa P 108 (pt b o) 1 w = some (pt b (o + 1), w) := Bm (n := 0) (g := some true) (by kernel_rfl) b o w
@[simp] theorem Wo (b o : Nat) (w : World) : fa P 108 (pt b o) 2 w = some (pt b (o + 2), w) := Bm (n := 1) (g := some true) (by kernel_rfl) b o w
@[simp] theorem Wp (b o : Nat) (w : World) : fa P 108 (pt b o) 3 w = some (pt b (o + 4), w) := Bm (n := 0) (g := some false) (by kernel_rfl) b o w
@[simp] theorem Wq (b o : Nat) (w : World) : fa P 110 (pt b o) 0 w = some (pt b (o + 0), w) := Bm (n := 0) (g := some false) (by kernel_rfl) b o w
@[simp] theorem Ws (b o : Nat) (w : World) : fa P 110 (pt b o) 1 w = some (pt b (o + 1), w) := Bm (n := 1) (g := some true) (by kernel_rfl) b o w
@[simp] theorem Wt (b o : Nat) (w : World) : fa P 110 (pt b o) 2 w = some (pt b (o + 3), w) := Bm (n := 0) (g := some true) (by kernel_rfl) b o w
@[simp] theorem Wu (b o : Nat) (w : World) : fa P 112 (pt b o) 0 w = some (pt b (o + 0), w) := Bm (n := 0) (g := some false) (by kernel_rfl) b o w
@[simp] theorem Wv (b o : Nat) (w : World) : fa P 112 (pt b o) 1 w = some (pt b (o + 1), w) := Bm (n := 0) (g := some false) (by kernel_rfl) b o w
@[simp] theorem Ww (b o : Nat) (w : World) : fa P 112 (pt b o) 2 w = some (pt b (o + 2), w) := Bm (n := 0) (g := some false) (by kernel_rfl) b o w
@[simp] theorem Wx (b o : Nat) (w : World) : fa P 112 (pt b o) 3 w = some (pt b (o + 3), w) := Bm (n := 5) (g := some true) (by kernel_rfl) b o w
@[simp] theorem Wy (b o : Nat) (w : World) : fa P 118 (pt b o) 0 w = some (pt b (o + 0), w) := Bm (n := 0) (g := some false) (by kernel_rfl) b o w
@[simp] theorem Wz (b o : Nat) (w : World) : fa P 118 (pt b o) 1 w = some (pt b (o + 1), w) := Bm (n := 0) (g := some false) (by kernel_rfl) b o w
@[simp] theorem WA (b o : Nat) (w : World) : fa P 118 (pt b o) 2 w = some (pt b (o + 2), w) := Bm (n := 0) (g := some false) (by kernel_rfl) b o w
@[simp] theorem WB (b o : Nat) (w : World) : fa P 118 (pt b o) 3 w = some (pt b (o + 3), w) := Bm (n := 0) (g := some false) (by kernel_rfl) b o w
@[simp] theorem WC (b o : Nat) (w : World) : fa P 118 (pt b o) 4 w = some (pt b (o + 4), w) := Bm (n := 0) (g := some false) (by kernel_rfl) b o w
@[simp] theorem WD (b o : Nat) (w : World) : fa P 118 (pt b o) 5 w = some (pt b (o + 5), w) := Bm (n := 0) (g := some false) (by kernel_rfl) b o w
@[simp] theorem WE (b o : Nat) (w : World) : fa P 156 (pt b o) 0 w = some (pt b (o + 0), w) := Bm (n := 0) (g := some false) (by kernel_rfl) b o w
@[simp] theorem WG (b o : Nat) (w : World) : fa P 159 (pt b o) 0 w = some (pt b (o + 0), w) := Bm (n := 0) (g := some true) (by kernel_rfl) b o w
@[simp] theorem WH (b o : Nat) (w : World) : fa P 159 (pt b o) 1 w = some (pt b (o + 1), w) := Bm (n := 0) (g := some false) (by kernel_rfl) b o w
@[simp] theorem Xk (b o : Nat) (w : World) : fa P 37 (pt b o) 0 w = some (pt b (o + 0), w) := Bm (n := 0) (g := some false) (by kernel_rfl) b o w
@[simp] theorem Xl (b o : Nat) (w : World) : fa P 37 (pt b o) 1 w = some (pt b (o + 1), w) := Bm (n := 0) (g := some false) (by kernel_rfl) b o w
@[simp] theorem Xm (b o : Nat) (w : World) : fa P 39 (pt b o) 0 w = some (pt b (o + 0), w) := Bm (n := 0) (g := some false) (by kernel_rfl) b o w
@[simp] theorem Xn (b o : Nat) (w : World) : fa P 39 (pt b o) 1 w = some (pt b (o + 1), w) := Bm (n := 0) (g := some false) (by kernel_rfl) b o w
@[simp] theorem Xo (b o : Nat) (w : World) : fa P 41 (pt b o) 0 w = some (pt b (o + 0), w) := Bm (n := 0) (g := some false) (by kernel_rfl) b o w
@[simp] theorem Xp (b o : Nat) (w : World) : fa P 41 (pt b o) 1 w = some (pt b (o + 1), w) := Bm (n := 0) (g := some false) (by kernel_rfl) b o w
@[simp] theorem Xq (b o : Nat) (w : World) : fa P 41 (pt b o) 2 w = some (pt b (o + 2), w) := Bm (n := 0) (g := some false) (by kernel_rfl) b o w
@[simp] theorem Xr (b o : Nat) (w : World) : fa P 41 (pt b o) 3 w = some (pt b (o + 3), w) := Bm (n := 1) (g := some true) (by kernel_rfl) b o w
@[simp] theorem Xs (b o : Nat) (w : World) : fa P 67 (pt b o) 0 w = some (pt b (o + 0), w) := Bm (n := 0) (g := some false) (by kernel_rfl) b o w
@[simp] theorem Xt (b o : Nat) (w : World) : fa P 67 (pt b o) 1 w = some (pt b (o + 1), w) := Bm (n := 0) (g := some false) (by kernel_rfl) b o w
@[simp] theorem Xu (b o : Nat) (w : World) : fa P 67 (pt b o) 2 w = some (pt b (o + 2), w) := Bm (n := 0) (g := some false) (by kernel_rfl) b o w
@[simp] theorem Xv (b o : Nat) (w : World) : fa P 67 (pt b o) 3 w = some (pt b (o + 3), w) := Bm (n := 0) (g := some false) (by kernel_rfl) b o w
@[simp] theorem Xw (b o : Nat) (w : World) : fa P 71 (pt b o) 0 w = some (pt b (o + 0), w) := Bm (n := 0) (g := some false) (by kernel_rfl) b o w
@[simp] theorem Xy (b o : Nat) (w : World) : fa P 71 (pt b o) 1 w = some (pt b (o + 1), w) := Bm (n := 0) (g := some false) (by kernel_rfl) b o w
@[simp] theorem Xz (b o : Nat) (w : World) : fa P 98 (pt b o) 0 w = some (pt b (o + 0), w) := Bm (n := 0) (g := some false) (by kernel_rfl) b o w
theorem Oo : GQ P 100 = some (99, 1, 24) := by kernel_rfl
theorem Gh {b o n c : Nat} {i : Int} (h0 : 0 ≤ i) (h1 : i < n) (w : World) : ia P 100 (.slice (some ⟨b, o, none⟩) n c) (i64 i) w = some (pt b (o + i.toNat * 1), w) := Hh Oo h0 h1 w
theorem Dj : GQ P 104 = some (39, 2, 16) := by kernel_rfl
theorem JT {b o n c : Nat} {i : Int} (h0 : 0 ≤ i) (h1 : i < n) (w : World) : ia P 104 (.slice (some ⟨b, o, none⟩) n c) (i64 i) w = some (pt b (o + i.toNat * 2), w) := Hh Dj h0 h1 w
theorem Sn : GQ P 22 = some (5, 1, 1) := by kernel_rfl
theorem Hd {b o n c : Nat} {i : Int} (h0 : 0 ≤ i) (h1 : i < n) (w : World) : ia P 22 (.slice (some ⟨b, o, none⟩) n c) (i64 i) w = some (pt b (o + i.toNat * 1), w) := Hh Sn h0 h1 w
theorem Kl : GQ P 23 = some (41, 5, 40) := by kernel_rfl
theorem I4 {b o n c : Nat} {i : Int} (h0 : 0 ≤ i) (h1 : i < n) (w : World) : ia P 23 (.slice (some ⟨b, o, none⟩) n c) (i64 i) w = some (pt b (o + i.toNat * 5), w) := Hh Kl h0 h1 w
theorem So : GQ P 47 = some (9, 1, 16) := by kernel_rfl
theorem Km {b o n c : Nat} {i : Int} (h0 : 0 ≤ i) (h1 : i < n) (w : World) : ia P 47 (.slice (some ⟨b, o, none⟩) n c) (i64 i) w = some (pt b (o + i.toNat * 1), w) := Hh So h0 h1 w
theorem Sq : GQ P 63 = some (102, 6, 96) := by kernel_rfl
theorem Dr {b o n c : Nat} {i : Int} (h0 : 0 ≤ i) (h1 : i < n) (w : World) : ia P 63 (.slice (some ⟨b, o, none⟩) n c) (i64 i) w = some (pt b (o + i.toNat * 6), w) := Hh Sq h0 h1 w
theorem Sr : GQ P 64 = some (108, 5, 56) := by kernel_rfl
theorem Eg {b o n c : Nat} {i : Int} (h0 : 0 ≤ i) (h1 : i < n) (w : World) : ia P 64 (.slice (some ⟨b, o, none⟩) n c) (i64 i) w = some (pt b (o + i.toNat * 5), w) := Hh Sr h0 h1 w
theorem NK : GQ P 65 = some (112, 9, 96) := by kernel_rfl
theorem Su {b o n c : Nat} {i : Int} (h0 : 0 ≤ i) (h1 : i < n) (w : World) : ia P 65 (.slice (some ⟨b, o, none⟩) n c) (i64 i) w = some (pt b (o + i.toNat * 9), w) := Hh NK h0 h1 w
theorem Sy : GQ P 81 = some (118, 6, 56) := by kernel_rfl
theorem WI {b o n c : Nat} {i : Int} (h0 : 0 ≤ i) (h1 : i < n) (w : World) : ia P 81 (.slice (some ⟨b, o, none⟩) n c) (i64 i) w = some (pt b (o + i.toNat * 6), w) := Hh Sy h0 h1 w
theorem WJ : GQ P 87 = some (3, 1, 8) := by kernel_rfl
theorem WK {b o n c : Nat} {i : Int} (h0 : 0 ≤ i) (h1 : i < n) (w : World) : ia P 87 (.slice (some ⟨b, o, none⟩) n c) (i64 i) w = some (pt b (o + i.toNat * 1), w) := Hh WJ h0 h1 w
theorem Lt : GQ P 96 = some (159, 2, 48) := by kernel_rfl
theorem CR {b o n c : Nat} {i : Int} (h0 : 0 ≤ i) (h1 : i < n) (w : World) : ia P 96 (.slice (some ⟨b, o, none⟩) n c) (i64 i) w = some (pt b (o + i.toNat * 2), w) := Hh Lt h0 h1 w
theorem Ds : GQ P 99 = some (110, 6, 72) := by kernel_rfl
theorem Cd {b o n c : Nat} {i : Int} (h0 : 0 ≤ i) (h1 : i < n) (w : World) : ia P 99 (.slice (some ⟨b, o, none⟩) n c) (i64 i) w = some (pt b (o + i.toNat * 6), w) := Hh Ds h0 h1 w
@[simp] theorem Yi (b o : Nat) (w : World) : ld P 100 (pt b o) w = OD P 100 b o w (AP (hp w b) o) := CW (by kernel_rfl) b o w
@[simp] theorem Yj (b o : Nat) (w : World) : ld P 102 (pt b o) w = P5 P 102 b o w (Bf w b o 6) := ER (by kernel_rfl) (by kernel_rfl) b o w
@[simp] theorem Yk (b o : Nat) (w : World) : ld P 104 (pt b o) w = OD P 104 b o w (AP (hp w b) o) := CW (by kernel_rfl) b o w
@[simp] theorem Yl (b o : Nat) (w : World) : ld P 106 (pt b o) w = P5 P 106 b o w (Bf w b o 1) := ER (by kernel_rfl) (by kernel_rfl) b o w
@[simp] theorem Ym (b o : Nat) (w : World) : ld P 108 (pt b o) w = P5 P 108 b o w (Bf w b o 5) := ER (by kernel_rfl) (by kernel_rfl) b o w
@[simp] theorem Yn (b o : Nat) (w : World) : ld P 110 (pt b o) w = P5 P 110 b o w (Bf w b o 6) := ER (by kernel_rfl) (by kernel_rfl) b o w
@[simp] theorem Yo (b o : Nat) (w : World) : ld P 112 (pt b o) w = P5 P 112 b o w (Bf w b o 9) := ER (by kernel_rfl) (by kernel_rfl) b o w
@[simp] theorem Yp (b o : Nat) (w : World) : ld P 118 (pt b o) w = P5 P 118 b o w (Bf w b o 6) := ER (by kernel_rfl) (by kernel_rfl) b o w
@[simp] theorem Yq (b o : Nat) (w : World) : ld P 120 (pt b o) w = OD P 120 b o w (AP (hp w b) o) := CW (by kernel_rfl) b o w
@[simp] theorem Yr (b o : Nat) (w : World) : ld P 156 (pt b o) w = P5 P 156 b o w (Bf w b o 1) := ER (by kernel_rfl) (by kernel_rfl) b o w
@[simp] theorem Ys (b o : Nat) (w : World) : ld P 159 (pt b o) w = P5 P 159 b o w (Bf w b o 2) := ER (by kernel_rfl) (by kernel_rfl) b o w
@[simp] theorem Y9 (b o : Nat) (w : World) : ld P 22 (pt b o) w = OD P 22 b o w (AP (hp w b) o) := CW (by kernel_rfl) b o w
@[simp] theorem Za (b o : Nat) (w : World) : ld P 23 (pt b o) w = OD P 23 b o w (AP (hp w b) o) := CW (by kernel_rfl) b o w
@[simp] theorem ZD (b o : Nat) (w : World) : ld P 3 (pt b o) w = OD P 3 b o w (AP (hp w b) o) := CW (by kernel_rfl) b o w
@[simp] theorem Zb (b o : Nat) (w : World) : ld P 35 (pt b o) w = OD P 35 b o w (AP (hp w b) o) := CW (by kernel_rfl) b o w
@[simp] theorem Zc (b o : Nat) (w : World) : ld P 39 (pt b o) w = P5 P 39 b o w (Bf w b o 2) := ER (by kernel_rfl) (by kernel_rfl) b o w
@[simp] theorem ZE (b o : Nat) (w : World) : ld P 4 (pt b o) w = OD P 4 b o w (AP (hp w b) o) := CW (by kernel_rfl) b o w
@[simp] theorem Zd (b o : Nat) (w : World) : ld P 41 (pt b o) w = P5 P 41 b o w (Bf w b o 5) := ER (by kernel_rfl) (by kernel_rfl) b o w
@[simp] theorem Ze (b o : Nat) (w : World) : ld P 43 (pt b o) w = OD P 43 b o w (AP (hp w b) o) := CW (by kernel_rfl) b o w
@[simp] theorem ZF (b o : Nat) (w : World) : ld P 5 (pt b o) w = OD P 5 b o w (AP (hp w b) o) := CW (by kernel_rfl) b o w
@[simp] theorem Zf (b o : Nat) (w : World) : ld P 63 (pt b o) w = OD P 63 b o w (AP (hp w b) o) := CW (by kernel_rfl) b o w
@[simp] theorem Zg (b o : Nat) (w : World) : ld P 64 (pt b o) w = OD P 64 b o w (AP (hp w b) o) := CW (by kernel_rfl) b o w
@[simp] theorem Zh (b o : Nat) (w : World) : ld P 65 (pt b o) w = OD P 65 b o w (AP (hp w b) o) := CW (by kernel_rfl) b o w
@[simp] theorem Zi (b o : Nat) (w : World) : ld P 67 (pt b o) w = P5 P 67 b o w (Bf w b o 4) := ER (by kernel_rfl) (by kernel_rfl) b o w
@[simp] theorem ZG (b o : Nat) (w : World) : ld P 9 (pt b o) w = OD P 9 b o w (AP (hp w b) o) := CW (by kernel_rfl) b o w
@[simp] theorem Zj (b o : Nat) (w : World) : ld P 96 (pt b o) w = OD P 96 b o w (AP (hp w b) o) := CW (by kernel_rfl) b o w
@[simp] theorem Zk (b o : Nat) (w : World) : ld P 98 (pt b o) w = P5 P 98 b o w (Bf w b o 1) := ER (by kernel_rfl) (by kernel_rfl) b o w
@[simp] theorem Zl (b o : Nat) (w : World) : ld P 99 (pt b o) w = OD P 99 b o w (AP (hp w b) o) := CW (by kernel_rfl) b o w
@[simp] theorem Yt (b o : Nat) (v : Value) (w : World) : st P 100 (pt b o) v w = Hi P 100 1 b o v w (hp w b) := Cj (by kernel_rfl) b o v w
@[simp] theorem Yu (b o : Nat) (v : Value) (w : World) : st P 102 (pt b o) v w = Hi P 102 6 b o v w (hp w b) := Cj (by kernel_rfl) b o v w
@[simp] theorem Yv (b o : Nat) (v : Value) (w : World) : st P 104 (pt b o) v w = Hi P 104 1 b o v w (hp w b) := Cj (by kernel_rfl) b o v w
@[simp] theorem Yw (b o : Nat) (v : Value) (w : World) : st P 106 (pt b o) v w = Hi P 106 1 b o v w (hp w b) := Cj (by kernel_rfl) b o v w
@[simp] theorem Yx (b o : Nat) (v : Value) (w : World) : st P 108 (pt b o) v w = Hi P 108 5 b o v w (hp w b) := Cj (by kernel_rfl) b o v w
@[simp] theorem Yy (b o : Nat) (v : Value) (w : World) : st P 110 (pt b o) v w = Hi P 110 6 b o v w (hp w b) := Cj (by kernel_rfl) b o v w
@[simp] theorem Yz (b o : Nat) (v : Value) (w : World) : st P 112 (pt b o) v w = Hi P 112 9 b o v w (hp w b) := Cj (by kernel_rfl) b o v w
@[simp] theorem YA (b o : Nat) (v : Value) (w : World) : st P 118 (pt b o) v w = Hi P 118 6 b o v w (hp w b) := Cj (by kernel_rfl) b o v w
@[simp] theorem YB (b o : Nat) (v : Value) (w : World) : st P 156 (pt b o) v w = Hi P 156 1 b o v w (hp w b) := Cj (by kernel_rfl) b o v w
@[simp] theorem YC (b o : Nat) (v : Value) (w : World) : st P 159 (pt b o) v w = Hi P 159 2 b o v w (hp w b) := Cj (by kernel_rfl) b o v w
@[simp] theorem Zm (b o : Nat) (v : Value) (w : World) : st P 22 (pt b o) v w = Hi P 22 1 b o v w (hp w b) := Cj (by kernel_rfl) b o v w
@[simp] theorem Zn (b o : Nat) (v : Value) (w : World) : st P 23 (pt b o) v w = Hi P 23 1 b o v w (hp w b) := Cj (by kernel_rfl) b o v w
@[simp] theorem ZH (b o : Nat) (v : Value) (w : World) : st P 3 (pt b o) v w = Hi P 3 1 b o v w (hp w b) := Cj (by kernel_rfl) b o v w
@[simp] theorem Zo (b o : Nat) (v : Value) (w : World) : st P 35 (pt b o) v w = Hi P 35 1 b o v w (hp w b) := Cj (by kernel_rfl) b o v w
@[simp] theorem Zp (b o : Nat) (v : Value) (w : World) : st P 39 (pt b o) v w = Hi P 39 2 b o v w (hp w b) := Cj (by kernel_rfl) b o v w
@[simp] theorem ZI (b o : Nat) (v : Value) (w : World) : st P 4 (pt b o) v w = Hi P 4 1 b o v w (hp w b) := Cj (by kernel_rfl) b o v w
@[simp] theorem Zq (b o : Nat) (v : Value) (w : World) : st P 41 (pt b o) v w = Hi P 41 5 b o v w (hp w b) := Cj (by kernel_rfl) b o v w
@[simp] theorem ZJ (b o : Nat) (v : Value) (w : World) : st P 5 (pt b o) v w = Hi P 5 1 b o v w (hp w b) := Cj (by kernel_rfl) b o v w
@[simp] theorem Zr (b o : Nat) (v : Value) (w : World) : st P 63 (pt b o) v w = Hi P 63 1 b o v w (hp w b) := Cj (by kernel_rfl) b o v w
@[simp] theorem Zs (b o : Nat) (v : Value) (w : World) : st P 64 (pt b o) v w = Hi P 64 1 b o v w (hp w b) := Cj (by kernel_rfl) b o v w
@[simp] theorem Zt (b o : Nat) (v : Value) (w : World) : st P 65 (pt b o) v w = Hi P 65 1 b o v w (hp w b) := Cj (by kernel_rfl) b o v w
@[simp] theorem Zu (b o : Nat) (v : Value) (w : World) : st P 67 (pt b o) v w = Hi P 67 4 b o v w (hp w b) := Cj (by kernel_rfl) b o v w
@[simp] theorem ZK (b o : Nat) (v : Value) (w : World) : st P 9 (pt b o) v w = Hi P 9 1 b o v w (hp w b) := Cj (by kernel_rfl) b o v w
@[simp] theorem Zv (b o : Nat) (v : Value) (w : World) : st P 96 (pt b o) v w = Hi P 96 1 b o v w (hp w b) := Cj (by kernel_rfl) b o v w
@[simp] theorem Zw (b o : Nat) (v : Value) (w : World) : st P 98 (pt b o) v w = Hi P 98 1 b o v w (hp w b) := Cj (by kernel_rfl) b o v w
@[simp] theorem Zx (b o : Nat) (v : Value) (w : World) : st P 99 (pt b o) v w = Hi P 99 1 b o v w (hp w b) := Cj (by kernel_rfl) b o v w
theorem YD : CI P 5 = some [(.int .u8 0)] := by kernel_rfl
theorem OZ : CI P 41 = some [(.int .i64 0), (.int .i64 0), (.int .i64 0), (.int .i64 0), (.int .i64 0)] := by kernel_rfl
theorem YE : CI P 9 = some [(Go.Value.string { data := #[] })] := by kernel_rfl
theorem Sz : CI P 102 = some [(.int .i64 0), (.int .i64 0), (Go.Value.slice none 0 0), (Go.Value.slice none 0 0), (Go.Value.slice none 0 0), (.bool false)] := by kernel_rfl
theorem SA : CI P 108 = some [(.int .i64 0), (Go.Value.slice none 0 0), (.int .i64 0), (.int .i64 0), (.int .i64 0)] := by kernel_rfl
theorem Oq : CI P 112 = some [(.int .i64 0), (.int .i64 0), (.int .i64 0), (.int .i64 0), (.int .i64 0), (.int .i64 0), (Go.Value.slice none 0 0), (Go.Value.string { data := #[] }), (.bool false)] := by kernel_rfl
theorem SB : CI P 118 = some [(.int .i64 0), (.int .i64 0), (.int .i64 0), (.int .i64 0), (Go.Value.string { data := #[] }), (.bool false)] := by kernel_rfl
theorem Lu : CI P 159 = some [(Go.Value.slice none 0 0), (Go.Value.slice none 0 0)] := by kernel_rfl
theorem DI : CI P 110 = some [(.int .i64 0), (.int .i64 0), (.int .i64 0), (Go.Value.slice none 0 0), (Go.Value.string { data := #[] }), (.bool false)] := by kernel_rfl
theorem SC : CI P 99 = some [(Go.Value.slice none 0 0)] := by kernel_rfl
theorem He : CI P 39 = some [(.int .i64 0), (.int .i64 0)] := by kernel_rfl
@[simp] theorem Rh (n1 : Int) (n2 : Int) (b3 : Bool) (a4 : Option Addr) (l4 c4 : Nat) (a5 : Option Addr) (l5 c5 : Nat) (w : World) : bd P 102 #[(0, (.int .i64 n1)), (1, (.int .i64 n2)), (5, (.bool b3)), (2, (.agg #[.slice a4 l4 c4])), (3, (.slice a5 l5 c5))] w = some (.agg #[.int .i64 n1, .int .i64 n2, .slice a4 l4 c4, .slice a5 l5 c5, (Go.Value.slice none 0 0), .bool b3], w) := CB (by kernel_rfl)
@[simp] theorem TT (n1 : Int) (a2 : Option Addr) (l2 c2 : Nat) (a3 : Option Addr) (l3 c3 : Nat) (w : World) : bd P 102 #[(0, (.int .i64 n1)), (2, (.agg #[.slice a2 l2 c2])), (4, (.slice a3 l3 c3))] w = some (.agg #[.int .i64 n1, (.int .i64 0), .slice a2 l2 c2, (Go.Value.slice none 0 0), .slice a3 l3 c3, (.bool false)], w) := CB (by kernel_rfl)
@[simp] theorem XA  (w : World) : bd P 106 #[] w = some (.agg #[(Go.Value.slice none 0 0)], w) := CB (by kernel_rfl)
@[simp] theorem WL (a1 : Option Addr) (l1 c1 : Nat) (w : World) : bd P 106 #[(0, (.slice a1 l1 c1))] w = some (.agg #[.slice a1 l1 c1], w) := CB (by kernel_rfl)
@[simp] theorem U6 (n1 : Int) (a2 : Option Addr) (l2 c2 : Nat) (w : World) : bd P 108 #[(0, (.int .i64 n1)), (1, (.agg #[.slice a2 l2 c2]))] w = some (.agg #[.int .i64 n1, .slice a2 l2 c2, (.int .i64 0), (.int .i64 0), (.int .i64 0)], w) := CB (by kernel_rfl)
@[simp] theorem Ri (n1 : Int) (n2 : Int) (n3 : Int) (a4 : Option Addr) (l4 c4 : Nat) (s5 : ByteArray) (b6 : Bool) (w : World) : bd P 110 #[(0, (.int .i64 n1)), (1, (.agg #[.int .i64 n2, .int .i64 n3])), (2, (.agg #[.slice a4 l4 c4])), (3, (.string s5)), (4, (.bool b6))] w = some (.agg #[.int .i64 n1, .int .i64 n2, .int .i64 n3, .slice a4 l4 c4, .string s5, .bool b6], w) := CB (by kernel_rfl)
@[simp] theorem SD (n1 : Int) (n2 : Int) (n3 : Int) (n4 : Int) (n5 : Int) (n6 : Int) (a7 : Option Addr) (l7 c7 : Nat) (s8 : ByteArray) (b9 : Bool) (w : World) : bd P 112 #[(0, (.int .i64 n1)), (1, (.int .i64 n2)), (2, (.int .i64 n3)), (3, (.agg #[.int .i64 n4, .int .i64 n5, .int .i64 n6, .slice a7 l7 c7, .string s8, .bool b9]))] w = some (.agg #[.int .i64 n1, .int .i64 n2, .int .i64 n3, .int .i64 n4, .int .i64 n5, .int .i64 n6, .slice a7 l7 c7, .string s8, .bool b9], w) := CB (by kernel_rfl)
@[simp] theorem U7 (n1 : Int) (n2 : Int) (w : World) : bd P 118 #[(0, (.int .i64 n1)), (1, (.int .i64 n2))] w = some (.agg #[.int .i64 n1, .int .i64 n2, (.int .i64 0), (.int .i64 0), (Go.Value.string { data := #[] }), (.bool false)], w) := CB (by kernel_rfl)
@[simp] theorem TU (n1 : Int) (n2 : Int) (n3 : Int) (w : World) : bd P 118 #[(0, (.int .i64 n1)), (1, (.int .i64 n2)), (2, (.int .i64 n3))] w = some (.agg #[.int .i64 n1, .int .i64 n2, .int .i64 n3, (.int .i64 0), (Go.Value.string { data := #[] }), (.bool false)], w) := CB (by kernel_rfl)
@[simp] theorem SE (n1 : Int) (n2 : Int) (n3 : Int) (n4 : Int) (w : World) : bd P 118 #[(0, (.int .i64 n1)), (1, (.int .i64 n2)), (2, (.int .i64 n3)), (3, (.int .i64 n4))] w = some (.agg #[.int .i64 n1, .int .i64 n2, .int .i64 n3, .int .i64 n4, (Go.Value.string { data := #[] }), (.bool false)], w) := CB (by kernel_rfl)
@[simp] theorem SF (n1 : Int) (n2 : Int) (n3 : Int) (s4 : ByteArray) (w : World) : bd P 118 #[(0, (.int .i64 n1)), (1, (.int .i64 n2)), (3, (.int .i64 n3)), (4, (.string s4))] w = some (.agg #[.int .i64 n1, .int .i64 n2, (.int .i64 0), .int .i64 n3, .string s4, (.bool false)], w) := CB (by kernel_rfl)
@[simp] theorem SG (n1 : Int) (n2 : Int) (n3 : Int) (b4 : Bool) (w : World) : bd P 118 #[(0, (.int .i64 n1)), (1, (.int .i64 n2)), (3, (.int .i64 n3)), (5, (.bool b4))] w = some (.agg #[.int .i64 n1, .int .i64 n2, (.int .i64 0), .int .i64 n3, (Go.Value.string { data := #[] }), .bool b4], w) := CB (by kernel_rfl)
@[simp] theorem XB  (w : World) : bd P 156 #[] w = some (.agg #[(Go.Value.slice none 0 0)], w) := CB (by kernel_rfl)
@[simp] theorem WM (a1 : Option Addr) (l1 c1 : Nat) (w : World) : bd P 156 #[(0, (.slice a1 l1 c1))] w = some (.agg #[.slice a1 l1 c1], w) := CB (by kernel_rfl)
@[simp] theorem WN (a1 : Option Addr) (l1 c1 : Nat) (w : World) : bd P 159 #[(0, (.agg #[.slice a1 l1 c1]))] w = some (.agg #[.slice a1 l1 c1, (Go.Value.slice none 0 0)], w) := CB (by kernel_rfl)
@[simp] theorem YF  (w : World) : bd P 39 #[] w = some (.agg #[(.int .i64 0), (.int .i64 0)], w) := CB (by kernel_rfl)
@[simp] theorem VT (n1 : Int) (n2 : Int) (w : World) : bd P 39 #[(0, (.int .i64 n1)), (1, (.int .i64 n2))] w = some (.agg #[.int .i64 n1, .int .i64 n2], w) := CB (by kernel_rfl)
@[simp] theorem YG  (w : World) : bd P 41 #[] w = some (.agg #[(.int .i64 0), (.int .i64 0), (.int .i64 0), (.int .i64 0), (.int .i64 0)], w) := CB (by kernel_rfl)
@[simp] theorem TG (n1 : Int) (n2 : Int) (n3 : Int) (n4 : Int) (n5 : Int) (w : World) : bd P 41 #[(0, (.int .i64 n1)), (1, (.int .i64 n2)), (2, (.int .i64 n3)), (3, (.agg #[.int .i64 n4, .int .i64 n5]))] w = some (.agg #[.int .i64 n1, .int .i64 n2, .int .i64 n3, .int .i64 n4, .int .i64 n5], w) := CB (by kernel_rfl)
@[simp] theorem YH  (w : World) : bd P 67 #[] w = some (.agg #[(Go.Value.slice none 0 0), (Go.Value.slice none 0 0), (Go.Value.slice none 0 0), (Go.Value.slice none 0 0)], w) := CB (by kernel_rfl)
@[simp] theorem XC (a1 : Option Addr) (l1 c1 : Nat) (w : World) : bd P 67 #[(3, (.slice a1 l1 c1))] w = some (.agg #[(Go.Value.slice none 0 0), (Go.Value.slice none 0 0), (Go.Value.slice none 0 0), .slice a1 l1 c1], w) := CB (by kernel_rfl)
@[simp] theorem XD (a1 : Option Addr) (l1 c1 : Nat) (w : World) : bd P 71 #[(0, (.slice a1 l1 c1))] w = some (.agg #[.slice a1 l1 c1, (.int .i64 0)], w) := CB (by kernel_rfl)
@[simp] theorem YI  (w : World) : bd P 98 #[] w = some (.agg #[(Go.Value.slice none 0 0)], w) := CB (by kernel_rfl)
@[simp] theorem VU (n1 : Int) (w : World) : bs P 22 1 #[(0, (.int .u8 n1))] w = some (.slice (some ⟨w.heap.size, 0, none⟩) 1 1, w.alloc (.cells #[.int .u8 n1] 5)) := Fs (by kernel_rfl)
@[simp] theorem XE (w : World) : bs P 23 0 #[] w = some (.slice (some ⟨w.heap.size, 0, none⟩) 0 0, w.alloc (.cells #[] 41)) := HU (n := 5) (by kernel_rfl) (by kernel_rfl) w
@[simp] theorem VV (n1 : Int) (n2 : Int) (n3 : Int) (n4 : Int) (n5 : Int) (w : World) : bs P 23 1 #[(0, (.agg #[.int .i64 n1, .int .i64 n2, .int .i64 n3, .int .i64 n4, .int .i64 n5]))] w = some (.slice (some ⟨w.heap.size, 0, none⟩) 1 1, w.alloc (.cells #[.int .i64 n1, .int .i64 n2, .int .i64 n3, .int .i64 n4, .int .i64 n5] 41)) := Fs (by kernel_rfl)
@[simp] theorem RR (s1 : ByteArray) (s2 : ByteArray) (s3 : ByteArray) (s4 : ByteArray) (w : World) : bs P 47 4 #[(0, (.string s1)), (1, (.string s2)), (2, (.string s3)), (3, (.string s4))] w = some (.slice (some ⟨w.heap.size, 0, none⟩) 4 4, w.alloc (.cells #[.string s1, .string s2, .string s3, .string s4] 9)) := Fs (by kernel_rfl)
@[simp] theorem NL (s1 : ByteArray) (s2 : ByteArray) (s3 : ByteArray) (s4 : ByteArray) (s5 : ByteArray) (s6 : ByteArray) (s7 : ByteArray) (s8 : ByteArray) (w : World) : bs P 47 8 #[(0, (.string s1)), (1, (.string s2)), (2, (.string s3)), (3, (.string s4)), (4, (.string s5)), (5, (.string s6)), (6, (.string s7)), (7, (.string s8))] w = some (.slice (some ⟨w.heap.size, 0, none⟩) 8 8, w.alloc (.cells #[.string s1, .string s2, .string s3, .string s4, .string s5, .string s6, .string s7, .string s8] 9)) := Fs (by kernel_rfl)
@[simp] theorem VW (n1 : Int) (n2 : Int) (a3 : Option Addr) (l3 c3 : Nat) (a4 : Option Addr) (l4 c4 : Nat) (a5 : Option Addr) (l5 c5 : Nat) (b6 : Bool) (w : World) : bs P 63 1 #[(0, (.agg #[.int .i64 n1, .int .i64 n2, .slice a3 l3 c3, .slice a4 l4 c4, .slice a5 l5 c5, .bool b6]))] w = some (.slice (some ⟨w.heap.size, 0, none⟩) 1 1, w.alloc (.cells #[.int .i64 n1, .int .i64 n2, .slice a3 l3 c3, .slice a4 l4 c4, .slice a5 l5 c5, .bool b6] 102)) := Fs (by kernel_rfl)
@[simp] theorem VX (n1 : Int) (a2 : Option Addr) (l2 c2 : Nat) (n3 : Int) (n4 : Int) (n5 : Int) (w : World) : bs P 64 1 #[(0, (.agg #[.int .i64 n1, .slice a2 l2 c2, .int .i64 n3, .int .i64 n4, .int .i64 n5]))] w = some (.slice (some ⟨w.heap.size, 0, none⟩) 1 1, w.alloc (.cells #[.int .i64 n1, .slice a2 l2 c2, .int .i64 n3, .int .i64 n4, .int .i64 n5] 108)) := Fs (by kernel_rfl)
@[simp] theorem XF (w : World) : bs P 65 0 #[] w = some (.slice (some ⟨w.heap.size, 0, none⟩) 0 0, w.alloc (.cells #[] 112)) := HU (n := 9) (by kernel_rfl) (by kernel_rfl) w
@[simp] theorem VY (n1 : Int) (n2 : Int) (n3 : Int) (n4 : Int) (n5 : Int) (n6 : Int) (a7 : Option Addr) (l7 c7 : Nat) (s8 : ByteArray) (b9 : Bool) (w : World) : bs P 65 1 #[(0, (.agg #[.int .i64 n1, .int .i64 n2, .int .i64 n3, .int .i64 n4, .int .i64 n5, .int .i64 n6, .slice a7 l7 c7, .string s8, .bool b9]))] w = some (.slice (some ⟨w.heap.size, 0, none⟩) 1 1, w.alloc (.cells #[.int .i64 n1, .int .i64 n2, .int .i64 n3, .int .i64 n4, .int .i64 n5, .int .i64 n6, .slice a7 l7 c7, .string s8, .bool b9] 112)) := Fs (by kernel_rfl)
@[simp] theorem XG (w : World) : bs P 81 0 #[] w = some (.slice (some ⟨w.heap.size, 0, none⟩) 0 0, w.alloc (.cells #[] 118)) := HU (n := 6) (by kernel_rfl) (by kernel_rfl) w
@[simp] theorem VZ (n1 : Int) (n2 : Int) (n3 : Int) (n4 : Int) (s5 : ByteArray) (b6 : Bool) (w : World) : bs P 81 1 #[(0, (.agg #[.int .i64 n1, .int .i64 n2, .int .i64 n3, .int .i64 n4, .string s5, .bool b6]))] w = some (.slice (some ⟨w.heap.size, 0, none⟩) 1 1, w.alloc (.cells #[.int .i64 n1, .int .i64 n2, .int .i64 n3, .int .i64 n4, .string s5, .bool b6] 118)) := Fs (by kernel_rfl)
@[simp] theorem UA (n1 : Int) (n2 : Int) (w : World) : bs P 87 2 #[(0, (.int .i64 n1)), (1, (.int .i64 n2))] w = some (.slice (some ⟨w.heap.size, 0, none⟩) 2 2, w.alloc (.cells #[.int .i64 n1, .int .i64 n2] 3)) := Fs (by kernel_rfl)
@[simp] theorem RS (n1 : Int) (n2 : Int) (n3 : Int) (n4 : Int) (w : World) : bs P 87 4 #[(0, (.int .i64 n1)), (1, (.int .i64 n2)), (2, (.int .i64 n3)), (3, (.int .i64 n4))] w = some (.slice (some ⟨w.heap.size, 0, none⟩) 4 4, w.alloc (.cells #[.int .i64 n1, .int .i64 n2, .int .i64 n3, .int .i64 n4] 3)) := Fs (by kernel_rfl)
@[simp] theorem ON (n1 : Int) (n2 : Int) (n3 : Int) (n4 : Int) (n5 : Int) (n6 : Int) (n7 : Int) (w : World) : bs P 87 7 #[(0, (.int .i64 n1)), (1, (.int .i64 n2)), (2, (.int .i64 n3)), (3, (.int .i64 n4)), (4, (.int .i64 n5)), (5, (.int .i64 n6)), (6, (.int .i64 n7))] w = some (.slice (some ⟨w.heap.size, 0, none⟩) 7 7, w.alloc (.cells #[.int .i64 n1, .int .i64 n2, .int .i64 n3, .int .i64 n4, .int .i64 n5, .int .i64 n6, .int .i64 n7] 3)) := Fs (by kernel_rfl)
@[simp] theorem XH (w : World) : bs P 96 0 #[] w = some (.slice (some ⟨w.heap.size, 0, none⟩) 0 0, w.alloc (.cells #[] 159)) := HU (n := 2) (by kernel_rfl) (by kernel_rfl) w
@[simp] theorem V0 (a1 : Option Addr) (l1 c1 : Nat) (a2 : Option Addr) (l2 c2 : Nat) (w : World) : bs P 96 1 #[(0, (.agg #[.slice a1 l1 c1, .slice a2 l2 c2]))] w = some (.slice (some ⟨w.heap.size, 0, none⟩) 1 1, w.alloc (.cells #[.slice a1 l1 c1, .slice a2 l2 c2] 159)) := Fs (by kernel_rfl)
@[simp] theorem XI (w : World) : bs P 99 0 #[] w = some (.slice (some ⟨w.heap.size, 0, none⟩) 0 0, w.alloc (.cells #[] 110)) := HU (n := 6) (by kernel_rfl) (by kernel_rfl) w
@[simp] theorem V6 (n1 : Int) (n2 : Int) (n3 : Int) (a4 : Option Addr) (l4 c4 : Nat) (s5 : ByteArray) (b6 : Bool) (w : World) : bs P 99 1 #[(0, (.agg #[.int .i64 n1, .int .i64 n2, .int .i64 n3, .slice a4 l4 c4, .string s5, .bool b6]))] w = some (.slice (some ⟨w.heap.size, 0, none⟩) 1 1, w.alloc (.cells #[.int .i64 n1, .int .i64 n2, .int .i64 n3, .slice a4 l4 c4, .string s5, .bool b6] 110)) := Fs (by kernel_rfl)
@[simp] theorem U8 (a1 : Option Addr) (l1 c1 : Nat) (w : World) : bs P 100 1 #[(0, (.slice a1 l1 c1))] w = some (.slice (some ⟨w.heap.size, 0, none⟩) 1 1, w.alloc (.cells #[.slice a1 l1 c1] 99)) := Fs (by kernel_rfl)
@[simp] theorem WO (w : World) : bs P 104 0 #[] w = some (.slice (some ⟨w.heap.size, 0, none⟩) 0 0, w.alloc (.cells #[] 39)) := HU (n := 2) (by kernel_rfl) (by kernel_rfl) w
@[simp] theorem U9 (n1 : Int) (n2 : Int) (w : World) : bs P 104 1 #[(0, (.agg #[.int .i64 n1, .int .i64 n2]))] w = some (.slice (some ⟨w.heap.size, 0, none⟩) 1 1, w.alloc (.cells #[.int .i64 n1, .int .i64 n2] 39)) := Fs (by kernel_rfl)
@[simp] theorem WQ (n : Int) (w : World) : cv P 2 120 (.int .i64 n) w = some (.int .u64 (IntKind.wrap .u64 n), w) := Gn (by kernel_rfl) (by kernel_rfl) _ n w
@[simp] theorem YJ (n : Int) (w : World) : cv P 3 5 (.int .i64 n) w = some (.int .u8 (IntKind.wrap .u8 n), w) := Gn (by kernel_rfl) (by kernel_rfl) _ n w
@[simp] theorem WR (n : Int) (w : World) : cv P 3 120 (.int .i64 n) w = some (.int .u64 (IntKind.wrap .u64 n), w) := Gn (by kernel_rfl) (by kernel_rfl) _ n w
@[simp] theorem WS (n : Int) (w : World) : cv P 3 126 (.int .i64 n) w = some (.int .u64 (IntKind.wrap .u64 n), w) := Gn (by kernel_rfl) (by kernel_rfl) _ n w
@[simp] theorem YK (n : Int) (w : World) : cv P 5 3 (.int .u8 n) w = some (.int .i64 (IntKind.wrap .i64 n), w) := Gn (by kernel_rfl) (by kernel_rfl) _ n w
@[simp] theorem WT (n : Int) (w : World) : cv P 5 120 (.int .u8 n) w = some (.int .u64 (IntKind.wrap .u64 n), w) := Gn (by kernel_rfl) (by kernel_rfl) _ n w
@[simp] theorem WU (n : Int) (w : World) : cv P 120 2 (.int .u64 n) w = some (.int .i64 (IntKind.wrap .i64 n), w) := Gn (by kernel_rfl) (by kernel_rfl) _ n w
@[simp] theorem WV (n : Int) (w : World) : cv P 120 5 (.int .u64 n) w = some (.int .u8 (IntKind.wrap .u8 n), w) := Gn (by kernel_rfl) (by kernel_rfl) _ n w
@[simp] theorem Va (n : Int) (w : World) : cv P 120 141 (.int .u64 n) w = some (.int .u32 (IntKind.wrap .u32 n), w) := Gn (by kernel_rfl) (by kernel_rfl) _ n w
@[simp] theorem WW (n : Int) (w : World) : cv P 141 5 (.int .u32 n) w = some (.int .u8 (IntKind.wrap .u8 n), w) := Gn (by kernel_rfl) (by kernel_rfl) _ n w
attribute [simp ↓] YR W6 W7 Ta Vu Vv Vw Vx W8 Vy Vz
attribute [simp] W0 Vk Vl Vm Vn Vo Vp Vq Vr IL P7 Fp Vs Vt S5 World.size_alloc size_setRow Ka Rx P9 OH Pg Nz Ry L9 Qa W9 Ae BU SY SZ Ab Aa OE OG P8 Bn Ui S6 S7 Rw El Value.oneCell'
end Go.Proofs.YtkhbpmhagpljiaaGreatDoor.X
