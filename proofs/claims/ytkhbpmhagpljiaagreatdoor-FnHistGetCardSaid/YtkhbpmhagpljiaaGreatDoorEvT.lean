/- A part of the proof, without conditions. -/
import Derived.Test.YtkhbpmhagpljiaaGreatDoorProg
import Derived.Test.YtkhbpmhagpljiaaGreatDoorEvI
set_option linter.unusedVariables false
set_option linter.unusedSimpArgs false
set_option linter.deprecated false
namespace Go.Proofs.YtkhbpmhagpljiaaGreatDoor.X
open Go Go.Ev
noncomputable def P : Program := Tryz.prog
theorem plain : Plain P := by
 have h : (P.funcs.toList.all fun fn => fn.body.isNone || fn.name != "runtime.NumGoroutine") = true := by kernel_rfl
 intro fn hf hb
 rw [List.all_eq_true] at h
 have := h fn (Array.mem_toList_iff.2 hf)
 simp only [Option.isNone_iff_eq_none, Bool.or_eq_true, bne_iff_ne, ne_eq] at this
 rcases this with h | h
 ·rw [h] at hb; simp at hb
 ·exact h
theorem mixed : P.follows .mixedOrders = true := by kernel_rfl
end Go.Proofs.YtkhbpmhagpljiaaGreatDoor.X
 -- FELL ('build', 152, (0, 1, 2)) pat other
namespace Go.Proofs.YtkhbpmhagpljiaaGreatDoor.X
open Go Go.Ev
@[simp] theorem Zs (w : World) : al P 102 w = some (pt w.heap.size 0, w.alloc (.cells #[(.int .i64 0), (.int .i64 0), (Go.Value.slice none 0 0), (Go.Value.slice none 0 0), (Go.Value.slice none 0 0), (.bool false)] 102)) := GA (z := [(.int .i64 0), (.int .i64 0), (Go.Value.slice none 0 0), (Go.Value.slice none 0 0), (Go.Value.slice none 0 0), (.bool false)]) (by kernel_rfl) w
@[simp] theorem Zt (w : World) : al P 106 w = some (pt w.heap.size 0, w.alloc (.cells #[(Go.Value.slice none 0 0)] 106)) := GA (z := [(Go.Value.slice none 0 0)]) (by kernel_rfl) w
@[simp] theorem Zu (w : World) : al P 108 w = some (pt w.heap.size 0, w.alloc (.cells #[(.int .i64 0), (Go.Value.slice none 0 0), (.int .i64 0), (.int .i64 0), (.int .i64 0)] 108)) := GA (z := [(.int .i64 0), (Go.Value.slice none 0 0), (.int .i64 0), (.int .i64 0), (.int .i64 0)]) (by kernel_rfl) w
@[simp] theorem Zv (w : World) : al P 110 w = some (pt w.heap.size 0, w.alloc (.cells #[(.int .i64 0), (.int .i64 0), (.int .i64 0), (Go.Value.slice none 0 0), (Go.Value.string { data := #[] }), (.bool false)] 110)) := GA (z := [(.int .i64 0), (.int .i64 0), (.int .i64 0), (Go.Value.slice none 0 0), (Go.Value.string { data := #[] }), (.bool false)]) (by kernel_rfl) w
@[simp] theorem Zw (w : World) : al P 112 w = some (pt w.heap.size 0, w.alloc (.cells #[(.int .i64 0), (.int .i64 0), (.int .i64 0), (.int .i64 0), (.int .i64 0), (.int .i64 0), (Go.Value.slice none 0 0), (Go.Value.string { data := #[] }), (.bool false)] 112)) := GA (z := [(.int .i64 0), (.int .i64 0), (.int .i64 0), (.int .i64 0), (.int .i64 0), (.int .i64 0), (Go.Value.slice none 0 0), (Go.Value.string { data := #[] }), (.bool false)]) (by kernel_rfl) w
@[simp] theorem Zx (w : World) : al P 118 w = some (pt w.heap.size 0, w.alloc (.cells #[(.int .i64 0), (.int .i64 0), (.int .i64 0), (.int .i64 0), (Go.Value.string { data := #[] }), (.bool false)] 118)) := GA (z := [(.int .i64 0), (.int .i64 0), (.int .i64 0), (.int .i64 0), (Go.Value.string { data := #[] }), (.bool false)]) (by kernel_rfl) w
@[simp] theorem Zy (w : World) : al P 119 w = some (pt w.heap.size 0, w.alloc (.cells #[(.int .u8 0), (.int .u8 0), (.int .u8 0), (.int .u8 0), (.int .u8 0), (.int .u8 0), (.int .u8 0), (.int .u8 0), (.int .u8 0), (.int .u8 0), (.int .u8 0), (.int .u8 0), (.int .u8 0), (.int .u8 0), (.int .u8 0), (.int .u8 0), (.int .u8 0), (.int .u8 0), (.int .u8 0), (.int .u8 0), (.int .u8 0), (.int .u8 0), (.int .u8 0), (.int .u8 0)] 119)) := GA (z := [(.int .u8 0), (.int .u8 0), (.int .u8 0), (.int .u8 0), (.int .u8 0), (.int .u8 0), (.int .u8 0), (.int .u8 0), (.int .u8 0), (.int .u8 0), (.int .u8 0), (.int .u8 0), (.int .u8 0), (.int .u8 0), (.int .u8 0), (.int .u8 0), (.int .u8 0), (.int .u8 0), (.int .u8 0), (.int .u8 0), (.int .u8 0), (.int .u8 0), (.int .u8 0), (.int .u8 0)]) (by kernel_rfl) w
@[simp] theorem Zz (w : World) : al P 156 w = some (pt w.heap.size 0, w.alloc (.cells #[(Go.Value.slice none 0 0)] 156)) := GA (z := [(Go.Value.slice none 0 0)]) (by kernel_rfl) w
@[simp] theorem ZA (w : World) : al P 159 w = some (pt w.heap.size 0, w.alloc (.cells #[(Go.Value.slice none 0 0), (Go.Value.slice none 0 0)] 159)) := GA (z := [(Go.Value.slice none 0 0), (Go.Value.slice none 0 0)]) (by kernel_rfl) w
@[simp] theorem aI (w : World) : al P 37 w = some (pt w.heap.size 0, w.alloc (.cells #[(Go.Value.pointer none), (Go.Value.slice none 0 0)] 37)) := GA (z := [(Go.Value.pointer none), (Go.Value.slice none 0 0)]) (by kernel_rfl) w
@[simp] theorem aJ (w : World) : al P 39 w = some (pt w.heap.size 0, w.alloc (.cells #[(.int .i64 0), (.int .i64 0)] 39)) := GA (z := [(.int .i64 0), (.int .i64 0)]) (by kernel_rfl) w
@[simp] theorem aK (w : World) : al P 41 w = some (pt w.heap.size 0, w.alloc (.cells #[(.int .i64 0), (.int .i64 0), (.int .i64 0), (.int .i64 0), (.int .i64 0)] 41)) := GA (z := [(.int .i64 0), (.int .i64 0), (.int .i64 0), (.int .i64 0), (.int .i64 0)]) (by kernel_rfl) w
@[simp] theorem aL (w : World) : al P 67 w = some (pt w.heap.size 0, w.alloc (.cells #[(Go.Value.slice none 0 0), (Go.Value.slice none 0 0), (Go.Value.slice none 0 0), (Go.Value.slice none 0 0)] 67)) := GA (z := [(Go.Value.slice none 0 0), (Go.Value.slice none 0 0), (Go.Value.slice none 0 0), (Go.Value.slice none 0 0)]) (by kernel_rfl) w
@[simp] theorem aM (w : World) : al P 98 w = some (pt w.heap.size 0, w.alloc (.cells #[(Go.Value.slice none 0 0)] 98)) := GA (z := [(Go.Value.slice none 0 0)]) (by kernel_rfl) w
@[simp] theorem YE (a : Option Addr) (n c : Nat) (w : World) : Au P #[100] 3 #[.slice a n c] w = some (i64 n, w) := Cm (e := 99) (s := (1, 24)) (by kernel_rfl) a n c w
@[simp] theorem ZB (a : Option Addr) (n c : Nat) (w : World) : Au P #[22] 3 #[.slice a n c] w = some (i64 n, w) := Cm (e := 5) (s := (1, 1)) (by kernel_rfl) a n c w
@[simp] theorem ZC (a : Option Addr) (n c : Nat) (w : World) : Au P #[23] 3 #[.slice a n c] w = some (i64 n, w) := Cm (e := 41) (s := (5, 40)) (by kernel_rfl) a n c w
@[simp] theorem ZD (a : Option Addr) (n c : Nat) (w : World) : Au P #[47] 3 #[.slice a n c] w = some (i64 n, w) := Cm (e := 9) (s := (1, 16)) (by kernel_rfl) a n c w
@[simp] theorem ZE (a : Option Addr) (n c : Nat) (w : World) : Au P #[63] 3 #[.slice a n c] w = some (i64 n, w) := Cm (e := 102) (s := (6, 96)) (by kernel_rfl) a n c w
@[simp] theorem ZF (a : Option Addr) (n c : Nat) (w : World) : Au P #[64] 3 #[.slice a n c] w = some (i64 n, w) := Cm (e := 108) (s := (5, 56)) (by kernel_rfl) a n c w
@[simp] theorem ZG (a : Option Addr) (n c : Nat) (w : World) : Au P #[65] 3 #[.slice a n c] w = some (i64 n, w) := Cm (e := 112) (s := (9, 96)) (by kernel_rfl) a n c w
@[simp] theorem ZH (a : Option Addr) (n c : Nat) (w : World) : Au P #[81] 3 #[.slice a n c] w = some (i64 n, w) := Cm (e := 118) (s := (6, 56)) (by kernel_rfl) a n c w
@[simp] theorem ZI (a : Option Addr) (n c : Nat) (w : World) : Au P #[87] 3 #[.slice a n c] w = some (i64 n, w) := Cm (e := 3) (s := (1, 8)) (by kernel_rfl) a n c w
@[simp] theorem aN (s : ByteArray) (w : World) : Au P #[9] 3 #[.string s] w = some (i64 s.size, w) := Vd (by kernel_rfl) s w
@[simp] theorem ZJ (a : Option Addr) (n c : Nat) (w : World) : Au P #[96] 3 #[.slice a n c] w = some (i64 n, w) := Cm (e := 159) (s := (2, 48)) (by kernel_rfl) a n c w
@[simp] theorem ZK (a : Option Addr) (n c : Nat) (w : World) : Au P #[99] 3 #[.slice a n c] w = some (i64 n, w) := Cm (e := 110) (s := (6, 72)) (by kernel_rfl) a n c w
theorem Xd : (P.fieldsOf 39).toList = [{ name := "Time", type := 3, offset := 0, embedded := false, tag := "", pkgPath := "", byteOffset := 0 }, { name := "Place", type := 3, offset := 1, embedded := false, tag := "", pkgPath := "", byteOffset := 8 }] := by kernel_rfl
@[simp] theorem WR (x y : Operand) (a0 a1 b0 b1 : Int) (w : World) : bo P .eql 39 x y (.agg #[i64 a0, i64 a1]) (.agg #[i64 b0, i64 b1]) w = some (.bool (((a0 == b0) && (a1 == b1))), w) := by
 have hg := run_eqGuard_agg (P := P) w .eql 39 x y #[i64 a0, i64 a1] #[i64 b0, i64 b1] (by kernel_rfl)
 have hs := run_equalIn_struct (P := P) w 9999 39 #[i64 a0, i64 a1] #[i64 b0, i64 b1] (by kernel_rfl) (by kernel_rfl)
 simp only [bo, Sem.run_bind, hg, Result.andThen_ok, run_eql_struct, hs, Xd]
 exact SN (by kernel_rfl) (by kernel_rfl) ⟨by simp, by simp, rfl, rfl⟩ _ _ _ _ w
@[simp] theorem Xe (x y : Operand) (a b : Bool) (w : World) : bo P .eql 4 x y (.bool a) (.bool b) w = some (.bool (a == b), w) := Lg (by kernel_rfl) x y a b w
@[simp] theorem Xf (b o : Nat) (w : World) : fa P 102 (pt b o) 0 w = some (pt b (o + 0), w) := Bs (n := 0) (g := some false) (by kernel_rfl) b o w
@[simp] theorem Xg (b o : Nat) (w : World) : fa P 102 (pt b o) 1 w = some (pt b (o + 1), w) := Bs (n := 0) (g := some false) (by kernel_rfl) b o w
@[simp] theorem Xh (b o : Nat) (w : World) : fa P 102 (pt b o) 2 w = some (pt b (o + 2), w) := Bs (n := 0) (g := some true) (by kernel_rfl) b o w
@[simp] theorem Xi (b o : Nat) (w : World) : fa P 102 (pt b o) 3 w = some (pt b (o + 3), w) := Bs (n := 0) (g := some false) (by kernel_rfl) b o w
@[simp] theorem Xj (b o : Nat) (w : World) : fa P 102 (pt b o) 4 w = some (pt b (o + 4), w) := Bs (n := 0) (g := some false) (by kernel_rfl) b o w
@[simp] theorem Xk (b o : Nat) (w : World) : fa P 102 (pt b o) 5 w = some (pt b (o + 5), w) := Bs (n := 0) (g := some false) (by kernel_rfl) b o w
@[simp] theorem Xl (b o : Nat) (w : World) : fa P 106 (pt b o) 0 w = some (pt b (o + 0), w) := Bs (n := 0) (g := some false) (by kernel_rfl) b o w
@[simp] theorem Xm (b o : Nat) (w : World) : fa P 108 (pt b o) 0 w = some (pt b (o + 0), w) := Bs (n := 0) (g := some false) (by kernel_rfl) b o w
@[simp] theorem Xn (b o : Nat) (w : World) : fa P 108 (pt b o) 1 w = some (pt b (o + 1), w) := Bs (n := 0) (g := some true) (by kernel_rfl) b o w
@[simp] theorem Xp (b o : Nat) (w : World) : fa P 108 (pt b o) 2 w = some (pt b (o + 2), w) := Bs (n := 1) (g := some true) (by kernel_rfl) b o w
@[simp] theorem Xq (b o : Nat) (w : World) : fa P 108 (pt b o) 3 w = some (pt b (o + 4), w) := Bs (n := 0) (g := some false) (by kernel_rfl) b o w
@[simp] theorem Xr (b o : Nat) (w : World) : fa P 110 (pt b o) 0 w = some (pt b (o + 0), w) := Bs (n := 0) (g := some false) (by kernel_rfl) b o w
@[simp] theorem Xs (b o : Nat) (w : World) : fa P 110 (pt b o) 1 w = some (pt b (o + 1), w) := Bs (n := 1) (g := some true) (by kernel_rfl) b o w
@[simp] theorem Xt (b o : Nat) (w : World) : fa P 110 (pt b o) 2 w = some (pt b (o + 3), w) := Bs (n := 0) (g := some true) (by kernel_rfl) b o w
@[simp] theorem Xu (b o : Nat) (w : World) : fa P 112 (pt b o) 0 w = some (pt b (o + 0), w) := Bs (n := 0) (g := some false) (by kernel_rfl) b o w
@[simp] theorem Xv (b o : Nat) (w : World) : fa P 112 (pt b o) 1 w = some (pt b (o + 1), w) := Bs (n := 0) (g := some false) (by kernel_rfl) b o w
@[simp] theorem Xw (b o : Nat) (w : World) : fa P 112 (pt b o) 2 w = some (pt b (o + 2), w) := Bs (n := 0) (g := some false) (by kernel_rfl) b o w
@[simp] theorem Xy (b o : Nat) (w : World) : fa P 112 (pt b o) 3 w = some (pt b (o + 3), w) := Bs (n := 5) (g := some true) (by kernel_rfl) b o w
@[simp] theorem Xz (b o : Nat) (w : World) : fa P 118 (pt b o) 0 w = some (pt b (o + 0), w) := Bs (n := 0) (g := some false) (by kernel_rfl) b o w
@[simp] theorem XA (b o : Nat) (w : World) : fa P 118 (pt b o) 1 w = some (pt b (o + 1), w) := Bs (n := 0) (g := some false) (by kernel_rfl) b o w
@[simp] theorem XB (b o : Nat) (w : World) : fa P 118 (pt b o) 2 w = some (pt b (o + 2), w) := Bs (n := 0) (g := some false) (by kernel_rfl) b o w
@[simp] theorem XC (b o : Nat) (w : World) : fa P 118 (pt b o) 3 w = some (pt b (o + 3), w) := Bs (n := 0) (g := some false) (by kernel_rfl) b o w
@[simp] theorem XD (b o : Nat) (w : World) : fa P 118 (pt b o) 4 w = some (pt b (o + 4), w) := Bs (n := 0) (g := some false) (by kernel_rfl) b o w
@[simp] theorem XE (b o : Nat) (w : World) : fa P 118 (pt b o) 5 w = some (pt b (o + 5), w) := Bs (n := 0) (g := some false) (by kernel_rfl) b o w
@[simp] theorem XF (b o : Nat) (w : World) : fa P 156 (pt b o) 0 w = some (pt b (o + 0), w) := Bs (n := 0) (g := some false) (by kernel_rfl) b o w
@[simp] theorem XG (b o : Nat) (w : World) : fa P 159 (pt b o) 0 w = some (pt b (o + 0), w) := Bs (n := 0) (g := some true) (by kernel_rfl) b o w
@[simp] theorem XH (b o : Nat) (w : World) : fa P 159 (pt b o) 1 w = some (pt b (o + 1), w) := Bs (n := 0) (g := some false) (by kernel_rfl) b o w
@[simp] theorem YF (b o : Nat) (w : World) : fa P 37 (pt b o) 0 w = some (pt b (o + 0), w) := Bs (n := 0) (g := some false) (by kernel_rfl) b o w
@[simp] theorem YG (b o : Nat) (w : World) : fa P 37 (pt b o) 1 w = some (pt b (o + 1), w) := Bs (n := 0) (g := some false) (by kernel_rfl) b o w
@[simp] theorem YH (b o : Nat) (w : World) : fa P 39 (pt b o) 0 w = some (pt b (o + 0), w) := Bs (n := 0) (g := some false) (by kernel_rfl) b o w
@[simp] theorem YI (b o : Nat) (w : World) : fa P 39 (pt b o) 1 w = some (pt b (o + 1), w) := Bs (n := 0) (g := some false) (by kernel_rfl) b o w
@[simp] theorem YJ (b o : Nat) (w : World) : fa P 41 (pt b o) 0 w = some (pt b (o + 0), w) := Bs (n := 0) (g := some false) (by kernel_rfl) b o w
@[simp] theorem YK (b o : Nat) (w : World) : fa P 41 (pt b o) 1 w = some (pt b (o + 1), w) := Bs (n := 0) (g := some false) (by kernel_rfl) b o w
@[simp] theorem YL (b o : Nat) (w : World) : fa P 41 (pt b o) 2 w = some (pt b (o + 2), w) := Bs (n := 0) (g := some false) (by kernel_rfl) b o w
@[simp] theorem YM (b o : Nat) (w : World) : fa P 41 (pt b o) 3 w = some (pt b (o + 3), w) := Bs (n := 1) (g := some true) (by kernel_rfl) b o w
@[simp] theorem YN (b o : Nat) (w : World) : fa P 67 (pt b o) 0 w = some (pt b (o + 0), w) := Bs (n := 0) (g := some false) (by kernel_rfl) b o w
@[simp] theorem YO (b o : Nat) (w : World) : fa P 67 (pt b o) 1 w = some (pt b (o + 1), w) := Bs (n := 0) (g := some false) (by kernel_rfl) b o w
@[simp] theorem YP (b o : Nat) (w : World) : fa P 67 (pt b o) 2 w = some (pt b (o + 2), w) := Bs (n := 0) (g := some false) (by kernel_rfl) b o w
@[simp] theorem YQ (b o : Nat) (w : World) : fa P 67 (pt b o) 3 w = some (pt b (o + 3), w) := Bs (n := 0) (g := some false) (by kernel_rfl) b o w
@[simp] theorem YR (b o : Nat) (w : World) : fa P 71 (pt b o) 0 w = some (pt b (o + 0), w) := Bs (n := 0) (g := some false) (by kernel_rfl) b o w
@[simp] theorem YS (b o : Nat) (w : World) : fa P 71 (pt b o) 1 w = some (pt b (o + 1), w) := Bs (n := 0) (g := some false) (by kernel_rfl) b o w
@[simp] theorem YT (b o : Nat) (w : World) : fa P 98 (pt b o) 0 w = some (pt b (o + 0), w) := Bs (n := 0) (g := some false) (by kernel_rfl) b o w
theorem Pu : Hu P 100 = some (99, 1, 24) := by kernel_rfl
theorem GR {b o n c : Nat} {i : Int} (h0 : 0 ≤ i) (h1 : i < n) (w : World) : ia P 100 (.slice (some ⟨b, o, none⟩) n c) (i64 i) w = some (pt b (o + i.toNat * 1), w) := HQ Pu h0 h1 w
theorem DC : Hu P 104 = some (39, 2, 16) := by kernel_rfl
theorem KI {b o n c : Nat} {i : Int} (h0 : 0 ≤ i) (h1 : i < n) (w : World) : ia P 104 (.slice (some ⟨b, o, none⟩) n c) (i64 i) w = some (pt b (o + i.toNat * 2), w) := HQ DC h0 h1 w
theorem Ts : Hu P 22 = some (5, 1, 1) := by kernel_rfl
theorem HM {b o n c : Nat} {i : Int} (h0 : 0 ≤ i) (h1 : i < n) (w : World) : ia P 22 (.slice (some ⟨b, o, none⟩) n c) (i64 i) w = some (pt b (o + i.toNat * 1), w) := HQ Ts h0 h1 w
theorem JQ : Hu P 23 = some (41, 5, 40) := by kernel_rfl
theorem JR {b o n c : Nat} {i : Int} (h0 : 0 ≤ i) (h1 : i < n) (w : World) : ia P 23 (.slice (some ⟨b, o, none⟩) n c) (i64 i) w = some (pt b (o + i.toNat * 5), w) := HQ JQ h0 h1 w
theorem RD : Hu P 47 = some (9, 1, 16) := by kernel_rfl
theorem Fv {b o n c : Nat} {i : Int} (h0 : 0 ≤ i) (h1 : i < n) (w : World) : ia P 47 (.slice (some ⟨b, o, none⟩) n c) (i64 i) w = some (pt b (o + i.toNat * 1), w) := HQ RD h0 h1 w
theorem Tt : Hu P 63 = some (102, 6, 96) := by kernel_rfl
theorem DJ {b o n c : Nat} {i : Int} (h0 : 0 ≤ i) (h1 : i < n) (w : World) : ia P 63 (.slice (some ⟨b, o, none⟩) n c) (i64 i) w = some (pt b (o + i.toNat * 6), w) := HQ Tt h0 h1 w
theorem Tu : Hu P 64 = some (108, 5, 56) := by kernel_rfl
theorem EB {b o n c : Nat} {i : Int} (h0 : 0 ≤ i) (h1 : i < n) (w : World) : ia P 64 (.slice (some ⟨b, o, none⟩) n c) (i64 i) w = some (pt b (o + i.toNat * 5), w) := HQ Tu h0 h1 w
theorem OR : Hu P 65 = some (112, 9, 96) := by kernel_rfl
theorem Tv {b o n c : Nat} {i : Int} (h0 : 0 ≤ i) (h1 : i < n) (w : World) : ia P 65 (.slice (some ⟨b, o, none⟩) n c) (i64 i) w = some (pt b (o + i.toNat * 9), w) := HQ OR h0 h1 w
theorem Tw : Hu P 81 = some (118, 6, 56) := by kernel_rfl
theorem XI {b o n c : Nat} {i : Int} (h0 : 0 ≤ i) (h1 : i < n) (w : World) : ia P 81 (.slice (some ⟨b, o, none⟩) n c) (i64 i) w = some (pt b (o + i.toNat * 6), w) := HQ Tw h0 h1 w
theorem XJ : Hu P 87 = some (3, 1, 8) := by kernel_rfl
theorem XK {b o n c : Nat} {i : Int} (h0 : 0 ≤ i) (h1 : i < n) (w : World) : ia P 87 (.slice (some ⟨b, o, none⟩) n c) (i64 i) w = some (pt b (o + i.toNat * 1), w) := HQ XJ h0 h1 w
theorem Mu : Hu P 96 = some (159, 2, 48) := by kernel_rfl
theorem Da {b o n c : Nat} {i : Int} (h0 : 0 ≤ i) (h1 : i < n) (w : World) : ia P 96 (.slice (some ⟨b, o, none⟩) n c) (i64 i) w = some (pt b (o + i.toNat * 2), w) := HQ Mu h0 h1 w
theorem DK : Hu P 99 = some (110, 6, 72) := by kernel_rfl
theorem Ck {b o n c : Nat} {i : Int} (h0 : 0 ≤ i) (h1 : i < n) (w : World) : ia P 99 (.slice (some ⟨b, o, none⟩) n c) (i64 i) w = some (pt b (o + i.toNat * 6), w) := HQ DK h0 h1 w
@[simp] theorem ZL (b o : Nat) (w : World) : ld P 100 (pt b o) w = PG P 100 b o w (AR (hp w b) o) := Df (by kernel_rfl) b o w
@[simp] theorem ZM (b o : Nat) (w : World) : ld P 102 (pt b o) w = Q7 P 102 b o w (Bl w b o 6) := Fu (by kernel_rfl) (by kernel_rfl) b o w
@[simp] theorem ZN (b o : Nat) (w : World) : ld P 104 (pt b o) w = PG P 104 b o w (AR (hp w b) o) := Df (by kernel_rfl) b o w
@[simp] theorem ZO (b o : Nat) (w : World) : ld P 106 (pt b o) w = Q7 P 106 b o w (Bl w b o 1) := Fu (by kernel_rfl) (by kernel_rfl) b o w
@[simp] theorem ZP (b o : Nat) (w : World) : ld P 108 (pt b o) w = Q7 P 108 b o w (Bl w b o 5) := Fu (by kernel_rfl) (by kernel_rfl) b o w
@[simp] theorem ZQ (b o : Nat) (w : World) : ld P 110 (pt b o) w = Q7 P 110 b o w (Bl w b o 6) := Fu (by kernel_rfl) (by kernel_rfl) b o w
@[simp] theorem ZR (b o : Nat) (w : World) : ld P 112 (pt b o) w = Q7 P 112 b o w (Bl w b o 9) := Fu (by kernel_rfl) (by kernel_rfl) b o w
@[simp] theorem ZS (b o : Nat) (w : World) : ld P 118 (pt b o) w = Q7 P 118 b o w (Bl w b o 6) := Fu (by kernel_rfl) (by kernel_rfl) b o w
@[simp] theorem ZT (b o : Nat) (w : World) : ld P 120 (pt b o) w = PG P 120 b o w (AR (hp w b) o) := Df (by kernel_rfl) b o w
@[simp] theorem ZU (b o : Nat) (w : World) : ld P 156 (pt b o) w = Q7 P 156 b o w (Bl w b o 1) := Fu (by kernel_rfl) (by kernel_rfl) b o w
@[simp] theorem ZV (b o : Nat) (w : World) : ld P 159 (pt b o) w = Q7 P 159 b o w (Bl w b o 2) := Fu (by kernel_rfl) (by kernel_rfl) b o w
@[simp] theorem aP (b o : Nat) (w : World) : ld P 22 (pt b o) w = PG P 22 b o w (AR (hp w b) o) := Df (by kernel_rfl) b o w
@[simp] theorem aQ (b o : Nat) (w : World) : ld P 23 (pt b o) w = PG P 23 b o w (AR (hp w b) o) := Df (by kernel_rfl) b o w
@[simp] theorem bF (b o : Nat) (w : World) : ld P 3 (pt b o) w = PG P 3 b o w (AR (hp w b) o) := Df (by kernel_rfl) b o w
@[simp] theorem aR (b o : Nat) (w : World) : ld P 35 (pt b o) w = PG P 35 b o w (AR (hp w b) o) := Df (by kernel_rfl) b o w
@[simp] theorem aS (b o : Nat) (w : World) : ld P 39 (pt b o) w = Q7 P 39 b o w (Bl w b o 2) := Fu (by kernel_rfl) (by kernel_rfl) b o w
@[simp] theorem bG (b o : Nat) (w : World) : ld P 4 (pt b o) w = PG P 4 b o w (AR (hp w b) o) := Df (by kernel_rfl) b o w
@[simp] theorem aT (b o : Nat) (w : World) : ld P 41 (pt b o) w = Q7 P 41 b o w (Bl w b o 5) := Fu (by kernel_rfl) (by kernel_rfl) b o w
@[simp] theorem aU (b o : Nat) (w : World) : ld P 43 (pt b o) w = PG P 43 b o w (AR (hp w b) o) := Df (by kernel_rfl) b o w
@[simp] theorem bH (b o : Nat) (w : World) : ld P 5 (pt b o) w = PG P 5 b o w (AR (hp w b) o) := Df (by kernel_rfl) b o w
@[simp] theorem aV (b o : Nat) (w : World) : ld P 63 (pt b o) w = PG P 63 b o w (AR (hp w b) o) := Df (by kernel_rfl) b o w
@[simp] theorem aW (b o : Nat) (w : World) : ld P 64 (pt b o) w = PG P 64 b o w (AR (hp w b) o) := Df (by kernel_rfl) b o w
@[simp] theorem aX (b o : Nat) (w : World) : ld P 65 (pt b o) w = PG P 65 b o w (AR (hp w b) o) := Df (by kernel_rfl) b o w
@[simp] theorem aY (b o : Nat) (w : World) : ld P 67 (pt b o) w = Q7 P 67 b o w (Bl w b o 4) := Fu (by kernel_rfl) (by kernel_rfl) b o w
@[simp] theorem bI (b o : Nat) (w : World) : ld P 9 (pt b o) w = PG P 9 b o w (AR (hp w b) o) := Df (by kernel_rfl) b o w
@[simp] theorem aZ (b o : Nat) (w : World) : ld P 96 (pt b o) w = PG P 96 b o w (AR (hp w b) o) := Df (by kernel_rfl) b o w
@[simp] theorem ba (b o : Nat) (w : World) : ld P 98 (pt b o) w = Q7 P 98 b o w (Bl w b o 1) := Fu (by kernel_rfl) (by kernel_rfl) b o w
@[simp] theorem bc (b o : Nat) (w : World) : ld P 99 (pt b o) w = PG P 99 b o w (AR (hp w b) o) := Df (by kernel_rfl) b o w
@[simp] theorem ZW (b o : Nat) (v : Value) (w : World) : st P 100 (pt b o) v w = HR P 100 1 b o v w (hp w b) := Cs (by kernel_rfl) b o v w
@[simp] theorem ZX (b o : Nat) (v : Value) (w : World) : st P 102 (pt b o) v w = HR P 102 6 b o v w (hp w b) := Cs (by kernel_rfl) b o v w
@[simp] theorem ZY (b o : Nat) (v : Value) (w : World) : st P 104 (pt b o) v w = HR P 104 1 b o v w (hp w b) := Cs (by kernel_rfl) b o v w
@[simp] theorem ZZ (b o : Nat) (v : Value) (w : World) : st P 106 (pt b o) v w = HR P 106 1 b o v w (hp w b) := Cs (by kernel_rfl) b o v w
@[simp] theorem Z6 (b o : Nat) (v : Value) (w : World) : st P 108 (pt b o) v w = HR P 108 5 b o v w (hp w b) := Cs (by kernel_rfl) b o v w
@[simp] theorem Z7 (b o : Nat) (v : Value) (w : World) : st P 110 (pt b o) v w = HR P 110 6 b o v w (hp w b) := Cs (by kernel_rfl) b o v w
@[simp] theorem Z8 (b o : Nat) (v : Value) (w : World) : st P 112 (pt b o) v w = HR P 112 9 b o v w (hp w b) := Cs (by kernel_rfl) b o v w
@[simp] theorem Z9 (b o : Nat) (v : Value) (w : World) : st P 118 (pt b o) v w = HR P 118 6 b o v w (hp w b) := Cs (by kernel_rfl) b o v w
@[simp] theorem ah (b o : Nat) (v : Value) (w : World) : st P 156 (pt b o) v w = HR P 156 1 b o v w (hp w b) := Cs (by kernel_rfl) b o v w
@[simp] theorem ai (b o : Nat) (v : Value) (w : World) : st P 159 (pt b o) v w = HR P 159 2 b o v w (hp w b) := Cs (by kernel_rfl) b o v w
@[simp] theorem bf (b o : Nat) (v : Value) (w : World) : st P 22 (pt b o) v w = HR P 22 1 b o v w (hp w b) := Cs (by kernel_rfl) b o v w
@[simp] theorem bg (b o : Nat) (v : Value) (w : World) : st P 23 (pt b o) v w = HR P 23 1 b o v w (hp w b) := Cs (by kernel_rfl) b o v w
@[simp] theorem bJ (b o : Nat) (v : Value) (w : World) : st P 3 (pt b o) v w = HR P 3 1 b o v w (hp w b) := Cs (by kernel_rfl) b o v w
@[simp] theorem bh (b o : Nat) (v : Value) (w : World) : st P 35 (pt b o) v w = HR P 35 1 b o v w (hp w b) := Cs (by kernel_rfl) b o v w
@[simp] theorem bj (b o : Nat) (v : Value) (w : World) : st P 39 (pt b o) v w = HR P 39 2 b o v w (hp w b) := Cs (by kernel_rfl) b o v w
@[simp] theorem bK (b o : Nat) (v : Value) (w : World) : st P 4 (pt b o) v w = HR P 4 1 b o v w (hp w b) := Cs (by kernel_rfl) b o v w
@[simp] theorem bk (b o : Nat) (v : Value) (w : World) : st P 41 (pt b o) v w = HR P 41 5 b o v w (hp w b) := Cs (by kernel_rfl) b o v w
@[simp] theorem bL (b o : Nat) (v : Value) (w : World) : st P 5 (pt b o) v w = HR P 5 1 b o v w (hp w b) := Cs (by kernel_rfl) b o v w
@[simp] theorem bm (b o : Nat) (v : Value) (w : World) : st P 63 (pt b o) v w = HR P 63 1 b o v w (hp w b) := Cs (by kernel_rfl) b o v w
@[simp] theorem bn (b o : Nat) (v : Value) (w : World) : st P 64 (pt b o) v w = HR P 64 1 b o v w (hp w b) := Cs (by kernel_rfl) b o v w
@[simp] theorem bq (b o : Nat) (v : Value) (w : World) : st P 65 (pt b o) v w = HR P 65 1 b o v w (hp w b) := Cs (by kernel_rfl) b o v w
@[simp] theorem br (b o : Nat) (v : Value) (w : World) : st P 67 (pt b o) v w = HR P 67 4 b o v w (hp w b) := Cs (by kernel_rfl) b o v w
@[simp] theorem bM (b o : Nat) (v : Value) (w : World) : st P 9 (pt b o) v w = HR P 9 1 b o v w (hp w b) := Cs (by kernel_rfl) b o v w
@[simp] theorem bu (b o : Nat) (v : Value) (w : World) : st P 96 (pt b o) v w = HR P 96 1 b o v w (hp w b) := Cs (by kernel_rfl) b o v w
@[simp] theorem bw (b o : Nat) (v : Value) (w : World) : st P 98 (pt b o) v w = HR P 98 1 b o v w (hp w b) := Cs (by kernel_rfl) b o v w
@[simp] theorem bz (b o : Nat) (v : Value) (w : World) : st P 99 (pt b o) v w = HR P 99 1 b o v w (hp w b) := Cs (by kernel_rfl) b o v w
theorem aj : CS P 5 = some [(.int .u8 0)] := by kernel_rfl
theorem OS : CS P 41 = some [(.int .i64 0), (.int .i64 0), (.int .i64 0), (.int .i64 0), (.int .i64 0)] := by kernel_rfl
theorem XL : CS P 9 = some [(Go.Value.string { data := #[] })] := by kernel_rfl
theorem Tx : CS P 102 = some [(.int .i64 0), (.int .i64 0), (Go.Value.slice none 0 0), (Go.Value.slice none 0 0), (Go.Value.slice none 0 0), (.bool false)] := by kernel_rfl
theorem Ty : CS P 108 = some [(.int .i64 0), (Go.Value.slice none 0 0), (.int .i64 0), (.int .i64 0), (.int .i64 0)] := by kernel_rfl
theorem Pv : CS P 112 = some [(.int .i64 0), (.int .i64 0), (.int .i64 0), (.int .i64 0), (.int .i64 0), (.int .i64 0), (Go.Value.slice none 0 0), (Go.Value.string { data := #[] }), (.bool false)] := by kernel_rfl
theorem Tz : CS P 118 = some [(.int .i64 0), (.int .i64 0), (.int .i64 0), (.int .i64 0), (Go.Value.string { data := #[] }), (.bool false)] := by kernel_rfl
theorem Mv : CS P 159 = some [(Go.Value.slice none 0 0), (Go.Value.slice none 0 0)] := by kernel_rfl
theorem D8 : CS P 110 = some [(.int .i64 0), (.int .i64 0), (.int .i64 0), (Go.Value.slice none 0 0), (Go.Value.string { data := #[] }), (.bool false)] := by kernel_rfl
theorem TA : CS P 99 = some [(Go.Value.slice none 0 0)] := by kernel_rfl
theorem HN : CS P 39 = some [(.int .i64 0), (.int .i64 0)] := by kernel_rfl
@[simp] theorem SA (n1 : Int) (n2 : Int) (b3 : Bool) (a4 : Option Addr) (l4 c4 : Nat) (a5 : Option Addr) (l5 c5 : Nat) (w : World) : bd P 102 #[(0, (.int .i64 n1)), (1, (.int .i64 n2)), (5, (.bool b3)), (2, (.agg #[.slice a4 l4 c4])), (3, (.slice a5 l5 c5))] w = some (.agg #[.int .i64 n1, .int .i64 n2, .slice a4 l4 c4, .slice a5 l5 c5, (Go.Value.slice none 0 0), .bool b3], w) := CC (by kernel_rfl)
@[simp] theorem UO (n1 : Int) (a2 : Option Addr) (l2 c2 : Nat) (a3 : Option Addr) (l3 c3 : Nat) (w : World) : bd P 102 #[(0, (.int .i64 n1)), (2, (.agg #[.slice a2 l2 c2])), (4, (.slice a3 l3 c3))] w = some (.agg #[.int .i64 n1, (.int .i64 0), .slice a2 l2 c2, (Go.Value.slice none 0 0), .slice a3 l3 c3, (.bool false)], w) := CC (by kernel_rfl)
@[simp] theorem YU  (w : World) : bd P 106 #[] w = some (.agg #[(Go.Value.slice none 0 0)], w) := CC (by kernel_rfl)
@[simp] theorem XM (a1 : Option Addr) (l1 c1 : Nat) (w : World) : bd P 106 #[(0, (.slice a1 l1 c1))] w = some (.agg #[.slice a1 l1 c1], w) := CC (by kernel_rfl)
@[simp] theorem VZ (n1 : Int) (a2 : Option Addr) (l2 c2 : Nat) (w : World) : bd P 108 #[(0, (.int .i64 n1)), (1, (.agg #[.slice a2 l2 c2]))] w = some (.agg #[.int .i64 n1, .slice a2 l2 c2, (.int .i64 0), (.int .i64 0), (.int .i64 0)], w) := CC (by kernel_rfl)
@[simp] theorem SB (n1 : Int) (n2 : Int) (n3 : Int) (a4 : Option Addr) (l4 c4 : Nat) (s5 : ByteArray) (b6 : Bool) (w : World) : bd P 110 #[(0, (.int .i64 n1)), (1, (.agg #[.int .i64 n2, .int .i64 n3])), (2, (.agg #[.slice a4 l4 c4])), (3, (.string s5)), (4, (.bool b6))] w = some (.agg #[.int .i64 n1, .int .i64 n2, .int .i64 n3, .slice a4 l4 c4, .string s5, .bool b6], w) := CC (by kernel_rfl)
@[simp] theorem TB (n1 : Int) (n2 : Int) (n3 : Int) (n4 : Int) (n5 : Int) (n6 : Int) (a7 : Option Addr) (l7 c7 : Nat) (s8 : ByteArray) (b9 : Bool) (w : World) : bd P 112 #[(0, (.int .i64 n1)), (1, (.int .i64 n2)), (2, (.int .i64 n3)), (3, (.agg #[.int .i64 n4, .int .i64 n5, .int .i64 n6, .slice a7 l7 c7, .string s8, .bool b9]))] w = some (.agg #[.int .i64 n1, .int .i64 n2, .int .i64 n3, .int .i64 n4, .int .i64 n5, .int .i64 n6, .slice a7 l7 c7, .string s8, .bool b9], w) := CC (by kernel_rfl)
@[simp] theorem V0 (n1 : Int) (n2 : Int) (w : World) : bd P 118 #[(0, (.int .i64 n1)), (1, (.int .i64 n2))] w = some (.agg #[.int .i64 n1, .int .i64 n2, (.int .i64 0), (.int .i64 0), (Go.Value.string { data := #[] }), (.bool false)], w) := CC (by kernel_rfl)
@[simp] theorem UP (n1 : Int) (n2 : Int) (n3 : Int) (w : World) : bd P 118 #[(0, (.int .i64 n1)), (1, (.int .i64 n2)), (2, (.int .i64 n3))] w = some (.agg #[.int .i64 n1, .int .i64 n2, .int .i64 n3, (.int .i64 0), (Go.Value.string { data := #[] }), (.bool false)], w) := CC (by kernel_rfl)
@[simp] theorem TC (n1 : Int) (n2 : Int) (n3 : Int) (n4 : Int) (w : World) : bd P 118 #[(0, (.int .i64 n1)), (1, (.int .i64 n2)), (2, (.int .i64 n3)), (3, (.int .i64 n4))] w = some (.agg #[.int .i64 n1, .int .i64 n2, .int .i64 n3, .int .i64 n4, (Go.Value.string { data := #[] }), (.bool false)], w) := CC (by kernel_rfl)
@[simp] theorem TD (n1 : Int) (n2 : Int) (n3 : Int) (s4 : ByteArray) (w : World) : bd P 118 #[(0, (.int .i64 n1)), (1, (.int .i64 n2)), (3, (.int .i64 n3)), (4, (.string s4))] w = some (.agg #[.int .i64 n1, .int .i64 n2, (.int .i64 0), .int .i64 n3, .string s4, (.bool false)], w) := CC (by kernel_rfl)
@[simp] theorem TE (n1 : Int) (n2 : Int) (n3 : Int) (b4 : Bool) (w : World) : bd P 118 #[(0, (.int .i64 n1)), (1, (.int .i64 n2)), (3, (.int .i64 n3)), (5, (.bool b4))] w = some (.agg #[.int .i64 n1, .int .i64 n2, (.int .i64 0), .int .i64 n3, (Go.Value.string { data := #[] }), .bool b4], w) := CC (by kernel_rfl)
@[simp] theorem YV  (w : World) : bd P 156 #[] w = some (.agg #[(Go.Value.slice none 0 0)], w) := CC (by kernel_rfl)
@[simp] theorem XN (a1 : Option Addr) (l1 c1 : Nat) (w : World) : bd P 156 #[(0, (.slice a1 l1 c1))] w = some (.agg #[.slice a1 l1 c1], w) := CC (by kernel_rfl)
@[simp] theorem XO (a1 : Option Addr) (l1 c1 : Nat) (w : World) : bd P 159 #[(0, (.agg #[.slice a1 l1 c1]))] w = some (.agg #[.slice a1 l1 c1, (Go.Value.slice none 0 0)], w) := CC (by kernel_rfl)
@[simp] theorem ak  (w : World) : bd P 39 #[] w = some (.agg #[(.int .i64 0), (.int .i64 0)], w) := CC (by kernel_rfl)
@[simp] theorem WS (n1 : Int) (n2 : Int) (w : World) : bd P 39 #[(0, (.int .i64 n1)), (1, (.int .i64 n2))] w = some (.agg #[.int .i64 n1, .int .i64 n2], w) := CC (by kernel_rfl)
@[simp] theorem aq  (w : World) : bd P 41 #[] w = some (.agg #[(.int .i64 0), (.int .i64 0), (.int .i64 0), (.int .i64 0), (.int .i64 0)], w) := CC (by kernel_rfl)
@[simp] theorem UC (n1 : Int) (n2 : Int) (n3 : Int) (n4 : Int) (n5 : Int) (w : World) : bd P 41 #[(0, (.int .i64 n1)), (1, (.int .i64 n2)), (2, (.int .i64 n3)), (3, (.agg #[.int .i64 n4, .int .i64 n5]))] w = some (.agg #[.int .i64 n1, .int .i64 n2, .int .i64 n3, .int .i64 n4, .int .i64 n5], w) := CC (by kernel_rfl)
@[simp] theorem Vw (n1 : Int) (n2 : Int) (n3 : Int) (n4 : Int) (w : World) : bd P 41 #[(0, (.int .i64 n1)), (2, (.int .i64 n2)), (3, (.agg #[.int .i64 n3, .int .i64 n4]))] w = some (.agg #[.int .i64 n1, (.int .i64 0), .int .i64 n2, .int .i64 n3, .int .i64 n4], w) := CC (by kernel_rfl)
@[simp] theorem ar  (w : World) : bd P 67 #[] w = some (.agg #[(Go.Value.slice none 0 0), (Go.Value.slice none 0 0), (Go.Value.slice none 0 0), (Go.Value.slice none 0 0)], w) := CC (by kernel_rfl)
@[simp] theorem YW (a1 : Option Addr) (l1 c1 : Nat) (w : World) : bd P 67 #[(3, (.slice a1 l1 c1))] w = some (.agg #[(Go.Value.slice none 0 0), (Go.Value.slice none 0 0), (Go.Value.slice none 0 0), .slice a1 l1 c1], w) := CC (by kernel_rfl)
@[simp] theorem YX (a1 : Option Addr) (l1 c1 : Nat) (w : World) : bd P 71 #[(0, (.slice a1 l1 c1))] w = some (.agg #[.slice a1 l1 c1, (.int .i64 0)], w) := CC (by kernel_rfl)
@[simp] theorem aw  (w : World) : bd P 98 #[] w = some (.agg #[(Go.Value.slice none 0 0)], w) := CC (by kernel_rfl)
@[simp] theorem WT (n1 : Int) (w : World) : bs P 22 1 #[(0, (.int .u8 n1))] w = some (.slice (some ⟨w.heap.size, 0, none⟩) 1 1, w.alloc (.cells #[.int .u8 n1] 5)) := FA (by kernel_rfl)
@[simp] theorem YY (w : World) : bs P 23 0 #[] w = some (.slice (some ⟨w.heap.size, 0, none⟩) 0 0, w.alloc (.cells #[] 41)) := HD (n := 5) (by kernel_rfl) (by kernel_rfl) w
@[simp] theorem WU (n1 : Int) (n2 : Int) (n3 : Int) (n4 : Int) (n5 : Int) (w : World) : bs P 23 1 #[(0, (.agg #[.int .i64 n1, .int .i64 n2, .int .i64 n3, .int .i64 n4, .int .i64 n5]))] w = some (.slice (some ⟨w.heap.size, 0, none⟩) 1 1, w.alloc (.cells #[.int .i64 n1, .int .i64 n2, .int .i64 n3, .int .i64 n4, .int .i64 n5] 41)) := FA (by kernel_rfl)
@[simp] theorem YZ (w : World) : bs P 47 0 #[] w = some (.slice (some ⟨w.heap.size, 0, none⟩) 0 0, w.alloc (.cells #[] 9)) := HD (n := 1) (by kernel_rfl) (by kernel_rfl) w
@[simp] theorem WV (s1 : ByteArray) (w : World) : bs P 47 1 #[(0, (.string s1))] w = some (.slice (some ⟨w.heap.size, 0, none⟩) 1 1, w.alloc (.cells #[.string s1] 9)) := FA (by kernel_rfl)
@[simp] theorem S9 (s1 : ByteArray) (s2 : ByteArray) (s3 : ByteArray) (s4 : ByteArray) (w : World) : bs P 47 4 #[(0, (.string s1)), (1, (.string s2)), (2, (.string s3)), (3, (.string s4))] w = some (.slice (some ⟨w.heap.size, 0, none⟩) 4 4, w.alloc (.cells #[.string s1, .string s2, .string s3, .string s4] 9)) := FA (by kernel_rfl)
@[simp] theorem OT (s1 : ByteArray) (s2 : ByteArray) (s3 : ByteArray) (s4 : ByteArray) (s5 : ByteArray) (s6 : ByteArray) (s7 : ByteArray) (s8 : ByteArray) (w : World) : bs P 47 8 #[(0, (.string s1)), (1, (.string s2)), (2, (.string s3)), (3, (.string s4)), (4, (.string s5)), (5, (.string s6)), (6, (.string s7)), (7, (.string s8))] w = some (.slice (some ⟨w.heap.size, 0, none⟩) 8 8, w.alloc (.cells #[.string s1, .string s2, .string s3, .string s4, .string s5, .string s6, .string s7, .string s8] 9)) := FA (by kernel_rfl)
@[simp] theorem WW (n1 : Int) (n2 : Int) (a3 : Option Addr) (l3 c3 : Nat) (a4 : Option Addr) (l4 c4 : Nat) (a5 : Option Addr) (l5 c5 : Nat) (b6 : Bool) (w : World) : bs P 63 1 #[(0, (.agg #[.int .i64 n1, .int .i64 n2, .slice a3 l3 c3, .slice a4 l4 c4, .slice a5 l5 c5, .bool b6]))] w = some (.slice (some ⟨w.heap.size, 0, none⟩) 1 1, w.alloc (.cells #[.int .i64 n1, .int .i64 n2, .slice a3 l3 c3, .slice a4 l4 c4, .slice a5 l5 c5, .bool b6] 102)) := FA (by kernel_rfl)
@[simp] theorem WX (n1 : Int) (a2 : Option Addr) (l2 c2 : Nat) (n3 : Int) (n4 : Int) (n5 : Int) (w : World) : bs P 64 1 #[(0, (.agg #[.int .i64 n1, .slice a2 l2 c2, .int .i64 n3, .int .i64 n4, .int .i64 n5]))] w = some (.slice (some ⟨w.heap.size, 0, none⟩) 1 1, w.alloc (.cells #[.int .i64 n1, .slice a2 l2 c2, .int .i64 n3, .int .i64 n4, .int .i64 n5] 108)) := FA (by kernel_rfl)
@[simp] theorem Y7 (w : World) : bs P 65 0 #[] w = some (.slice (some ⟨w.heap.size, 0, none⟩) 0 0, w.alloc (.cells #[] 112)) := HD (n := 9) (by kernel_rfl) (by kernel_rfl) w
@[simp] theorem WY (n1 : Int) (n2 : Int) (n3 : Int) (n4 : Int) (n5 : Int) (n6 : Int) (a7 : Option Addr) (l7 c7 : Nat) (s8 : ByteArray) (b9 : Bool) (w : World) : bs P 65 1 #[(0, (.agg #[.int .i64 n1, .int .i64 n2, .int .i64 n3, .int .i64 n4, .int .i64 n5, .int .i64 n6, .slice a7 l7 c7, .string s8, .bool b9]))] w = some (.slice (some ⟨w.heap.size, 0, none⟩) 1 1, w.alloc (.cells #[.int .i64 n1, .int .i64 n2, .int .i64 n3, .int .i64 n4, .int .i64 n5, .int .i64 n6, .slice a7 l7 c7, .string s8, .bool b9] 112)) := FA (by kernel_rfl)
@[simp] theorem Y9 (w : World) : bs P 81 0 #[] w = some (.slice (some ⟨w.heap.size, 0, none⟩) 0 0, w.alloc (.cells #[] 118)) := HD (n := 6) (by kernel_rfl) (by kernel_rfl) w
@[simp] theorem WZ (n1 : Int) (n2 : Int) (n3 : Int) (n4 : Int) (s5 : ByteArray) (b6 : Bool) (w : World) : bs P 81 1 #[(0, (.agg #[.int .i64 n1, .int .i64 n2, .int .i64 n3, .int .i64 n4, .string s5, .bool b6]))] w = some (.slice (some ⟨w.heap.size, 0, none⟩) 1 1, w.alloc (.cells #[.int .i64 n1, .int .i64 n2, .int .i64 n3, .int .i64 n4, .string s5, .bool b6] 118)) := FA (by kernel_rfl)
@[simp] theorem Vx (n1 : Int) (n2 : Int) (w : World) : bs P 87 2 #[(0, (.int .i64 n1)), (1, (.int .i64 n2))] w = some (.slice (some ⟨w.heap.size, 0, none⟩) 2 2, w.alloc (.cells #[.int .i64 n1, .int .i64 n2] 3)) := FA (by kernel_rfl)
@[simp] theorem Ta (n1 : Int) (n2 : Int) (n3 : Int) (n4 : Int) (w : World) : bs P 87 4 #[(0, (.int .i64 n1)), (1, (.int .i64 n2)), (2, (.int .i64 n3)), (3, (.int .i64 n4))] w = some (.slice (some ⟨w.heap.size, 0, none⟩) 4 4, w.alloc (.cells #[.int .i64 n1, .int .i64 n2, .int .i64 n3, .int .i64 n4] 3)) := FA (by kernel_rfl)
@[simp] theorem PQ (n1 : Int) (n2 : Int) (n3 : Int) (n4 : Int) (n5 : Int) (n6 : Int) (n7 : Int) (w : World) : bs P 87 7 #[(0, (.int .i64 n1)), (1, (.int .i64 n2)), (2, (.int .i64 n3)), (3, (.int .i64 n4)), (4, (.int .i64 n5)), (5, (.int .i64 n6)), (6, (.int .i64 n7))] w = some (.slice (some ⟨w.heap.size, 0, none⟩) 7 7, w.alloc (.cells #[.int .i64 n1, .int .i64 n2, .int .i64 n3, .int .i64 n4, .int .i64 n5, .int .i64 n6, .int .i64 n7] 3)) := FA (by kernel_rfl)
@[simp] theorem Za (w : World) : bs P 96 0 #[] w = some (.slice (some ⟨w.heap.size, 0, none⟩) 0 0, w.alloc (.cells #[] 159)) := HD (n := 2) (by kernel_rfl) (by kernel_rfl) w
@[simp] theorem W0 (a1 : Option Addr) (l1 c1 : Nat) (a2 : Option Addr) (l2 c2 : Nat) (w : World) : bs P 96 1 #[(0, (.agg #[.slice a1 l1 c1, .slice a2 l2 c2]))] w = some (.slice (some ⟨w.heap.size, 0, none⟩) 1 1, w.alloc (.cells #[.slice a1 l1 c1, .slice a2 l2 c2] 159)) := FA (by kernel_rfl)
@[simp] theorem Zb (w : World) : bs P 99 0 #[] w = some (.slice (some ⟨w.heap.size, 0, none⟩) 0 0, w.alloc (.cells #[] 110)) := HD (n := 6) (by kernel_rfl) (by kernel_rfl) w
@[simp] theorem W5 (n1 : Int) (n2 : Int) (n3 : Int) (a4 : Option Addr) (l4 c4 : Nat) (s5 : ByteArray) (b6 : Bool) (w : World) : bs P 99 1 #[(0, (.agg #[.int .i64 n1, .int .i64 n2, .int .i64 n3, .slice a4 l4 c4, .string s5, .bool b6]))] w = some (.slice (some ⟨w.heap.size, 0, none⟩) 1 1, w.alloc (.cells #[.int .i64 n1, .int .i64 n2, .int .i64 n3, .slice a4 l4 c4, .string s5, .bool b6] 110)) := FA (by kernel_rfl)
@[simp] theorem V6 (a1 : Option Addr) (l1 c1 : Nat) (w : World) : bs P 100 1 #[(0, (.slice a1 l1 c1))] w = some (.slice (some ⟨w.heap.size, 0, none⟩) 1 1, w.alloc (.cells #[.slice a1 l1 c1] 99)) := FA (by kernel_rfl)
@[simp] theorem XP (w : World) : bs P 104 0 #[] w = some (.slice (some ⟨w.heap.size, 0, none⟩) 0 0, w.alloc (.cells #[] 39)) := HD (n := 2) (by kernel_rfl) (by kernel_rfl) w
@[simp] theorem V7 (n1 : Int) (n2 : Int) (w : World) : bs P 104 1 #[(0, (.agg #[.int .i64 n1, .int .i64 n2]))] w = some (.slice (some ⟨w.heap.size, 0, none⟩) 1 1, w.alloc (.cells #[.int .i64 n1, .int .i64 n2] 39)) := FA (by kernel_rfl)
@[simp] theorem XQ (n : Int) (w : World) : cv P 2 120 (.int .i64 n) w = some (.int .u64 (IntKind.wrap .u64 n), w) := GZ (by kernel_rfl) (by kernel_rfl) _ n w
@[simp] theorem ax (n : Int) (w : World) : cv P 3 5 (.int .i64 n) w = some (.int .u8 (IntKind.wrap .u8 n), w) := GZ (by kernel_rfl) (by kernel_rfl) _ n w
@[simp] theorem XR (n : Int) (w : World) : cv P 3 120 (.int .i64 n) w = some (.int .u64 (IntKind.wrap .u64 n), w) := GZ (by kernel_rfl) (by kernel_rfl) _ n w
@[simp] theorem XS (n : Int) (w : World) : cv P 3 126 (.int .i64 n) w = some (.int .u64 (IntKind.wrap .u64 n), w) := GZ (by kernel_rfl) (by kernel_rfl) _ n w
@[simp] theorem ay (n : Int) (w : World) : cv P 5 3 (.int .u8 n) w = some (.int .i64 (IntKind.wrap .i64 n), w) := GZ (by kernel_rfl) (by kernel_rfl) _ n w
@[simp] theorem XT (n : Int) (w : World) : cv P 5 120 (.int .u8 n) w = some (.int .u64 (IntKind.wrap .u64 n), w) := GZ (by kernel_rfl) (by kernel_rfl) _ n w
@[simp] theorem XU (n : Int) (w : World) : cv P 120 2 (.int .u64 n) w = some (.int .i64 (IntKind.wrap .i64 n), w) := GZ (by kernel_rfl) (by kernel_rfl) _ n w
@[simp] theorem XV (n : Int) (w : World) : cv P 120 5 (.int .u64 n) w = some (.int .u8 (IntKind.wrap .u8 n), w) := GZ (by kernel_rfl) (by kernel_rfl) _ n w
@[simp] theorem V8 (n : Int) (w : World) : cv P 120 141 (.int .u64 n) w = some (.int .u32 (IntKind.wrap .u32 n), w) := GZ (by kernel_rfl) (by kernel_rfl) _ n w
@[simp] theorem XW (n : Int) (w : World) : cv P 141 5 (.int .u32 n) w = some (.int .u8 (IntKind.wrap .u8 n), w) := GZ (by kernel_rfl) (by kernel_rfl) _ n w
attribute [simp ↓] aE Yd Ye T9 Wt Wu Wv Ww Yf Wx Wy
attribute [simp] Yb Wi Wj Wk Wl Wm Wn Wo Wp Io Q9 FX Wq Ws TZ World.size_alloc size_setRow KY SP Rb PJ Qm OJ SQ Np Rc Yh Ak BW TX TY Ab Aa PH PI Ra Bt Ve T0 T6 SO EG Value.oneCell'
theorem Bw {f : FuncId} {args : Array Value} {w : World} {Q : Value × World → Prop} {x : Option (Value × World)} (e : Bv P (EV P) f args w = x) (h : Af x Q) (hi : P.inits.idxOf? f = none := by kernel_rfl) (hn : (P.funcs.toList[f]?).map (fun fn => Nat.ble args.size fn.ntmps) = Option.some true := by kernel_rfl) : Af (EV P f args w) Q := Af.enter plain mixed e hi hn rfl h
end Go.Proofs.YtkhbpmhagpljiaaGreatDoor.X
