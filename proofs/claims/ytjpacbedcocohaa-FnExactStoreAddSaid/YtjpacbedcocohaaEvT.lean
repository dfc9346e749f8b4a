/- A part of the proof: an evaluator of the model, its laws, and contracts of functions; no condition. -/
import Derived.Test.YtjpacbedcocohaaEvP
set_option linter.unusedVariables false
namespace Go.Proofs.Ytjpacbedcocohaa.X
open Go Go.Ev
@[simp] theorem al_25 (w : World) : al P 25 w = some (pt w.heap.size 0, w.alloc (.cells #[(Go.Value.slice none 0 0)] 25)) := al_eq (z := [(Go.Value.slice none 0 0)]) (by kernel_rfl) w
@[simp] theorem al_32 (w : World) : al P 32 w = some (pt w.heap.size 0, w.alloc (.cells #[(.int .i64 0), (.int .i64 0)] 32)) := al_eq (z := [(.int .i64 0), (.int .i64 0)]) (by kernel_rfl) w
@[simp] theorem al_49 (w : World) : al P 49 w = some (pt w.heap.size 0, w.alloc (.cells #[(Go.Value.slice none 0 0)] 49)) := al_eq (z := [(Go.Value.slice none 0 0)]) (by kernel_rfl) w
@[simp] theorem al_56 (w : World) : al P 56 w = some (pt w.heap.size 0, w.alloc (.cells #[(.int .i64 0), (.int .i64 0), (.int .i64 0), (Go.Value.slice none 0 0), (Go.Value.string { data := #[] }), (.bool false)] 56)) := al_eq (z := [(.int .i64 0), (.int .i64 0), (.int .i64 0), (Go.Value.slice none 0 0), (Go.Value.string { data := #[] }), (.bool false)]) (by kernel_rfl) w
@[simp] theorem len_109 (a : Option Addr) (n c : Nat) (w : World) : b_len P #[109] 3 #[.slice a n c] w = some (i64 n, w) := len_slice (e := 3) (s := (1, 8)) (by kernel_rfl) a n c w
@[simp] theorem len_111 (a : Option Addr) (n c : Nat) (w : World) : b_len P #[111] 3 #[.slice a n c] w = some (i64 n, w) := len_slice (e := 9) (s := (1, 16)) (by kernel_rfl) a n c w
@[simp] theorem len_22 (a : Option Addr) (n c : Nat) (w : World) : b_len P #[22] 3 #[.slice a n c] w = some (i64 n, w) := len_slice (e := 5) (s := (1, 1)) (by kernel_rfl) a n c w
@[simp] theorem len_23 (a : Option Addr) (n c : Nat) (w : World) : b_len P #[23] 3 #[.slice a n c] w = some (i64 n, w) := len_slice (e := 32) (s := (2, 16)) (by kernel_rfl) a n c w
@[simp] theorem len_35 (a : Option Addr) (n c : Nat) (w : World) : b_len P #[35] 3 #[.slice a n c] w = some (i64 n, w) := len_slice (e := 68) (s := (2, 16)) (by kernel_rfl) a n c w
@[simp] theorem len_42 (a : Option Addr) (n c : Nat) (w : World) : b_len P #[42] 3 #[.slice a n c] w = some (i64 n, w) := len_slice (e := 70) (s := (6, 72)) (by kernel_rfl) a n c w
@[simp] theorem len_47 (a : Option Addr) (n c : Nat) (w : World) : b_len P #[47] 3 #[.slice a n c] w = some (i64 n, w) := len_slice (e := 56) (s := (6, 72)) (by kernel_rfl) a n c w
@[simp] theorem len_9 (s : ByteArray) (w : World) : b_len P #[9] 3 #[.string s] w = some (i64 s.size, w) := len_str (by kernel_rfl) s w
theorem fs_32 : (P.fieldsOf 32).toList = [{ name := "Time", type := 3, offset := 0, embedded := false, tag := "", pkgPath := "", byteOffset := 0 }, { name := "Place", type := 3, offset := 1, embedded := false, tag := "", pkgPath := "", byteOffset := 8 }] := by kernel_rfl
@[simp] theorem bo_eql_32 (x y : Operand) (a0 a1 b0 b1 : Int) (w : World) : bo P .eql 32 x y (.agg #[i64 a0, i64 a1]) (.agg #[i64 b0, i64 b1]) w = some (.bool (((a0 == b0) && (a1 == b1))), w) := by
  have hg := run_eqGuard_agg (P := P) w .eql 32 x y #[i64 a0, i64 a1] #[i64 b0, i64 b1] (by kernel_rfl)
  have hs := run_equalIn_struct (P := P) w 9999 32 #[i64 a0, i64 a1] #[i64 b0, i64 b1] (by kernel_rfl) (by kernel_rfl)
  simp only [bo, Sem.run_bind, hg, Result.andThen_ok, run_eql_struct, hs, fs_32]
  exact eqTwo_eql (by kernel_rfl) (by kernel_rfl) ⟨by simp, by simp, rfl, rfl⟩ _ _ _ _ w
@[simp] theorem bo_eql_4 (x y : Operand) (a b : Bool) (w : World) : bo P .eql 4 x y (.bool a) (.bool b) w = some (.bool (a == b), w) := bo_eql_bool (by kernel_rfl) x y a b w
@[simp] theorem bo_neq_32 (x y : Operand) (a0 a1 b0 b1 : Int) (w : World) : bo P .neq 32 x y (.agg #[i64 a0, i64 a1]) (.agg #[i64 b0, i64 b1]) w = some (.bool (!((a0 == b0) && (a1 == b1))), w) := by
  have hg := run_eqGuard_agg (P := P) w .neq 32 x y #[i64 a0, i64 a1] #[i64 b0, i64 b1] (by kernel_rfl)
  have hs := run_equalIn_struct (P := P) w 9999 32 #[i64 a0, i64 a1] #[i64 b0, i64 b1] (by kernel_rfl) (by kernel_rfl)
  simp only [bo, Sem.run_bind, hg, Result.andThen_ok, run_neq_struct, hs, fs_32]
  exact eqTwo_neq (by kernel_rfl) (by kernel_rfl) ⟨by simp, by simp, rfl, rfl⟩ _ _ _ _ w
@[simp] theorem bo_neq_4 (x y : Operand) (a b : Bool) (w : World) : bo P .neq 4 x y (.bool a) (.bool b) w = some (.bool (!(a == b)), w) := bo_neq_bool (by kernel_rfl) x y a b w
@[simp] theorem fa_101_0 (b o : Nat) (w : World) : fa P 101 (pt b o) 0 w = some (pt b (o + 0), w) := fa_eq (n := 0) (g := some false) (by kernel_rfl) b o w
@[simp] theorem fa_101_1 (b o : Nat) (w : World) : fa P 101 (pt b o) 1 w = some (pt b (o + 1), w) := fa_eq (n := 0) (g := some false) (by kernel_rfl) b o w
@[simp] theorem fa_25_0 (b o : Nat) (w : World) : fa P 25 (pt b o) 0 w = some (pt b (o + 0), w) := fa_eq (n := 0) (g := some false) (by kernel_rfl) b o w
@[simp] theorem fa_32_0 (b o : Nat) (w : World) : fa P 32 (pt b o) 0 w = some (pt b (o + 0), w) := fa_eq (n := 0) (g := some false) (by kernel_rfl) b o w
@[simp] theorem fa_32_1 (b o : Nat) (w : World) : fa P 32 (pt b o) 1 w = some (pt b (o + 1), w) := fa_eq (n := 0) (g := some false) (by kernel_rfl) b o w
@[simp] theorem fa_37_0 (b o : Nat) (w : World) : fa P 37 (pt b o) 0 w = some (pt b (o + 0), w) := fa_eq (n := 0) (g := some false) (by kernel_rfl) b o w
@[simp] theorem fa_44_0 (b o : Nat) (w : World) : fa P 44 (pt b o) 0 w = some (pt b (o + 0), w) := fa_eq (n := 0) (g := some false) (by kernel_rfl) b o w
@[simp] theorem fa_49_0 (b o : Nat) (w : World) : fa P 49 (pt b o) 0 w = some (pt b (o + 0), w) := fa_eq (n := 0) (g := some false) (by kernel_rfl) b o w
@[simp] theorem fa_56_0 (b o : Nat) (w : World) : fa P 56 (pt b o) 0 w = some (pt b (o + 0), w) := fa_eq (n := 0) (g := some false) (by kernel_rfl) b o w
@[simp] theorem fa_56_1 (b o : Nat) (w : World) : fa P 56 (pt b o) 1 w = some (pt b (o + 1), w) := fa_eq (n := 1) (g := some true) (by kernel_rfl) b o w
@[simp] theorem fa_56_2 (b o : Nat) (w : World) : fa P 56 (pt b o) 2 w = some (pt b (o + 3), w) := fa_eq (n := 0) (g := some true) (by kernel_rfl) b o w
@[simp] theorem fa_56_3 (b o : Nat) (w : World) : fa P 56 (pt b o) 3 w = some (pt b (o + 4), w) := fa_eq (n := 0) (g := some false) (by kernel_rfl) b o w
@[simp] theorem fa_56_4 (b o : Nat) (w : World) : fa P 56 (pt b o) 4 w = some (pt b (o + 5), w) := fa_eq (n := 0) (g := some false) (by kernel_rfl) b o w
@[simp] theorem fa_68_0 (b o : Nat) (w : World) : fa P 68 (pt b o) 0 w = some (pt b (o + 0), w) := fa_eq (n := 0) (g := some false) (by kernel_rfl) b o w
@[simp] theorem fa_68_1 (b o : Nat) (w : World) : fa P 68 (pt b o) 1 w = some (pt b (o + 1), w) := fa_eq (n := 0) (g := some false) (by kernel_rfl) b o w
@[simp] theorem fa_70_0 (b o : Nat) (w : World) : fa P 70 (pt b o) 0 w = some (pt b (o + 0), w) := fa_eq (n := 0) (g := some false) (by kernel_rfl) b o w
@[simp] theorem fa_70_1 (b o : Nat) (w : World) : fa P 70 (pt b o) 1 w = some (pt b (o + 1), w) := fa_eq (n := 1) (g := some true) (by kernel_rfl) b o w
@[simp] theorem fa_70_2 (b o : Nat) (w : World) : fa P 70 (pt b o) 2 w = some (pt b (o + 3), w) := fa_eq (n := 0) (g := some true) (by kernel_rfl) b o w
@[simp] theorem fa_70_3 (b o : Nat) (w : World) : fa P 70 (pt b o) 3 w = some (pt b (o + 4), w) := fa_eq (n := 0) (g := some false) (by kernel_rfl) b o w
@[simp] theorem fa_70_4 (b o : Nat) (w : World) : fa P 70 (pt b o) 4 w = some (pt b (o + 5), w) := fa_eq (n := 0) (g := some false) (by kernel_rfl) b o w
theorem el_109 : elB P 109 = some (3, 1, 8) := by kernel_rfl
theorem ia_109 {b o n c : Nat} {i : Int} (h0 : 0 ≤ i) (h1 : i < n) (w : World) : ia P 109 (.slice (some ⟨b, o, none⟩) n c) (i64 i) w = some (pt b (o + i.toNat * 1), w) := ia_eq el_109 h0 h1 w
theorem el_111 : elB P 111 = some (9, 1, 16) := by kernel_rfl
theorem ia_111 {b o n c : Nat} {i : Int} (h0 : 0 ≤ i) (h1 : i < n) (w : World) : ia P 111 (.slice (some ⟨b, o, none⟩) n c) (i64 i) w = some (pt b (o + i.toNat * 1), w) := ia_eq el_111 h0 h1 w
theorem el_22 : elB P 22 = some (5, 1, 1) := by kernel_rfl
theorem ia_22 {b o n c : Nat} {i : Int} (h0 : 0 ≤ i) (h1 : i < n) (w : World) : ia P 22 (.slice (some ⟨b, o, none⟩) n c) (i64 i) w = some (pt b (o + i.toNat * 1), w) := ia_eq el_22 h0 h1 w
theorem el_23 : elB P 23 = some (32, 2, 16) := by kernel_rfl
theorem ia_23 {b o n c : Nat} {i : Int} (h0 : 0 ≤ i) (h1 : i < n) (w : World) : ia P 23 (.slice (some ⟨b, o, none⟩) n c) (i64 i) w = some (pt b (o + i.toNat * 2), w) := ia_eq el_23 h0 h1 w
theorem el_35 : elB P 35 = some (68, 2, 16) := by kernel_rfl
theorem ia_35 {b o n c : Nat} {i : Int} (h0 : 0 ≤ i) (h1 : i < n) (w : World) : ia P 35 (.slice (some ⟨b, o, none⟩) n c) (i64 i) w = some (pt b (o + i.toNat * 2), w) := ia_eq el_35 h0 h1 w
theorem el_42 : elB P 42 = some (70, 6, 72) := by kernel_rfl
theorem ia_42 {b o n c : Nat} {i : Int} (h0 : 0 ≤ i) (h1 : i < n) (w : World) : ia P 42 (.slice (some ⟨b, o, none⟩) n c) (i64 i) w = some (pt b (o + i.toNat * 6), w) := ia_eq el_42 h0 h1 w
theorem el_47 : elB P 47 = some (56, 6, 72) := by kernel_rfl
theorem ia_47 {b o n c : Nat} {i : Int} (h0 : 0 ≤ i) (h1 : i < n) (w : World) : ia P 47 (.slice (some ⟨b, o, none⟩) n c) (i64 i) w = some (pt b (o + i.toNat * 6), w) := ia_eq el_47 h0 h1 w
@[simp] theorem ld_22 (b o : Nat) (w : World) : ld P 22 (pt b o) w = ldR P 22 b o w (cellO (hp w b) o) := ld_one (by kernel_rfl) b o w
@[simp] theorem ld_23 (b o : Nat) (w : World) : ld P 23 (pt b o) w = ldR P 23 b o w (cellO (hp w b) o) := ld_one (by kernel_rfl) b o w
@[simp] theorem ld_25 (b o : Nat) (w : World) : ld P 25 (pt b o) w = ldL P 25 b o w (cellsAt w b o 1) := ld_agg (by kernel_rfl) (by kernel_rfl) b o w
@[simp] theorem ld_3 (b o : Nat) (w : World) : ld P 3 (pt b o) w = ldR P 3 b o w (cellO (hp w b) o) := ld_one (by kernel_rfl) b o w
@[simp] theorem ld_32 (b o : Nat) (w : World) : ld P 32 (pt b o) w = ldL P 32 b o w (cellsAt w b o 2) := ld_agg (by kernel_rfl) (by kernel_rfl) b o w
@[simp] theorem ld_35 (b o : Nat) (w : World) : ld P 35 (pt b o) w = ldR P 35 b o w (cellO (hp w b) o) := ld_one (by kernel_rfl) b o w
@[simp] theorem ld_37 (b o : Nat) (w : World) : ld P 37 (pt b o) w = ldL P 37 b o w (cellsAt w b o 1) := ld_agg (by kernel_rfl) (by kernel_rfl) b o w
@[simp] theorem ld_4 (b o : Nat) (w : World) : ld P 4 (pt b o) w = ldR P 4 b o w (cellO (hp w b) o) := ld_one (by kernel_rfl) b o w
@[simp] theorem ld_42 (b o : Nat) (w : World) : ld P 42 (pt b o) w = ldR P 42 b o w (cellO (hp w b) o) := ld_one (by kernel_rfl) b o w
@[simp] theorem ld_44 (b o : Nat) (w : World) : ld P 44 (pt b o) w = ldL P 44 b o w (cellsAt w b o 1) := ld_agg (by kernel_rfl) (by kernel_rfl) b o w
@[simp] theorem ld_47 (b o : Nat) (w : World) : ld P 47 (pt b o) w = ldR P 47 b o w (cellO (hp w b) o) := ld_one (by kernel_rfl) b o w
@[simp] theorem ld_49 (b o : Nat) (w : World) : ld P 49 (pt b o) w = ldL P 49 b o w (cellsAt w b o 1) := ld_agg (by kernel_rfl) (by kernel_rfl) b o w
@[simp] theorem ld_5 (b o : Nat) (w : World) : ld P 5 (pt b o) w = ldR P 5 b o w (cellO (hp w b) o) := ld_one (by kernel_rfl) b o w
@[simp] theorem ld_56 (b o : Nat) (w : World) : ld P 56 (pt b o) w = ldL P 56 b o w (cellsAt w b o 6) := ld_agg (by kernel_rfl) (by kernel_rfl) b o w
@[simp] theorem ld_68 (b o : Nat) (w : World) : ld P 68 (pt b o) w = ldL P 68 b o w (cellsAt w b o 2) := ld_agg (by kernel_rfl) (by kernel_rfl) b o w
@[simp] theorem ld_70 (b o : Nat) (w : World) : ld P 70 (pt b o) w = ldL P 70 b o w (cellsAt w b o 6) := ld_agg (by kernel_rfl) (by kernel_rfl) b o w
@[simp] theorem ld_9 (b o : Nat) (w : World) : ld P 9 (pt b o) w = ldR P 9 b o w (cellO (hp w b) o) := ld_one (by kernel_rfl) b o w
@[simp] theorem st_23 (b o : Nat) (v : Value) (w : World) : st P 23 (pt b o) v w = stR P 23 1 b o v w (hp w b) := st_eq (by kernel_rfl) b o v w
@[simp] theorem st_25 (b o : Nat) (v : Value) (w : World) : st P 25 (pt b o) v w = stR P 25 1 b o v w (hp w b) := st_eq (by kernel_rfl) b o v w
@[simp] theorem st_3 (b o : Nat) (v : Value) (w : World) : st P 3 (pt b o) v w = stR P 3 1 b o v w (hp w b) := st_eq (by kernel_rfl) b o v w
@[simp] theorem st_32 (b o : Nat) (v : Value) (w : World) : st P 32 (pt b o) v w = stR P 32 2 b o v w (hp w b) := st_eq (by kernel_rfl) b o v w
@[simp] theorem st_4 (b o : Nat) (v : Value) (w : World) : st P 4 (pt b o) v w = stR P 4 1 b o v w (hp w b) := st_eq (by kernel_rfl) b o v w
@[simp] theorem st_47 (b o : Nat) (v : Value) (w : World) : st P 47 (pt b o) v w = stR P 47 1 b o v w (hp w b) := st_eq (by kernel_rfl) b o v w
@[simp] theorem st_49 (b o : Nat) (v : Value) (w : World) : st P 49 (pt b o) v w = stR P 49 1 b o v w (hp w b) := st_eq (by kernel_rfl) b o v w
@[simp] theorem st_56 (b o : Nat) (v : Value) (w : World) : st P 56 (pt b o) v w = stR P 56 6 b o v w (hp w b) := st_eq (by kernel_rfl) b o v w
@[simp] theorem st_9 (b o : Nat) (v : Value) (w : World) : st P 9 (pt b o) v w = stR P 9 1 b o v w (hp w b) := st_eq (by kernel_rfl) b o v w
theorem zz_5 : zeroB P 5 = some [(.int .u8 0)] := by kernel_rfl
theorem zz_32 : zeroB P 32 = some [(.int .i64 0), (.int .i64 0)] := by kernel_rfl
theorem zz_68 : zeroB P 68 = some [(.int .i64 0), (.int .i64 0)] := by kernel_rfl
theorem zz_70 : zeroB P 70 = some [(.int .i64 0), (.int .i64 0), (.int .i64 0), (Go.Value.slice none 0 0), (Go.Value.string { data := #[] }), (.bool false)] := by kernel_rfl
theorem zz_56 : zeroB P 56 = some [(.int .i64 0), (.int .i64 0), (.int .i64 0), (Go.Value.slice none 0 0), (Go.Value.string { data := #[] }), (.bool false)] := by kernel_rfl
theorem zz_3 : zeroB P 3 = some [(.int .i64 0)] := by kernel_rfl
theorem zz_9 : zeroB P 9 = some [(Go.Value.string { data := #[] })] := by kernel_rfl
@[simp] theorem bd_101_0 (a1 : Option Addr) (l1 c1 : Nat) (w : World) : bd P 101 #[(0, (.slice a1 l1 c1))] w = some (.agg #[.slice a1 l1 c1, (.int .i64 0)], w) := bd_of (by kernel_rfl)
@[simp] theorem bd_25_  (w : World) : bd P 25 #[] w = some (.agg #[(Go.Value.slice none 0 0)], w) := bd_of (by kernel_rfl)
@[simp] theorem bd_25_0 (a1 : Option Addr) (l1 c1 : Nat) (w : World) : bd P 25 #[(0, (.slice a1 l1 c1))] w = some (.agg #[.slice a1 l1 c1], w) := bd_of (by kernel_rfl)
@[simp] theorem bd_32_  (w : World) : bd P 32 #[] w = some (.agg #[(.int .i64 0), (.int .i64 0)], w) := bd_of (by kernel_rfl)
@[simp] theorem bd_32_0_1 (n1 : Int) (n2 : Int) (w : World) : bd P 32 #[(0, (.int .i64 n1)), (1, (.int .i64 n2))] w = some (.agg #[.int .i64 n1, .int .i64 n2], w) := bd_of (by kernel_rfl)
@[simp] theorem bd_49_  (w : World) : bd P 49 #[] w = some (.agg #[(Go.Value.slice none 0 0)], w) := bd_of (by kernel_rfl)
@[simp] theorem bd_49_0 (a1 : Option Addr) (l1 c1 : Nat) (w : World) : bd P 49 #[(0, (.slice a1 l1 c1))] w = some (.agg #[.slice a1 l1 c1], w) := bd_of (by kernel_rfl)
@[simp] theorem bd_56_  (w : World) : bd P 56 #[] w = some (.agg #[(.int .i64 0), (.int .i64 0), (.int .i64 0), (Go.Value.slice none 0 0), (Go.Value.string { data := #[] }), (.bool false)], w) := bd_of (by kernel_rfl)
@[simp] theorem bd_56_0_2_3 (n1 : Int) (a2 : Option Addr) (l2 c2 : Nat) (s3 : ByteArray) (w : World) : bd P 56 #[(0, (.int .i64 n1)), (2, (.agg #[.slice a2 l2 c2])), (3, (.string s3))] w = some (.agg #[.int .i64 n1, (.int .i64 0), (.int .i64 0), .slice a2 l2 c2, .string s3, (.bool false)], w) := bd_of (by kernel_rfl)
@[simp] theorem bd_56_3 (s1 : ByteArray) (w : World) : bd P 56 #[(3, (.string s1))] w = some (.agg #[(.int .i64 0), (.int .i64 0), (.int .i64 0), (Go.Value.slice none 0 0), .string s1, (.bool false)], w) := bd_of (by kernel_rfl)
@[simp] theorem bs_22_1_0 (n1 : Int) (w : World) : bs P 22 1 #[(0, (.int .u8 n1))] w = some (.slice (some ⟨w.heap.size, 0, none⟩) 1 1, w.alloc (.cells #[.int .u8 n1] 5)) := bs_of (by kernel_rfl)
@[simp] theorem bs_23_0 (w : World) : bs P 23 0 #[] w = some (.slice (some ⟨w.heap.size, 0, none⟩) 0 0, w.alloc (.cells #[] 32)) := bs_zero (n := 2) (by kernel_rfl) (by kernel_rfl) w
@[simp] theorem bs_23_1_0 (n1 : Int) (n2 : Int) (w : World) : bs P 23 1 #[(0, (.agg #[.int .i64 n1, .int .i64 n2]))] w = some (.slice (some ⟨w.heap.size, 0, none⟩) 1 1, w.alloc (.cells #[.int .i64 n1, .int .i64 n2] 32)) := bs_of (by kernel_rfl)
@[simp] theorem bs_47_1_0 (n1 : Int) (n2 : Int) (n3 : Int) (a4 : Option Addr) (l4 c4 : Nat) (s5 : ByteArray) (b6 : Bool) (w : World) : bs P 47 1 #[(0, (.agg #[.int .i64 n1, .int .i64 n2, .int .i64 n3, .slice a4 l4 c4, .string s5, .bool b6]))] w = some (.slice (some ⟨w.heap.size, 0, none⟩) 1 1, w.alloc (.cells #[.int .i64 n1, .int .i64 n2, .int .i64 n3, .slice a4 l4 c4, .string s5, .bool b6] 56)) := bs_of (by kernel_rfl)
@[simp] theorem bs_109_2_0_1 (n1 : Int) (n2 : Int) (w : World) : bs P 109 2 #[(0, (.int .i64 n1)), (1, (.int .i64 n2))] w = some (.slice (some ⟨w.heap.size, 0, none⟩) 2 2, w.alloc (.cells #[.int .i64 n1, .int .i64 n2] 3)) := bs_of (by kernel_rfl)
@[simp] theorem bs_109_4_0_1_2_3 (n1 : Int) (n2 : Int) (n3 : Int) (n4 : Int) (w : World) : bs P 109 4 #[(0, (.int .i64 n1)), (1, (.int .i64 n2)), (2, (.int .i64 n3)), (3, (.int .i64 n4))] w = some (.slice (some ⟨w.heap.size, 0, none⟩) 4 4, w.alloc (.cells #[.int .i64 n1, .int .i64 n2, .int .i64 n3, .int .i64 n4] 3)) := bs_of (by kernel_rfl)
@[simp] theorem bs_111_3_0_1_2 (s1 : ByteArray) (s2 : ByteArray) (s3 : ByteArray) (w : World) : bs P 111 3 #[(0, (.string s1)), (1, (.string s2)), (2, (.string s3))] w = some (.slice (some ⟨w.heap.size, 0, none⟩) 3 3, w.alloc (.cells #[.string s1, .string s2, .string s3] 9)) := bs_of (by kernel_rfl)
@[simp] theorem bs_111_8_0_1_2_3_4_5_6_7 (s1 : ByteArray) (s2 : ByteArray) (s3 : ByteArray) (s4 : ByteArray) (s5 : ByteArray) (s6 : ByteArray) (s7 : ByteArray) (s8 : ByteArray) (w : World) : bs P 111 8 #[(0, (.string s1)), (1, (.string s2)), (2, (.string s3)), (3, (.string s4)), (4, (.string s5)), (5, (.string s6)), (6, (.string s7)), (7, (.string s8))] w = some (.slice (some ⟨w.heap.size, 0, none⟩) 8 8, w.alloc (.cells #[.string s1, .string s2, .string s3, .string s4, .string s5, .string s6, .string s7, .string s8] 9)) := bs_of (by kernel_rfl)
@[simp] theorem cv_3_5 (n : Int) (w : World) : cv P 3 5 (.int .i64 n) w = some (.int .u8 (IntKind.wrap .u8 n), w) := cv_int (by kernel_rfl) (by kernel_rfl) _ n w
@[simp] theorem cv_5_3 (n : Int) (w : World) : cv P 5 3 (.int .u8 n) w = some (.int .i64 (IntKind.wrap .i64 n), w) := cv_int (by kernel_rfl) (by kernel_rfl) _ n w
attribute [simp ↓] bnd cnd_t cnd_f ifP_true gif_tt gif_tf gif_ft gif_ff gif_u pick_t pick_f
attribute [simp] bx_eq bo_lss bo_leq bo_gtr bo_geq bo_eql bo_neq bo_add bo_sub bo_mul bo_eql_str bo_neq_str uo_not uo_neg ret_some World.size_alloc size_setRow cells_agg cells_int cells_bool cells_string cells_slice cells_pointer cells_map cells_nilIface cells_func vl_eq dw_size hp_dw ldR_some ldL_some stR_cells splice_eq cellsAt_zero cellsAt_succ consO_some cellO_some nth_nil nth_zero nth_succ setO_some hp_set_eq Value.oneCell'
end Go.Proofs.Ytjpacbedcocohaa.X
