/- A part of the proof: an evaluator of the model, its laws, and contracts of functions; no condition. -/
import Derived.Test.YtcafhepclddcaaaProg
import Derived.Test.YtcafhepclddcaaaEvM
set_option linter.unusedVariables false
namespace Go.Proofs.Ytcafhepclddcaaa.X
open Go Go.Ev
noncomputable def P : Program := Try.prog
theorem plain : Plain P := by
  have h : (P.funcs.toList.all fun fn => fn.body.isNone || fn.name != "runtime.NumGoroutine") = true := by kernel_rfl
  intro fn hf hb
  rw [List.all_eq_true] at h
  have := h fn (Array.mem_toList_iff.2 hf)
  simp only [Option.isNone_iff_eq_none, Bool.or_eq_true, bne_iff_ne, ne_eq] at this
  rcases this with h | h
  · rw [h] at hb; simp at hb
  · exact h
theorem mixed : P.follows .mixedOrders = true := by kernel_rfl
end Go.Proofs.Ytcafhepclddcaaa.X
set_option linter.unusedVariables false
namespace Go.Proofs.Ytcafhepclddcaaa.X
open Go Go.Ev
@[simp] theorem al_119 (w : World) : al P 119 w = some (pt w.heap.size 0, w.alloc (.cells #[(Go.Value.nilFunc)] 119)) := al_eq (z := [(Go.Value.nilFunc)]) (by kernel_rfl) w
@[simp] theorem al_141 (w : World) : al P 141 w = some (pt w.heap.size 0, w.alloc (.cells #[(.int .u64 0)] 141)) := al_eq (z := [(.int .u64 0)]) (by kernel_rfl) w
@[simp] theorem al_3 (w : World) : al P 3 w = some (pt w.heap.size 0, w.alloc (.cells #[(.int .i64 0)] 3)) := al_eq (z := [(.int .i64 0)]) (by kernel_rfl) w
@[simp] theorem al_32 (w : World) : al P 32 w = some (pt w.heap.size 0, w.alloc (.cells #[(Go.Value.slice none 0 0)] 32)) := al_eq (z := [(Go.Value.slice none 0 0)]) (by kernel_rfl) w
@[simp] theorem al_42 (w : World) : al P 42 w = some (pt w.heap.size 0, w.alloc (.cells #[(.int .i64 0), (.int .i64 0)] 42)) := al_eq (z := [(.int .i64 0), (.int .i64 0)]) (by kernel_rfl) w
@[simp] theorem al_55 (w : World) : al P 55 w = some (pt w.heap.size 0, w.alloc (.cells #[(Go.Value.slice none 0 0)] 55)) := al_eq (z := [(Go.Value.slice none 0 0)]) (by kernel_rfl) w
@[simp] theorem al_66 (w : World) : al P 66 w = some (pt w.heap.size 0, w.alloc (.cells #[(.int .i64 0), (.int .i64 0), (.int .i64 0), (.int .i64 0), (.int .i64 0)] 66)) := al_eq (z := [(.int .i64 0), (.int .i64 0), (.int .i64 0), (.int .i64 0), (.int .i64 0)]) (by kernel_rfl) w
@[simp] theorem al_83 (w : World) : al P 83 w = some (pt w.heap.size 0, w.alloc (.cells #[(.int .i64 0), (.int .i64 0), (Go.Value.slice none 0 0)] 83)) := al_eq (z := [(.int .i64 0), (.int .i64 0), (Go.Value.slice none 0 0)]) (by kernel_rfl) w
@[simp] theorem al_90 (w : World) : al P 90 w = some (pt w.heap.size 0, w.alloc (.cells #[(Go.Value.map none)] 90)) := al_eq (z := [(Go.Value.map none)]) (by kernel_rfl) w
@[simp] theorem len_139 (a : Option Addr) (n c : Nat) (w : World) : b_len P #[139] 3 #[.slice a n c] w = some (i64 n, w) := len_slice (e := 3) (s := (1, 8)) (by kernel_rfl) a n c w
@[simp] theorem len_22 (a : Option Addr) (n c : Nat) (w : World) : b_len P #[22] 3 #[.slice a n c] w = some (i64 n, w) := len_slice (e := 69) (s := (5, 40)) (by kernel_rfl) a n c w
@[simp] theorem len_25 (a : Option Addr) (n c : Nat) (w : World) : b_len P #[25] 3 #[.slice a n c] w = some (i64 n, w) := len_slice (e := 66) (s := (5, 40)) (by kernel_rfl) a n c w
@[simp] theorem len_30 (a : Option Addr) (n c : Nat) (w : World) : b_len P #[30] 3 #[.slice a n c] w = some (i64 n, w) := len_slice (e := 42) (s := (2, 16)) (by kernel_rfl) a n c w
@[simp] theorem len_51 (a : Option Addr) (n c : Nat) (w : World) : b_len P #[51] 3 #[.slice a n c] w = some (i64 n, w) := len_slice (e := 9) (s := (1, 16)) (by kernel_rfl) a n c w
@[simp] theorem len_9 (s : ByteArray) (w : World) : b_len P #[9] 3 #[.string s] w = some (i64 s.size, w) := len_str (by kernel_rfl) s w
theorem fs_42 : (P.fieldsOf 42).toList = [{ name := "Time", type := 3, offset := 0, embedded := false, tag := "", pkgPath := "", byteOffset := 0 }, { name := "Place", type := 3, offset := 1, embedded := false, tag := "", pkgPath := "", byteOffset := 8 }] := by kernel_rfl
@[simp] theorem bo_eql_42 (x y : Operand) (a0 a1 b0 b1 : Int) (w : World) : bo P .eql 42 x y (.agg #[i64 a0, i64 a1]) (.agg #[i64 b0, i64 b1]) w = some (.bool (((a0 == b0) && (a1 == b1))), w) := by
  have hg := run_eqGuard_agg (P := P) w .eql 42 x y #[i64 a0, i64 a1] #[i64 b0, i64 b1] (by kernel_rfl)
  have hs := run_equalIn_struct (P := P) w 9999 42 #[i64 a0, i64 a1] #[i64 b0, i64 b1] (by kernel_rfl) (by kernel_rfl)
  simp only [bo, Sem.run_bind, hg, Result.andThen_ok, run_eql_struct, hs, fs_42]
  exact eqTwo_eql (by kernel_rfl) (by kernel_rfl) ⟨by simp, by simp, rfl, rfl⟩ _ _ _ _ w
@[simp] theorem bo_neq_4 (x y : Operand) (a b : Bool) (w : World) : bo P .neq 4 x y (.bool a) (.bool b) w = some (.bool (!(a == b)), w) := bo_neq_bool (by kernel_rfl) x y a b w
@[simp] theorem bo_neq_42 (x y : Operand) (a0 a1 b0 b1 : Int) (w : World) : bo P .neq 42 x y (.agg #[i64 a0, i64 a1]) (.agg #[i64 b0, i64 b1]) w = some (.bool (!((a0 == b0) && (a1 == b1))), w) := by
  have hg := run_eqGuard_agg (P := P) w .neq 42 x y #[i64 a0, i64 a1] #[i64 b0, i64 b1] (by kernel_rfl)
  have hs := run_equalIn_struct (P := P) w 9999 42 #[i64 a0, i64 a1] #[i64 b0, i64 b1] (by kernel_rfl) (by kernel_rfl)
  simp only [bo, Sem.run_bind, hg, Result.andThen_ok, run_neq_struct, hs, fs_42]
  exact eqTwo_neq (by kernel_rfl) (by kernel_rfl) ⟨by simp, by simp, rfl, rfl⟩ _ _ _ _ w
@[simp] theorem fa_32_0 (b o : Nat) (w : World) : fa P 32 (pt b o) 0 w = some (pt b (o + 0), w) := fa_eq (n := 0) (g := some false) (by kernel_rfl) b o w
@[simp] theorem fa_39_0 (b o : Nat) (w : World) : fa P 39 (pt b o) 0 w = some (pt b (o + 0), w) := fa_eq (n := 0) (g := some false) (by kernel_rfl) b o w
@[simp] theorem fa_39_1 (b o : Nat) (w : World) : fa P 39 (pt b o) 1 w = some (pt b (o + 1), w) := fa_eq (n := 0) (g := some false) (by kernel_rfl) b o w
@[simp] theorem fa_42_0 (b o : Nat) (w : World) : fa P 42 (pt b o) 0 w = some (pt b (o + 0), w) := fa_eq (n := 0) (g := some false) (by kernel_rfl) b o w
@[simp] theorem fa_42_1 (b o : Nat) (w : World) : fa P 42 (pt b o) 1 w = some (pt b (o + 1), w) := fa_eq (n := 0) (g := some false) (by kernel_rfl) b o w
@[simp] theorem fa_53_0 (b o : Nat) (w : World) : fa P 53 (pt b o) 0 w = some (pt b (o + 0), w) := fa_eq (n := 0) (g := some false) (by kernel_rfl) b o w
@[simp] theorem fa_55_0 (b o : Nat) (w : World) : fa P 55 (pt b o) 0 w = some (pt b (o + 0), w) := fa_eq (n := 0) (g := some false) (by kernel_rfl) b o w
@[simp] theorem fa_66_0 (b o : Nat) (w : World) : fa P 66 (pt b o) 0 w = some (pt b (o + 0), w) := fa_eq (n := 0) (g := some false) (by kernel_rfl) b o w
@[simp] theorem fa_66_1 (b o : Nat) (w : World) : fa P 66 (pt b o) 1 w = some (pt b (o + 1), w) := fa_eq (n := 0) (g := some false) (by kernel_rfl) b o w
@[simp] theorem fa_66_2 (b o : Nat) (w : World) : fa P 66 (pt b o) 2 w = some (pt b (o + 2), w) := fa_eq (n := 0) (g := some false) (by kernel_rfl) b o w
@[simp] theorem fa_66_3 (b o : Nat) (w : World) : fa P 66 (pt b o) 3 w = some (pt b (o + 3), w) := fa_eq (n := 1) (g := some true) (by kernel_rfl) b o w
@[simp] theorem fa_69_0 (b o : Nat) (w : World) : fa P 69 (pt b o) 0 w = some (pt b (o + 0), w) := fa_eq (n := 0) (g := some false) (by kernel_rfl) b o w
@[simp] theorem fa_69_1 (b o : Nat) (w : World) : fa P 69 (pt b o) 1 w = some (pt b (o + 1), w) := fa_eq (n := 0) (g := some false) (by kernel_rfl) b o w
@[simp] theorem fa_69_2 (b o : Nat) (w : World) : fa P 69 (pt b o) 2 w = some (pt b (o + 2), w) := fa_eq (n := 0) (g := some false) (by kernel_rfl) b o w
@[simp] theorem fa_69_3 (b o : Nat) (w : World) : fa P 69 (pt b o) 3 w = some (pt b (o + 3), w) := fa_eq (n := 1) (g := some true) (by kernel_rfl) b o w
@[simp] theorem fa_81_0 (b o : Nat) (w : World) : fa P 81 (pt b o) 0 w = some (pt b (o + 0), w) := fa_eq (n := 3) (g := some true) (by kernel_rfl) b o w
@[simp] theorem fa_81_1 (b o : Nat) (w : World) : fa P 81 (pt b o) 1 w = some (pt b (o + 4), w) := fa_eq (n := 0) (g := some false) (by kernel_rfl) b o w
@[simp] theorem fa_83_0 (b o : Nat) (w : World) : fa P 83 (pt b o) 0 w = some (pt b (o + 0), w) := fa_eq (n := 0) (g := some false) (by kernel_rfl) b o w
@[simp] theorem fa_83_1 (b o : Nat) (w : World) : fa P 83 (pt b o) 1 w = some (pt b (o + 1), w) := fa_eq (n := 0) (g := some false) (by kernel_rfl) b o w
@[simp] theorem fa_83_2 (b o : Nat) (w : World) : fa P 83 (pt b o) 2 w = some (pt b (o + 2), w) := fa_eq (n := 0) (g := some true) (by kernel_rfl) b o w
theorem el_139 : elB P 139 = some (3, 1, 8) := by kernel_rfl
theorem ia_139 {b o n c : Nat} {i : Int} (h0 : 0 ≤ i) (h1 : i < n) (w : World) : ia P 139 (.slice (some ⟨b, o, none⟩) n c) (i64 i) w = some (pt b (o + i.toNat * 1), w) := ia_eq el_139 h0 h1 w
theorem el_22 : elB P 22 = some (69, 5, 40) := by kernel_rfl
theorem ia_22 {b o n c : Nat} {i : Int} (h0 : 0 ≤ i) (h1 : i < n) (w : World) : ia P 22 (.slice (some ⟨b, o, none⟩) n c) (i64 i) w = some (pt b (o + i.toNat * 5), w) := ia_eq el_22 h0 h1 w
theorem el_25 : elB P 25 = some (66, 5, 40) := by kernel_rfl
theorem ia_25 {b o n c : Nat} {i : Int} (h0 : 0 ≤ i) (h1 : i < n) (w : World) : ia P 25 (.slice (some ⟨b, o, none⟩) n c) (i64 i) w = some (pt b (o + i.toNat * 5), w) := ia_eq el_25 h0 h1 w
theorem el_30 : elB P 30 = some (42, 2, 16) := by kernel_rfl
theorem ia_30 {b o n c : Nat} {i : Int} (h0 : 0 ≤ i) (h1 : i < n) (w : World) : ia P 30 (.slice (some ⟨b, o, none⟩) n c) (i64 i) w = some (pt b (o + i.toNat * 2), w) := ia_eq el_30 h0 h1 w
theorem el_62 : elB P 62 = some (32, 1, 24) := by kernel_rfl
theorem ia_62 {b o n c : Nat} {i : Int} (h0 : 0 ≤ i) (h1 : i < n) (w : World) : ia P 62 (.slice (some ⟨b, o, none⟩) n c) (i64 i) w = some (pt b (o + i.toNat * 1), w) := ia_eq el_62 h0 h1 w
@[simp] theorem ld_119 (b o : Nat) (w : World) : ld P 119 (pt b o) w = ldR P 119 b o w (cellO (hp w b) o) := ld_one (by kernel_rfl) b o w
@[simp] theorem ld_141 (b o : Nat) (w : World) : ld P 141 (pt b o) w = ldR P 141 b o w (cellO (hp w b) o) := ld_one (by kernel_rfl) b o w
@[simp] theorem ld_3 (b o : Nat) (w : World) : ld P 3 (pt b o) w = ldR P 3 b o w (cellO (hp w b) o) := ld_one (by kernel_rfl) b o w
@[simp] theorem ld_30 (b o : Nat) (w : World) : ld P 30 (pt b o) w = ldR P 30 b o w (cellO (hp w b) o) := ld_one (by kernel_rfl) b o w
@[simp] theorem ld_32 (b o : Nat) (w : World) : ld P 32 (pt b o) w = ldL P 32 b o w (cellsAt w b o 1) := ld_agg (by kernel_rfl) (by kernel_rfl) b o w
@[simp] theorem ld_39 (b o : Nat) (w : World) : ld P 39 (pt b o) w = ldL P 39 b o w (cellsAt w b o 2) := ld_agg (by kernel_rfl) (by kernel_rfl) b o w
@[simp] theorem ld_42 (b o : Nat) (w : World) : ld P 42 (pt b o) w = ldL P 42 b o w (cellsAt w b o 2) := ld_agg (by kernel_rfl) (by kernel_rfl) b o w
@[simp] theorem ld_51 (b o : Nat) (w : World) : ld P 51 (pt b o) w = ldR P 51 b o w (cellO (hp w b) o) := ld_one (by kernel_rfl) b o w
@[simp] theorem ld_53 (b o : Nat) (w : World) : ld P 53 (pt b o) w = ldL P 53 b o w (cellsAt w b o 1) := ld_agg (by kernel_rfl) (by kernel_rfl) b o w
@[simp] theorem ld_55 (b o : Nat) (w : World) : ld P 55 (pt b o) w = ldL P 55 b o w (cellsAt w b o 1) := ld_agg (by kernel_rfl) (by kernel_rfl) b o w
@[simp] theorem ld_66 (b o : Nat) (w : World) : ld P 66 (pt b o) w = ldL P 66 b o w (cellsAt w b o 5) := ld_agg (by kernel_rfl) (by kernel_rfl) b o w
@[simp] theorem ld_69 (b o : Nat) (w : World) : ld P 69 (pt b o) w = ldL P 69 b o w (cellsAt w b o 5) := ld_agg (by kernel_rfl) (by kernel_rfl) b o w
@[simp] theorem ld_70 (b o : Nat) (w : World) : ld P 70 (pt b o) w = ldR P 70 b o w (cellO (hp w b) o) := ld_one (by kernel_rfl) b o w
@[simp] theorem ld_79 (b o : Nat) (w : World) : ld P 79 (pt b o) w = ldR P 79 b o w (cellO (hp w b) o) := ld_one (by kernel_rfl) b o w
@[simp] theorem ld_9 (b o : Nat) (w : World) : ld P 9 (pt b o) w = ldR P 9 b o w (cellO (hp w b) o) := ld_one (by kernel_rfl) b o w
@[simp] theorem ld_90 (b o : Nat) (w : World) : ld P 90 (pt b o) w = ldR P 90 b o w (cellO (hp w b) o) := ld_one (by kernel_rfl) b o w
@[simp] theorem st_119 (b o : Nat) (v : Value) (w : World) : st P 119 (pt b o) v w = stR P 119 1 b o v w (hp w b) := st_eq (by kernel_rfl) b o v w
@[simp] theorem st_141 (b o : Nat) (v : Value) (w : World) : st P 141 (pt b o) v w = stR P 141 1 b o v w (hp w b) := st_eq (by kernel_rfl) b o v w
@[simp] theorem st_3 (b o : Nat) (v : Value) (w : World) : st P 3 (pt b o) v w = stR P 3 1 b o v w (hp w b) := st_eq (by kernel_rfl) b o v w
@[simp] theorem st_30 (b o : Nat) (v : Value) (w : World) : st P 30 (pt b o) v w = stR P 30 1 b o v w (hp w b) := st_eq (by kernel_rfl) b o v w
@[simp] theorem st_32 (b o : Nat) (v : Value) (w : World) : st P 32 (pt b o) v w = stR P 32 1 b o v w (hp w b) := st_eq (by kernel_rfl) b o v w
@[simp] theorem st_42 (b o : Nat) (v : Value) (w : World) : st P 42 (pt b o) v w = stR P 42 2 b o v w (hp w b) := st_eq (by kernel_rfl) b o v w
@[simp] theorem st_51 (b o : Nat) (v : Value) (w : World) : st P 51 (pt b o) v w = stR P 51 1 b o v w (hp w b) := st_eq (by kernel_rfl) b o v w
@[simp] theorem st_55 (b o : Nat) (v : Value) (w : World) : st P 55 (pt b o) v w = stR P 55 1 b o v w (hp w b) := st_eq (by kernel_rfl) b o v w
@[simp] theorem st_66 (b o : Nat) (v : Value) (w : World) : st P 66 (pt b o) v w = stR P 66 5 b o v w (hp w b) := st_eq (by kernel_rfl) b o v w
@[simp] theorem st_83 (b o : Nat) (v : Value) (w : World) : st P 83 (pt b o) v w = stR P 83 3 b o v w (hp w b) := st_eq (by kernel_rfl) b o v w
@[simp] theorem st_9 (b o : Nat) (v : Value) (w : World) : st P 9 (pt b o) v w = stR P 9 1 b o v w (hp w b) := st_eq (by kernel_rfl) b o v w
@[simp] theorem st_90 (b o : Nat) (v : Value) (w : World) : st P 90 (pt b o) v w = stR P 90 1 b o v w (hp w b) := st_eq (by kernel_rfl) b o v w
theorem zz_66 : zeroB P 66 = some [(.int .i64 0), (.int .i64 0), (.int .i64 0), (.int .i64 0), (.int .i64 0)] := by kernel_rfl
theorem zz_42 : zeroB P 42 = some [(.int .i64 0), (.int .i64 0)] := by kernel_rfl
theorem zz_32 : zeroB P 32 = some [(Go.Value.slice none 0 0)] := by kernel_rfl
@[simp] theorem bd_32_  (w : World) : bd P 32 #[] w = some (.agg #[(Go.Value.slice none 0 0)], w) := bd_of (by kernel_rfl)
@[simp] theorem bd_32_0 (a1 : Option Addr) (l1 c1 : Nat) (w : World) : bd P 32 #[(0, (.slice a1 l1 c1))] w = some (.agg #[.slice a1 l1 c1], w) := bd_of (by kernel_rfl)
@[simp] theorem bd_42_  (w : World) : bd P 42 #[] w = some (.agg #[(.int .i64 0), (.int .i64 0)], w) := bd_of (by kernel_rfl)
@[simp] theorem bd_55_  (w : World) : bd P 55 #[] w = some (.agg #[(Go.Value.slice none 0 0)], w) := bd_of (by kernel_rfl)
@[simp] theorem bd_55_0 (a1 : Option Addr) (l1 c1 : Nat) (w : World) : bd P 55 #[(0, (.slice a1 l1 c1))] w = some (.agg #[.slice a1 l1 c1], w) := bd_of (by kernel_rfl)
@[simp] theorem bd_81_1 (m1 : Option Nat) (w : World) : bd P 81 #[(1, (.map m1))] w = some (.agg #[(Go.Value.slice none 0 0), (Go.Value.slice none 0 0), (Go.Value.slice none 0 0), (Go.Value.slice none 0 0), .map m1], w) := bd_of (by kernel_rfl)
@[simp] theorem bd_83_0_1_2 (n1 : Int) (n2 : Int) (a3 : Option Addr) (l3 c3 : Nat) (w : World) : bd P 83 #[(0, (.int .i64 n1)), (1, (.int .i64 n2)), (2, (.agg #[.slice a3 l3 c3]))] w = some (.agg #[.int .i64 n1, .int .i64 n2, .slice a3 l3 c3], w) := bd_of (by kernel_rfl)
@[simp] theorem bs_30_0 (w : World) : bs P 30 0 #[] w = some (.slice (some ⟨w.heap.size, 0, none⟩) 0 0, w.alloc (.cells #[] 42)) := bs_zero (n := 2) (by kernel_rfl) (by kernel_rfl) w
@[simp] theorem bs_30_1_0 (n1 : Int) (n2 : Int) (w : World) : bs P 30 1 #[(0, (.agg #[.int .i64 n1, .int .i64 n2]))] w = some (.slice (some ⟨w.heap.size, 0, none⟩) 1 1, w.alloc (.cells #[.int .i64 n1, .int .i64 n2] 42)) := bs_of (by kernel_rfl)
@[simp] theorem bs_51_0 (w : World) : bs P 51 0 #[] w = some (.slice (some ⟨w.heap.size, 0, none⟩) 0 0, w.alloc (.cells #[] 9)) := bs_zero (n := 1) (by kernel_rfl) (by kernel_rfl) w
@[simp] theorem bs_51_1_0 (s1 : ByteArray) (w : World) : bs P 51 1 #[(0, (.string s1))] w = some (.slice (some ⟨w.heap.size, 0, none⟩) 1 1, w.alloc (.cells #[.string s1] 9)) := bs_of (by kernel_rfl)
@[simp] theorem bs_62_0 (w : World) : bs P 62 0 #[] w = some (.slice (some ⟨w.heap.size, 0, none⟩) 0 0, w.alloc (.cells #[] 32)) := bs_zero (n := 1) (by kernel_rfl) (by kernel_rfl) w
@[simp] theorem bs_62_1_0 (a1 : Option Addr) (l1 c1 : Nat) (w : World) : bs P 62 1 #[(0, (.agg #[.slice a1 l1 c1]))] w = some (.slice (some ⟨w.heap.size, 0, none⟩) 1 1, w.alloc (.cells #[.slice a1 l1 c1] 32)) := bs_of (by kernel_rfl)
@[simp] theorem bs_139_2_0_1 (n1 : Int) (n2 : Int) (w : World) : bs P 139 2 #[(0, (.int .i64 n1)), (1, (.int .i64 n2))] w = some (.slice (some ⟨w.heap.size, 0, none⟩) 2 2, w.alloc (.cells #[.int .i64 n1, .int .i64 n2] 3)) := bs_of (by kernel_rfl)
@[simp] theorem bs_140_1_0 (n1 : Int) (w : World) : bs P 140 1 #[(0, (.int .u8 n1))] w = some (.slice (some ⟨w.heap.size, 0, none⟩) 1 1, w.alloc (.cells #[.int .u8 n1] 5)) := bs_of (by kernel_rfl)
@[simp] theorem cv_3_5 (n : Int) (w : World) : cv P 3 5 (.int .i64 n) w = some (.int .u8 (IntKind.wrap .u8 n), w) := cv_int (by kernel_rfl) (by kernel_rfl) _ n w
@[simp] theorem cv_3_116 (n : Int) (w : World) : cv P 3 116 (.int .i64 n) w = some (.int .u64 (IntKind.wrap .u64 n), w) := cv_int (by kernel_rfl) (by kernel_rfl) _ n w
@[simp] theorem cv_3_141 (n : Int) (w : World) : cv P 3 141 (.int .i64 n) w = some (.int .u64 (IntKind.wrap .u64 n), w) := cv_int (by kernel_rfl) (by kernel_rfl) _ n w
@[simp] theorem cv_5_3 (n : Int) (w : World) : cv P 5 3 (.int .u8 n) w = some (.int .i64 (IntKind.wrap .i64 n), w) := cv_int (by kernel_rfl) (by kernel_rfl) _ n w
@[simp] theorem cv_116_3 (n : Int) (w : World) : cv P 116 3 (.int .u64 n) w = some (.int .i64 (IntKind.wrap .i64 n), w) := cv_int (by kernel_rfl) (by kernel_rfl) _ n w
@[simp] theorem cv_116_136 (n : Int) (w : World) : cv P 116 136 (.int .u64 n) w = some (.int .u32 (IntKind.wrap .u32 n), w) := cv_int (by kernel_rfl) (by kernel_rfl) _ n w
@[simp] theorem cv_136_5 (n : Int) (w : World) : cv P 136 5 (.int .u32 n) w = some (.int .u8 (IntKind.wrap .u8 n), w) := cv_int (by kernel_rfl) (by kernel_rfl) _ n w
@[simp] theorem cv_138_5 (n : Int) (w : World) : cv P 138 5 (.int .u64 n) w = some (.int .u8 (IntKind.wrap .u8 n), w) := cv_int (by kernel_rfl) (by kernel_rfl) _ n w
attribute [simp ↓] bnd cnd_t cnd_f ifP_true gif_tt gif_tf gif_ft gif_ff gif_u pick_t pick_f
attribute [simp] bx_eq bo_lss bo_leq bo_gtr bo_geq bo_eql bo_neq bo_add bo_sub bo_mul bo_eql_str bo_neq_str uo_not uo_neg ret_some World.size_alloc size_setRow cells_agg cells_int cells_bool cells_string cells_slice cells_pointer cells_map cells_nilIface cells_func vl_eq dw_size hp_dw ldR_some ldL_some stR_cells splice_eq cellsAt_zero cellsAt_succ consO_some cellO_some nth_nil nth_zero nth_succ setO_some hp_set_eq Value.oneCell'
end Go.Proofs.Ytcafhepclddcaaa.X
