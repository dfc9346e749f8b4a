/- A part of the proof: an evaluator of the model, its laws, and contracts of functions; no condition. -/
import Derived.Test.YtjagkbamkohnoaaGreatProg
import Derived.Test.YtjagkbamkohnoaaGreatEvM
set_option linter.unusedVariables false
namespace Go.Proofs.YtjagkbamkohnoaaGreat.X
open Go Go.Ev
noncomputable def P : Program := Tryz.prog
theorem plain : Plain P := by
  have h : (P.funcs.toList.all fun fn => fn.body.isNone || fn.name != "runtime.NumGoroutine") = true := by kernel_rfl
  intro fn hf hb
  rw [List.all_eq_true] at h
  have := h fn (Array.mem_toList_iff.2 hf)
  simp only [Option.isNone_iff_eq_none, Bool.or_eq_true, bne_iff_ne, ne_eq] at this
  rcases this with h | h
  · rw [h] at hb; simp at hb
  · exact h
theorem Yo : P.follows .mixedOrders = true := by kernel_rfl
end Go.Proofs.YtjagkbamkohnoaaGreat.X
set_option linter.unusedVariables false
namespace Go.Proofs.YtjagkbamkohnoaaGreat.X
open Go Go.Ev
@[simp] theorem al_25 (w : World) : al P 25 w = some (pt w.heap.size 0, w.alloc (.cells #[(Go.Value.slice none 0 0)] 25)) := al_eq (z := [(Go.Value.slice none 0 0)]) (by kernel_rfl) w
@[simp] theorem al_34 (w : World) : al P 34 w = some (pt w.heap.size 0, w.alloc (.cells #[(Go.Value.slice none 0 0)] 34)) := al_eq (z := [(Go.Value.slice none 0 0)]) (by kernel_rfl) w
@[simp] theorem al_36 (w : World) : al P 36 w = some (pt w.heap.size 0, w.alloc (.cells #[(Go.Value.slice none 0 0), (Go.Value.slice none 0 0)] 36)) := al_eq (z := [(Go.Value.slice none 0 0), (Go.Value.slice none 0 0)]) (by kernel_rfl) w
@[simp] theorem al_40 (w : World) : al P 40 w = some (pt w.heap.size 0, w.alloc (.cells #[(.int .i64 0), (.int .i64 0)] 40)) := al_eq (z := [(.int .i64 0), (.int .i64 0)]) (by kernel_rfl) w
@[simp] theorem al_43 (w : World) : al P 43 w = some (pt w.heap.size 0, w.alloc (.cells #[(Go.Value.slice none 0 0)] 43)) := al_eq (z := [(Go.Value.slice none 0 0)]) (by kernel_rfl) w
@[simp] theorem al_45 (w : World) : al P 45 w = some (pt w.heap.size 0, w.alloc (.cells #[(.int .i64 0), (.int .i64 0), (.int .i64 0), (Go.Value.slice none 0 0), (Go.Value.string { data := #[] }), (.bool false)] 45)) := al_eq (z := [(.int .i64 0), (.int .i64 0), (.int .i64 0), (Go.Value.slice none 0 0), (Go.Value.string { data := #[] }), (.bool false)]) (by kernel_rfl) w
@[simp] theorem len_22 (a : Option Addr) (n c : Nat) (w : World) : Yp P #[22] 3 #[.slice a n c] w = some (i64 n, w) := len_slice (e := 5) (s := (1, 1)) (by kernel_rfl) a n c w
@[simp] theorem len_23 (a : Option Addr) (n c : Nat) (w : World) : Yp P #[23] 3 #[.slice a n c] w = some (i64 n, w) := len_slice (e := 36) (s := (2, 48)) (by kernel_rfl) a n c w
@[simp] theorem len_32 (a : Option Addr) (n c : Nat) (w : World) : Yp P #[32] 3 #[.slice a n c] w = some (i64 n, w) := len_slice (e := 45) (s := (6, 72)) (by kernel_rfl) a n c w
@[simp] theorem len_41 (a : Option Addr) (n c : Nat) (w : World) : Yp P #[41] 3 #[.slice a n c] w = some (i64 n, w) := len_slice (e := 40) (s := (2, 16)) (by kernel_rfl) a n c w
@[simp] theorem len_53 (a : Option Addr) (n c : Nat) (w : World) : Yp P #[53] 3 #[.slice a n c] w = some (i64 n, w) := len_slice (e := 3) (s := (1, 8)) (by kernel_rfl) a n c w
@[simp] theorem len_9 (s : ByteArray) (w : World) : Yp P #[9] 3 #[.string s] w = some (i64 s.size, w) := len_str (by kernel_rfl) s w
@[simp] theorem len_92 (a : Option Addr) (n c : Nat) (w : World) : Yp P #[92] 3 #[.slice a n c] w = some (i64 n, w) := len_slice (e := 9) (s := (1, 16)) (by kernel_rfl) a n c w
@[simp] theorem bo_eql_4 (x y : Operand) (a b : Bool) (w : World) : bo P .eql 4 x y (.bool a) (.bool b) w = some (.bool (a == b), w) := bo_eql_bool (by kernel_rfl) x y a b w
theorem fs_40 : (P.fieldsOf 40).toList = [{ name := "Time", type := 3, offset := 0, embedded := false, tag := "", pkgPath := "", byteOffset := 0 }, { name := "Place", type := 3, offset := 1, embedded := false, tag := "", pkgPath := "", byteOffset := 8 }] := by kernel_rfl
@[simp] theorem bo_eql_40 (x y : Operand) (a0 a1 b0 b1 : Int) (w : World) : bo P .eql 40 x y (.agg #[i64 a0, i64 a1]) (.agg #[i64 b0, i64 b1]) w = some (.bool (((a0 == b0) && (a1 == b1))), w) := by
  have hg := run_eqGuard_agg (P := P) w .eql 40 x y #[i64 a0, i64 a1] #[i64 b0, i64 b1] (by kernel_rfl)
  have hs := run_equalIn_struct (P := P) w 9999 40 #[i64 a0, i64 a1] #[i64 b0, i64 b1] (by kernel_rfl) (by kernel_rfl)
  simp only [bo, Sem.run_bind, hg, Result.andThen_ok, run_eql_struct, hs, fs_40]
  exact eqTwo_eql (by kernel_rfl) (by kernel_rfl) ⟨by simp, by simp, rfl, rfl⟩ _ _ _ _ w
@[simp] theorem bo_neq_4 (x y : Operand) (a b : Bool) (w : World) : bo P .neq 4 x y (.bool a) (.bool b) w = some (.bool (!(a == b)), w) := bo_neq_bool (by kernel_rfl) x y a b w
@[simp] theorem bo_neq_40 (x y : Operand) (a0 a1 b0 b1 : Int) (w : World) : bo P .neq 40 x y (.agg #[i64 a0, i64 a1]) (.agg #[i64 b0, i64 b1]) w = some (.bool (!((a0 == b0) && (a1 == b1))), w) := by
  have hg := run_eqGuard_agg (P := P) w .neq 40 x y #[i64 a0, i64 a1] #[i64 b0, i64 b1] (by kernel_rfl)
  have hs := run_equalIn_struct (P := P) w 9999 40 #[i64 a0, i64 a1] #[i64 b0, i64 b1] (by kernel_rfl) (by kernel_rfl)
  simp only [bo, Sem.run_bind, hg, Result.andThen_ok, run_neq_struct, hs, fs_40]
  exact eqTwo_neq (by kernel_rfl) (by kernel_rfl) ⟨by simp, by simp, rfl, rfl⟩ _ _ _ _ w
@[simp] theorem fa_25_0 (b o : Nat) (w : World) : fa P 25 (pt b o) 0 w = some (pt b (o + 0), w) := fa_eq (n := 0) (g := some false) (by kernel_rfl) b o w
@[simp] theorem fa_34_0 (b o : Nat) (w : World) : fa P 34 (pt b o) 0 w = some (pt b (o + 0), w) := fa_eq (n := 0) (g := some false) (by kernel_rfl) b o w
@[simp] theorem fa_36_0 (b o : Nat) (w : World) : fa P 36 (pt b o) 0 w = some (pt b (o + 0), w) := fa_eq (n := 0) (g := some true) (by kernel_rfl) b o w
@[simp] theorem fa_36_1 (b o : Nat) (w : World) : fa P 36 (pt b o) 1 w = some (pt b (o + 1), w) := fa_eq (n := 0) (g := some false) (by kernel_rfl) b o w
@[simp] theorem fa_40_0 (b o : Nat) (w : World) : fa P 40 (pt b o) 0 w = some (pt b (o + 0), w) := fa_eq (n := 0) (g := some false) (by kernel_rfl) b o w
@[simp] theorem fa_40_1 (b o : Nat) (w : World) : fa P 40 (pt b o) 1 w = some (pt b (o + 1), w) := fa_eq (n := 0) (g := some false) (by kernel_rfl) b o w
@[simp] theorem fa_43_0 (b o : Nat) (w : World) : fa P 43 (pt b o) 0 w = some (pt b (o + 0), w) := fa_eq (n := 0) (g := some false) (by kernel_rfl) b o w
@[simp] theorem fa_45_0 (b o : Nat) (w : World) : fa P 45 (pt b o) 0 w = some (pt b (o + 0), w) := fa_eq (n := 0) (g := some false) (by kernel_rfl) b o w
@[simp] theorem fa_45_1 (b o : Nat) (w : World) : fa P 45 (pt b o) 1 w = some (pt b (o + 1), w) := fa_eq (n := 1) (g := some true) (by kernel_rfl) b o w
@[simp] theorem fa_45_2 (b o : Nat) (w : World) : fa P 45 (pt b o) 2 w = some (pt b (o + 3), w) := fa_eq (n := 0) (g := some true) (by kernel_rfl) b o w
@[simp] theorem fa_45_3 (b o : Nat) (w : World) : fa P 45 (pt b o) 3 w = some (pt b (o + 4), w) := fa_eq (n := 0) (g := some false) (by kernel_rfl) b o w
@[simp] theorem fa_45_4 (b o : Nat) (w : World) : fa P 45 (pt b o) 4 w = some (pt b (o + 5), w) := fa_eq (n := 0) (g := some false) (by kernel_rfl) b o w
@[simp] theorem fa_71_0 (b o : Nat) (w : World) : fa P 71 (pt b o) 0 w = some (pt b (o + 0), w) := fa_eq (n := 0) (g := some false) (by kernel_rfl) b o w
@[simp] theorem fa_71_1 (b o : Nat) (w : World) : fa P 71 (pt b o) 1 w = some (pt b (o + 1), w) := fa_eq (n := 0) (g := some false) (by kernel_rfl) b o w
theorem el_22 : elB P 22 = some (5, 1, 1) := by kernel_rfl
theorem ia_22 {b o n c : Nat} {i : Int} (h0 : 0 ≤ i) (h1 : i < n) (w : World) : ia P 22 (.slice (some ⟨b, o, none⟩) n c) (i64 i) w = some (pt b (o + i.toNat * 1), w) := ia_eq el_22 h0 h1 w
theorem el_23 : elB P 23 = some (36, 2, 48) := by kernel_rfl
theorem ia_23 {b o n c : Nat} {i : Int} (h0 : 0 ≤ i) (h1 : i < n) (w : World) : ia P 23 (.slice (some ⟨b, o, none⟩) n c) (i64 i) w = some (pt b (o + i.toNat * 2), w) := ia_eq el_23 h0 h1 w
theorem el_32 : elB P 32 = some (45, 6, 72) := by kernel_rfl
theorem ia_32 {b o n c : Nat} {i : Int} (h0 : 0 ≤ i) (h1 : i < n) (w : World) : ia P 32 (.slice (some ⟨b, o, none⟩) n c) (i64 i) w = some (pt b (o + i.toNat * 6), w) := ia_eq el_32 h0 h1 w
theorem el_41 : elB P 41 = some (40, 2, 16) := by kernel_rfl
theorem ia_41 {b o n c : Nat} {i : Int} (h0 : 0 ≤ i) (h1 : i < n) (w : World) : ia P 41 (.slice (some ⟨b, o, none⟩) n c) (i64 i) w = some (pt b (o + i.toNat * 2), w) := ia_eq el_41 h0 h1 w
theorem el_53 : elB P 53 = some (3, 1, 8) := by kernel_rfl
theorem ia_53 {b o n c : Nat} {i : Int} (h0 : 0 ≤ i) (h1 : i < n) (w : World) : ia P 53 (.slice (some ⟨b, o, none⟩) n c) (i64 i) w = some (pt b (o + i.toNat * 1), w) := ia_eq el_53 h0 h1 w
theorem el_92 : elB P 92 = some (9, 1, 16) := by kernel_rfl
theorem ia_92 {b o n c : Nat} {i : Int} (h0 : 0 ≤ i) (h1 : i < n) (w : World) : ia P 92 (.slice (some ⟨b, o, none⟩) n c) (i64 i) w = some (pt b (o + i.toNat * 1), w) := ia_eq el_92 h0 h1 w
@[simp] theorem ld_22 (b o : Nat) (w : World) : ld P 22 (pt b o) w = ldR P 22 b o w (cellO (hp w b) o) := ld_one (by kernel_rfl) b o w
@[simp] theorem ld_23 (b o : Nat) (w : World) : ld P 23 (pt b o) w = ldR P 23 b o w (cellO (hp w b) o) := ld_one (by kernel_rfl) b o w
@[simp] theorem ld_25 (b o : Nat) (w : World) : ld P 25 (pt b o) w = ldL P 25 b o w (cellsAt w b o 1) := ld_agg (by kernel_rfl) (by kernel_rfl) b o w
@[simp] theorem ld_3 (b o : Nat) (w : World) : ld P 3 (pt b o) w = ldR P 3 b o w (cellO (hp w b) o) := ld_one (by kernel_rfl) b o w
@[simp] theorem ld_32 (b o : Nat) (w : World) : ld P 32 (pt b o) w = ldR P 32 b o w (cellO (hp w b) o) := ld_one (by kernel_rfl) b o w
@[simp] theorem ld_34 (b o : Nat) (w : World) : ld P 34 (pt b o) w = ldL P 34 b o w (cellsAt w b o 1) := ld_agg (by kernel_rfl) (by kernel_rfl) b o w
@[simp] theorem ld_36 (b o : Nat) (w : World) : ld P 36 (pt b o) w = ldL P 36 b o w (cellsAt w b o 2) := ld_agg (by kernel_rfl) (by kernel_rfl) b o w
@[simp] theorem ld_4 (b o : Nat) (w : World) : ld P 4 (pt b o) w = ldR P 4 b o w (cellO (hp w b) o) := ld_one (by kernel_rfl) b o w
@[simp] theorem ld_40 (b o : Nat) (w : World) : ld P 40 (pt b o) w = ldL P 40 b o w (cellsAt w b o 2) := ld_agg (by kernel_rfl) (by kernel_rfl) b o w
@[simp] theorem ld_41 (b o : Nat) (w : World) : ld P 41 (pt b o) w = ldR P 41 b o w (cellO (hp w b) o) := ld_one (by kernel_rfl) b o w
@[simp] theorem ld_43 (b o : Nat) (w : World) : ld P 43 (pt b o) w = ldL P 43 b o w (cellsAt w b o 1) := ld_agg (by kernel_rfl) (by kernel_rfl) b o w
@[simp] theorem ld_45 (b o : Nat) (w : World) : ld P 45 (pt b o) w = ldL P 45 b o w (cellsAt w b o 6) := ld_agg (by kernel_rfl) (by kernel_rfl) b o w
@[simp] theorem ld_5 (b o : Nat) (w : World) : ld P 5 (pt b o) w = ldR P 5 b o w (cellO (hp w b) o) := ld_one (by kernel_rfl) b o w
@[simp] theorem ld_9 (b o : Nat) (w : World) : ld P 9 (pt b o) w = ldR P 9 b o w (cellO (hp w b) o) := ld_one (by kernel_rfl) b o w
@[simp] theorem st_23 (b o : Nat) (v : Value) (w : World) : st P 23 (pt b o) v w = stR P 23 1 b o v w (hp w b) := st_eq (by kernel_rfl) b o v w
@[simp] theorem st_25 (b o : Nat) (v : Value) (w : World) : st P 25 (pt b o) v w = stR P 25 1 b o v w (hp w b) := st_eq (by kernel_rfl) b o v w
@[simp] theorem st_3 (b o : Nat) (v : Value) (w : World) : st P 3 (pt b o) v w = stR P 3 1 b o v w (hp w b) := st_eq (by kernel_rfl) b o v w
@[simp] theorem st_32 (b o : Nat) (v : Value) (w : World) : st P 32 (pt b o) v w = stR P 32 1 b o v w (hp w b) := st_eq (by kernel_rfl) b o v w
@[simp] theorem st_34 (b o : Nat) (v : Value) (w : World) : st P 34 (pt b o) v w = stR P 34 1 b o v w (hp w b) := st_eq (by kernel_rfl) b o v w
@[simp] theorem st_36 (b o : Nat) (v : Value) (w : World) : st P 36 (pt b o) v w = stR P 36 2 b o v w (hp w b) := st_eq (by kernel_rfl) b o v w
@[simp] theorem st_4 (b o : Nat) (v : Value) (w : World) : st P 4 (pt b o) v w = stR P 4 1 b o v w (hp w b) := st_eq (by kernel_rfl) b o v w
@[simp] theorem st_40 (b o : Nat) (v : Value) (w : World) : st P 40 (pt b o) v w = stR P 40 2 b o v w (hp w b) := st_eq (by kernel_rfl) b o v w
@[simp] theorem st_41 (b o : Nat) (v : Value) (w : World) : st P 41 (pt b o) v w = stR P 41 1 b o v w (hp w b) := st_eq (by kernel_rfl) b o v w
@[simp] theorem st_43 (b o : Nat) (v : Value) (w : World) : st P 43 (pt b o) v w = stR P 43 1 b o v w (hp w b) := st_eq (by kernel_rfl) b o v w
@[simp] theorem st_45 (b o : Nat) (v : Value) (w : World) : st P 45 (pt b o) v w = stR P 45 6 b o v w (hp w b) := st_eq (by kernel_rfl) b o v w
@[simp] theorem st_9 (b o : Nat) (v : Value) (w : World) : st P 9 (pt b o) v w = stR P 9 1 b o v w (hp w b) := st_eq (by kernel_rfl) b o v w
theorem zz_36 : zeroB P 36 = some [(Go.Value.slice none 0 0), (Go.Value.slice none 0 0)] := by kernel_rfl
theorem zz_45 : zeroB P 45 = some [(.int .i64 0), (.int .i64 0), (.int .i64 0), (Go.Value.slice none 0 0), (Go.Value.string { data := #[] }), (.bool false)] := by kernel_rfl
theorem zz_40 : zeroB P 40 = some [(.int .i64 0), (.int .i64 0)] := by kernel_rfl
@[simp] theorem bd_25_  (w : World) : bd P 25 #[] w = some (.agg #[(Go.Value.slice none 0 0)], w) := bd_of (by kernel_rfl)
@[simp] theorem bd_25_0 (a1 : Option Addr) (l1 c1 : Nat) (w : World) : bd P 25 #[(0, (.slice a1 l1 c1))] w = some (.agg #[.slice a1 l1 c1], w) := bd_of (by kernel_rfl)
@[simp] theorem bd_34_  (w : World) : bd P 34 #[] w = some (.agg #[(Go.Value.slice none 0 0)], w) := bd_of (by kernel_rfl)
@[simp] theorem bd_34_0 (a1 : Option Addr) (l1 c1 : Nat) (w : World) : bd P 34 #[(0, (.slice a1 l1 c1))] w = some (.agg #[.slice a1 l1 c1], w) := bd_of (by kernel_rfl)
@[simp] theorem bd_36_0_1 (a1 : Option Addr) (l1 c1 : Nat) (a2 : Option Addr) (l2 c2 : Nat) (w : World) : bd P 36 #[(0, (.agg #[.slice a1 l1 c1])), (1, (.slice a2 l2 c2))] w = some (.agg #[.slice a1 l1 c1, .slice a2 l2 c2], w) := bd_of (by kernel_rfl)
@[simp] theorem bd_36_0 (a1 : Option Addr) (l1 c1 : Nat) (w : World) : bd P 36 #[(0, (.agg #[.slice a1 l1 c1]))] w = some (.agg #[.slice a1 l1 c1, (Go.Value.slice none 0 0)], w) := bd_of (by kernel_rfl)
@[simp] theorem bd_40_  (w : World) : bd P 40 #[] w = some (.agg #[(.int .i64 0), (.int .i64 0)], w) := bd_of (by kernel_rfl)
@[simp] theorem bd_40_0_1 (n1 : Int) (n2 : Int) (w : World) : bd P 40 #[(0, (.int .i64 n1)), (1, (.int .i64 n2))] w = some (.agg #[.int .i64 n1, .int .i64 n2], w) := bd_of (by kernel_rfl)
@[simp] theorem bd_43_  (w : World) : bd P 43 #[] w = some (.agg #[(Go.Value.slice none 0 0)], w) := bd_of (by kernel_rfl)
@[simp] theorem bd_43_0 (a1 : Option Addr) (l1 c1 : Nat) (w : World) : bd P 43 #[(0, (.slice a1 l1 c1))] w = some (.agg #[.slice a1 l1 c1], w) := bd_of (by kernel_rfl)
@[simp] theorem bd_45_  (w : World) : bd P 45 #[] w = some (.agg #[(.int .i64 0), (.int .i64 0), (.int .i64 0), (Go.Value.slice none 0 0), (Go.Value.string { data := #[] }), (.bool false)], w) := bd_of (by kernel_rfl)
@[simp] theorem bd_45_0_2_3 (n1 : Int) (a2 : Option Addr) (l2 c2 : Nat) (s3 : ByteArray) (w : World) : bd P 45 #[(0, (.int .i64 n1)), (2, (.agg #[.slice a2 l2 c2])), (3, (.string s3))] w = some (.agg #[.int .i64 n1, (.int .i64 0), (.int .i64 0), .slice a2 l2 c2, .string s3, (.bool false)], w) := bd_of (by kernel_rfl)
@[simp] theorem bd_45_3 (s1 : ByteArray) (w : World) : bd P 45 #[(3, (.string s1))] w = some (.agg #[(.int .i64 0), (.int .i64 0), (.int .i64 0), (Go.Value.slice none 0 0), .string s1, (.bool false)], w) := bd_of (by kernel_rfl)
@[simp] theorem bd_71_0 (a1 : Option Addr) (l1 c1 : Nat) (w : World) : bd P 71 #[(0, (.slice a1 l1 c1))] w = some (.agg #[.slice a1 l1 c1, (.int .i64 0)], w) := bd_of (by kernel_rfl)
@[simp] theorem bs_22_1_0 (n1 : Int) (w : World) : bs P 22 1 #[(0, (.int .u8 n1))] w = some (.slice (some ⟨w.heap.size, 0, none⟩) 1 1, w.alloc (.cells #[.int .u8 n1] 5)) := bs_of (by kernel_rfl)
@[simp] theorem bs_23_0 (w : World) : bs P 23 0 #[] w = some (.slice (some ⟨w.heap.size, 0, none⟩) 0 0, w.alloc (.cells #[] 36)) := bs_zero (n := 2) (by kernel_rfl) (by kernel_rfl) w
@[simp] theorem bs_23_1_0 (a1 : Option Addr) (l1 c1 : Nat) (a2 : Option Addr) (l2 c2 : Nat) (w : World) : bs P 23 1 #[(0, (.agg #[.slice a1 l1 c1, .slice a2 l2 c2]))] w = some (.slice (some ⟨w.heap.size, 0, none⟩) 1 1, w.alloc (.cells #[.slice a1 l1 c1, .slice a2 l2 c2] 36)) := bs_of (by kernel_rfl)
@[simp] theorem bs_32_0 (w : World) : bs P 32 0 #[] w = some (.slice (some ⟨w.heap.size, 0, none⟩) 0 0, w.alloc (.cells #[] 45)) := bs_zero (n := 6) (by kernel_rfl) (by kernel_rfl) w
@[simp] theorem bs_32_1_0 (n1 : Int) (n2 : Int) (n3 : Int) (a4 : Option Addr) (l4 c4 : Nat) (s5 : ByteArray) (b6 : Bool) (w : World) : bs P 32 1 #[(0, (.agg #[.int .i64 n1, .int .i64 n2, .int .i64 n3, .slice a4 l4 c4, .string s5, .bool b6]))] w = some (.slice (some ⟨w.heap.size, 0, none⟩) 1 1, w.alloc (.cells #[.int .i64 n1, .int .i64 n2, .int .i64 n3, .slice a4 l4 c4, .string s5, .bool b6] 45)) := bs_of (by kernel_rfl)
@[simp] theorem bs_41_0 (w : World) : bs P 41 0 #[] w = some (.slice (some ⟨w.heap.size, 0, none⟩) 0 0, w.alloc (.cells #[] 40)) := bs_zero (n := 2) (by kernel_rfl) (by kernel_rfl) w
@[simp] theorem bs_53_2_0_1 (n1 : Int) (n2 : Int) (w : World) : bs P 53 2 #[(0, (.int .i64 n1)), (1, (.int .i64 n2))] w = some (.slice (some ⟨w.heap.size, 0, none⟩) 2 2, w.alloc (.cells #[.int .i64 n1, .int .i64 n2] 3)) := bs_of (by kernel_rfl)
@[simp] theorem bs_53_4_0_1_2_3 (n1 : Int) (n2 : Int) (n3 : Int) (n4 : Int) (w : World) : bs P 53 4 #[(0, (.int .i64 n1)), (1, (.int .i64 n2)), (2, (.int .i64 n3)), (3, (.int .i64 n4))] w = some (.slice (some ⟨w.heap.size, 0, none⟩) 4 4, w.alloc (.cells #[.int .i64 n1, .int .i64 n2, .int .i64 n3, .int .i64 n4] 3)) := bs_of (by kernel_rfl)
@[simp] theorem bs_53_8_0_1_2_3_4_5_6_7 (n1 : Int) (n2 : Int) (n3 : Int) (n4 : Int) (n5 : Int) (n6 : Int) (n7 : Int) (n8 : Int) (w : World) : bs P 53 8 #[(0, (.int .i64 n1)), (1, (.int .i64 n2)), (2, (.int .i64 n3)), (3, (.int .i64 n4)), (4, (.int .i64 n5)), (5, (.int .i64 n6)), (6, (.int .i64 n7)), (7, (.int .i64 n8))] w = some (.slice (some ⟨w.heap.size, 0, none⟩) 8 8, w.alloc (.cells #[.int .i64 n1, .int .i64 n2, .int .i64 n3, .int .i64 n4, .int .i64 n5, .int .i64 n6, .int .i64 n7, .int .i64 n8] 3)) := bs_of (by kernel_rfl)
@[simp] theorem bs_92_3_0_1_2 (s1 : ByteArray) (s2 : ByteArray) (s3 : ByteArray) (w : World) : bs P 92 3 #[(0, (.string s1)), (1, (.string s2)), (2, (.string s3))] w = some (.slice (some ⟨w.heap.size, 0, none⟩) 3 3, w.alloc (.cells #[.string s1, .string s2, .string s3] 9)) := bs_of (by kernel_rfl)
@[simp] theorem bs_92_8_0_1_2_3_4_5_6_7 (s1 : ByteArray) (s2 : ByteArray) (s3 : ByteArray) (s4 : ByteArray) (s5 : ByteArray) (s6 : ByteArray) (s7 : ByteArray) (s8 : ByteArray) (w : World) : bs P 92 8 #[(0, (.string s1)), (1, (.string s2)), (2, (.string s3)), (3, (.string s4)), (4, (.string s5)), (5, (.string s6)), (6, (.string s7)), (7, (.string s8))] w = some (.slice (some ⟨w.heap.size, 0, none⟩) 8 8, w.alloc (.cells #[.string s1, .string s2, .string s3, .string s4, .string s5, .string s6, .string s7, .string s8] 9)) := bs_of (by kernel_rfl)
@[simp] theorem cv_3_5 (n : Int) (w : World) : cv P 3 5 (.int .i64 n) w = some (.int .u8 (IntKind.wrap .u8 n), w) := cv_int (by kernel_rfl) (by kernel_rfl) _ n w
@[simp] theorem cv_5_3 (n : Int) (w : World) : cv P 5 3 (.int .u8 n) w = some (.int .i64 (IntKind.wrap .i64 n), w) := cv_int (by kernel_rfl) (by kernel_rfl) _ n w
attribute [simp ↓] bnd cnd_t cnd_f ifP_true gif_tt gif_tf gif_ft gif_ff gif_u pick_t pick_f
attribute [simp] bx_eq bo_lss bo_leq bo_gtr bo_geq bo_eql bo_neq bo_add bo_sub bo_mul bo_eql_str bo_neq_str uo_not uo_neg ret_some World.size_alloc size_setRow cells_agg cells_int cells_bool cells_string cells_slice cells_pointer cells_map cells_nilIface cells_func vl_eq Za Ym ldR_some ldL_some Zm Zl cellsAt_zero cellsAt_succ consO_some cellO_some nth_nil nth_zero nth_succ setO_some hp_set_eq Value.oneCell'
end Go.Proofs.YtjagkbamkohnoaaGreat.X
