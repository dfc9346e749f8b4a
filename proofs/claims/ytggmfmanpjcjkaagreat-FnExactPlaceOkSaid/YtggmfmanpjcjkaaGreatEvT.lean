/- A part of the proof: an evaluator of the model, its laws, and contracts of functions; no condition. -/
import Derived.Test.YtggmfmanpjcjkaaGreatProg
import Derived.Test.YtggmfmanpjcjkaaGreatEvM
set_option linter.unusedVariables false
namespace Go.Proofs.YtggmfmanpjcjkaaGreat.X
open Go Go.Ev
noncomputable def P : Program := Tryz.prog
theorem plain : Plain P := by
  have h : (P.funcs.toList.all fun fn => fn.body.isNone || fn.name != "runtime.NumGoroutine") = true := by kernel_rfl
  intro fn hf hb
  rw [List.all_eq_true] at h
  have := h fn (Array.mem_toList_iff.2 hf)
  simp only [Option.isNone_iff_eq_none, Bool.or_eq_true, bne_iff_ne, ne_eq] at this
  rcases this with h | h
  · rw [h] at hb; simp at hb
  · exact h
theorem mixed : P.follows .mixedOrders = true := by kernel_rfl
end Go.Proofs.YtggmfmanpjcjkaaGreat.X
set_option linter.unusedVariables false
namespace Go.Proofs.YtggmfmanpjcjkaaGreat.X
open Go Go.Ev
@[simp] theorem al_105 (w : World) : al P 105 w = some (pt w.heap.size 0, w.alloc (.cells #[(.int .i64 0), (.int .i64 0), (.int .i64 0), (.int .i64 0), (.int .i64 0)] 105)) := al_eq (z := [(.int .i64 0), (.int .i64 0), (.int .i64 0), (.int .i64 0), (.int .i64 0)]) (by kernel_rfl) w
@[simp] theorem al_181 (w : World) : al P 181 w = some (pt w.heap.size 0, w.alloc (.cells #[(.int .i64 0), (.int .i64 0), (Go.Value.slice none 0 0)] 181)) := al_eq (z := [(.int .i64 0), (.int .i64 0), (Go.Value.slice none 0 0)]) (by kernel_rfl) w
@[simp] theorem al_30 (w : World) : al P 30 w = some (pt w.heap.size 0, w.alloc (.cells #[(Go.Value.slice none 0 0), (Go.Value.slice none 0 0), (Go.Value.slice none 0 0), (Go.Value.slice none 0 0)] 30)) := al_eq (z := [(Go.Value.slice none 0 0), (Go.Value.slice none 0 0), (Go.Value.slice none 0 0), (Go.Value.slice none 0 0)]) (by kernel_rfl) w
@[simp] theorem al_46 (w : World) : al P 46 w = some (pt w.heap.size 0, w.alloc (.cells #[(Go.Value.slice none 0 0)] 46)) := al_eq (z := [(Go.Value.slice none 0 0)]) (by kernel_rfl) w
@[simp] theorem al_50 (w : World) : al P 50 w = some (pt w.heap.size 0, w.alloc (.cells #[(.int .i64 0), (.int .i64 0), (Go.Value.slice none 0 0), (Go.Value.slice none 0 0), (Go.Value.slice none 0 0), (.bool false)] 50)) := al_eq (z := [(.int .i64 0), (.int .i64 0), (Go.Value.slice none 0 0), (Go.Value.slice none 0 0), (Go.Value.slice none 0 0), (.bool false)]) (by kernel_rfl) w
@[simp] theorem al_62 (w : World) : al P 62 w = some (pt w.heap.size 0, w.alloc (.cells #[(Go.Value.slice none 0 0)] 62)) := al_eq (z := [(Go.Value.slice none 0 0)]) (by kernel_rfl) w
@[simp] theorem al_64 (w : World) : al P 64 w = some (pt w.heap.size 0, w.alloc (.cells #[(.int .i64 0), (.int .i64 0)] 64)) := al_eq (z := [(.int .i64 0), (.int .i64 0)]) (by kernel_rfl) w
@[simp] theorem al_66 (w : World) : al P 66 w = some (pt w.heap.size 0, w.alloc (.cells #[(.int .i64 0), (Go.Value.slice none 0 0), (.int .i64 0), (.int .i64 0), (.int .i64 0)] 66)) := al_eq (z := [(.int .i64 0), (Go.Value.slice none 0 0), (.int .i64 0), (.int .i64 0), (.int .i64 0)]) (by kernel_rfl) w
@[simp] theorem al_69 (w : World) : al P 69 w = some (pt w.heap.size 0, w.alloc (.cells #[(.int .i64 0), (.int .i64 0), (.int .i64 0), (Go.Value.slice none 0 0), (Go.Value.string { data := #[] }), (.bool false)] 69)) := al_eq (z := [(.int .i64 0), (.int .i64 0), (.int .i64 0), (Go.Value.slice none 0 0), (Go.Value.string { data := #[] }), (.bool false)]) (by kernel_rfl) w
@[simp] theorem al_71 (w : World) : al P 71 w = some (pt w.heap.size 0, w.alloc (.cells #[(.int .i64 0), (.int .i64 0), (.int .i64 0), (.int .i64 0), (.int .i64 0), (.int .i64 0), (Go.Value.slice none 0 0), (Go.Value.string { data := #[] }), (.bool false)] 71)) := al_eq (z := [(.int .i64 0), (.int .i64 0), (.int .i64 0), (.int .i64 0), (.int .i64 0), (.int .i64 0), (Go.Value.slice none 0 0), (Go.Value.string { data := #[] }), (.bool false)]) (by kernel_rfl) w
@[simp] theorem al_91 (w : World) : al P 91 w = some (pt w.heap.size 0, w.alloc (.cells #[(Go.Value.slice none 0 0)] 91)) := al_eq (z := [(Go.Value.slice none 0 0)]) (by kernel_rfl) w
@[simp] theorem al_95 (w : World) : al P 95 w = some (pt w.heap.size 0, w.alloc (.cells #[(Go.Value.slice none 0 0), (Go.Value.slice none 0 0)] 95)) := al_eq (z := [(Go.Value.slice none 0 0), (Go.Value.slice none 0 0)]) (by kernel_rfl) w
@[simp] theorem len_121 (a : Option Addr) (n c : Nat) (w : World) : b_len P #[121] 3 #[.slice a n c] w = some (i64 n, w) := len_slice (e := 120) (s := (2, 16)) (by kernel_rfl) a n c w
@[simp] theorem len_22 (a : Option Addr) (n c : Nat) (w : World) : b_len P #[22] 3 #[.slice a n c] w = some (i64 n, w) := len_slice (e := 5) (s := (1, 1)) (by kernel_rfl) a n c w
@[simp] theorem len_25 (a : Option Addr) (n c : Nat) (w : World) : b_len P #[25] 3 #[.slice a n c] w = some (i64 n, w) := len_slice (e := 50) (s := (6, 96)) (by kernel_rfl) a n c w
@[simp] theorem len_26 (a : Option Addr) (n c : Nat) (w : World) : b_len P #[26] 3 #[.slice a n c] w = some (i64 n, w) := len_slice (e := 66) (s := (5, 56)) (by kernel_rfl) a n c w
@[simp] theorem len_27 (a : Option Addr) (n c : Nat) (w : World) : b_len P #[27] 3 #[.slice a n c] w = some (i64 n, w) := len_slice (e := 71) (s := (9, 96)) (by kernel_rfl) a n c w
@[simp] theorem len_28 (a : Option Addr) (n c : Nat) (w : World) : b_len P #[28] 3 #[.slice a n c] w = some (i64 n, w) := len_slice (e := 105) (s := (5, 40)) (by kernel_rfl) a n c w
@[simp] theorem len_35 (a : Option Addr) (n c : Nat) (w : World) : b_len P #[35] 3 #[.slice a n c] w = some (i64 n, w) := len_slice (e := 148) (s := (2, 48)) (by kernel_rfl) a n c w
@[simp] theorem len_38 (a : Option Addr) (n c : Nat) (w : World) : b_len P #[38] 3 #[.slice a n c] w = some (i64 n, w) := len_slice (e := 125) (s := (6, 72)) (by kernel_rfl) a n c w
@[simp] theorem len_39 (a : Option Addr) (n c : Nat) (w : World) : b_len P #[39] 3 #[.slice a n c] w = some (i64 n, w) := len_slice (e := 38) (s := (1, 24)) (by kernel_rfl) a n c w
@[simp] theorem len_44 (a : Option Addr) (n c : Nat) (w : World) : b_len P #[44] 3 #[.slice a n c] w = some (i64 n, w) := len_slice (e := 95) (s := (2, 48)) (by kernel_rfl) a n c w
@[simp] theorem len_47 (a : Option Addr) (n c : Nat) (w : World) : b_len P #[47] 3 #[.slice a n c] w = some (i64 n, w) := len_slice (e := 69) (s := (6, 72)) (by kernel_rfl) a n c w
@[simp] theorem len_48 (a : Option Addr) (n c : Nat) (w : World) : b_len P #[48] 3 #[.slice a n c] w = some (i64 n, w) := len_slice (e := 47) (s := (1, 24)) (by kernel_rfl) a n c w
@[simp] theorem len_57 (a : Option Addr) (n c : Nat) (w : World) : b_len P #[57] 3 #[.slice a n c] w = some (i64 n, w) := len_slice (e := 3) (s := (1, 8)) (by kernel_rfl) a n c w
@[simp] theorem len_60 (a : Option Addr) (n c : Nat) (w : World) : b_len P #[60] 3 #[.slice a n c] w = some (i64 n, w) := len_slice (e := 64) (s := (2, 16)) (by kernel_rfl) a n c w
@[simp] theorem len_9 (s : ByteArray) (w : World) : b_len P #[9] 3 #[.string s] w = some (i64 s.size, w) := len_str (by kernel_rfl) s w
@[simp] theorem bo_eql_4 (x y : Operand) (a b : Bool) (w : World) : bo P .eql 4 x y (.bool a) (.bool b) w = some (.bool (a == b), w) := bo_eql_bool (by kernel_rfl) x y a b w
theorem fs_64 : (P.fieldsOf 64).toList = [{ name := "Time", type := 3, offset := 0, embedded := false, tag := "", pkgPath := "", byteOffset := 0 }, { name := "Place", type := 3, offset := 1, embedded := false, tag := "", pkgPath := "", byteOffset := 8 }] := by kernel_rfl
@[simp] theorem bo_eql_64 (x y : Operand) (a0 a1 b0 b1 : Int) (w : World) : bo P .eql 64 x y (.agg #[i64 a0, i64 a1]) (.agg #[i64 b0, i64 b1]) w = some (.bool (((a0 == b0) && (a1 == b1))), w) := by
  have hg := run_eqGuard_agg (P := P) w .eql 64 x y #[i64 a0, i64 a1] #[i64 b0, i64 b1] (by kernel_rfl)
  have hs := run_equalIn_struct (P := P) w 9999 64 #[i64 a0, i64 a1] #[i64 b0, i64 b1] (by kernel_rfl) (by kernel_rfl)
  simp only [bo, Sem.run_bind, hg, Result.andThen_ok, run_eql_struct, hs, fs_64]
  exact eqTwo_eql (by kernel_rfl) (by kernel_rfl) ⟨by simp, by simp, rfl, rfl⟩ _ _ _ _ w
@[simp] theorem bo_neq_4 (x y : Operand) (a b : Bool) (w : World) : bo P .neq 4 x y (.bool a) (.bool b) w = some (.bool (!(a == b)), w) := bo_neq_bool (by kernel_rfl) x y a b w
@[simp] theorem bo_neq_64 (x y : Operand) (a0 a1 b0 b1 : Int) (w : World) : bo P .neq 64 x y (.agg #[i64 a0, i64 a1]) (.agg #[i64 b0, i64 b1]) w = some (.bool (!((a0 == b0) && (a1 == b1))), w) := by
  have hg := run_eqGuard_agg (P := P) w .neq 64 x y #[i64 a0, i64 a1] #[i64 b0, i64 b1] (by kernel_rfl)
  have hs := run_equalIn_struct (P := P) w 9999 64 #[i64 a0, i64 a1] #[i64 b0, i64 b1] (by kernel_rfl) (by kernel_rfl)
  simp only [bo, Sem.run_bind, hg, Result.andThen_ok, run_neq_struct, hs, fs_64]
  exact eqTwo_neq (by kernel_rfl) (by kernel_rfl) ⟨by simp, by simp, rfl, rfl⟩ _ _ _ _ w
@[simp] theorem fa_101_0 (b o : Nat) (w : World) : fa P 101 (pt b o) 0 w = some (pt b (o + 0), w) := fa_eq (n := 0) (g := some false) (by kernel_rfl) b o w
@[simp] theorem fa_101_1 (b o : Nat) (w : World) : fa P 101 (pt b o) 1 w = some (pt b (o + 1), w) := fa_eq (n := 0) (g := some false) (by kernel_rfl) b o w
@[simp] theorem fa_105_0 (b o : Nat) (w : World) : fa P 105 (pt b o) 0 w = some (pt b (o + 0), w) := fa_eq (n := 0) (g := some false) (by kernel_rfl) b o w
@[simp] theorem fa_105_1 (b o : Nat) (w : World) : fa P 105 (pt b o) 1 w = some (pt b (o + 1), w) := fa_eq (n := 0) (g := some false) (by kernel_rfl) b o w
@[simp] theorem fa_105_2 (b o : Nat) (w : World) : fa P 105 (pt b o) 2 w = some (pt b (o + 2), w) := fa_eq (n := 0) (g := some false) (by kernel_rfl) b o w
@[simp] theorem fa_105_3 (b o : Nat) (w : World) : fa P 105 (pt b o) 3 w = some (pt b (o + 3), w) := fa_eq (n := 1) (g := some true) (by kernel_rfl) b o w
@[simp] theorem fa_120_0 (b o : Nat) (w : World) : fa P 120 (pt b o) 0 w = some (pt b (o + 0), w) := fa_eq (n := 0) (g := some false) (by kernel_rfl) b o w
@[simp] theorem fa_120_1 (b o : Nat) (w : World) : fa P 120 (pt b o) 1 w = some (pt b (o + 1), w) := fa_eq (n := 0) (g := some false) (by kernel_rfl) b o w
@[simp] theorem fa_123_0 (b o : Nat) (w : World) : fa P 123 (pt b o) 0 w = some (pt b (o + 0), w) := fa_eq (n := 0) (g := some false) (by kernel_rfl) b o w
@[simp] theorem fa_125_0 (b o : Nat) (w : World) : fa P 125 (pt b o) 0 w = some (pt b (o + 0), w) := fa_eq (n := 0) (g := some false) (by kernel_rfl) b o w
@[simp] theorem fa_125_1 (b o : Nat) (w : World) : fa P 125 (pt b o) 1 w = some (pt b (o + 1), w) := fa_eq (n := 1) (g := some true) (by kernel_rfl) b o w
@[simp] theorem fa_125_2 (b o : Nat) (w : World) : fa P 125 (pt b o) 2 w = some (pt b (o + 3), w) := fa_eq (n := 0) (g := some true) (by kernel_rfl) b o w
@[simp] theorem fa_125_3 (b o : Nat) (w : World) : fa P 125 (pt b o) 3 w = some (pt b (o + 4), w) := fa_eq (n := 0) (g := some false) (by kernel_rfl) b o w
@[simp] theorem fa_125_4 (b o : Nat) (w : World) : fa P 125 (pt b o) 4 w = some (pt b (o + 5), w) := fa_eq (n := 0) (g := some false) (by kernel_rfl) b o w
@[simp] theorem fa_146_0 (b o : Nat) (w : World) : fa P 146 (pt b o) 0 w = some (pt b (o + 0), w) := fa_eq (n := 0) (g := some false) (by kernel_rfl) b o w
@[simp] theorem fa_148_0 (b o : Nat) (w : World) : fa P 148 (pt b o) 0 w = some (pt b (o + 0), w) := fa_eq (n := 0) (g := some true) (by kernel_rfl) b o w
@[simp] theorem fa_148_1 (b o : Nat) (w : World) : fa P 148 (pt b o) 1 w = some (pt b (o + 1), w) := fa_eq (n := 0) (g := some false) (by kernel_rfl) b o w
@[simp] theorem fa_179_0 (b o : Nat) (w : World) : fa P 179 (pt b o) 0 w = some (pt b (o + 0), w) := fa_eq (n := 3) (g := some true) (by kernel_rfl) b o w
@[simp] theorem fa_179_1 (b o : Nat) (w : World) : fa P 179 (pt b o) 1 w = some (pt b (o + 4), w) := fa_eq (n := 0) (g := some false) (by kernel_rfl) b o w
@[simp] theorem fa_181_0 (b o : Nat) (w : World) : fa P 181 (pt b o) 0 w = some (pt b (o + 0), w) := fa_eq (n := 0) (g := some false) (by kernel_rfl) b o w
@[simp] theorem fa_181_1 (b o : Nat) (w : World) : fa P 181 (pt b o) 1 w = some (pt b (o + 1), w) := fa_eq (n := 0) (g := some false) (by kernel_rfl) b o w
@[simp] theorem fa_181_2 (b o : Nat) (w : World) : fa P 181 (pt b o) 2 w = some (pt b (o + 2), w) := fa_eq (n := 0) (g := some true) (by kernel_rfl) b o w
@[simp] theorem fa_30_0 (b o : Nat) (w : World) : fa P 30 (pt b o) 0 w = some (pt b (o + 0), w) := fa_eq (n := 0) (g := some false) (by kernel_rfl) b o w
@[simp] theorem fa_30_1 (b o : Nat) (w : World) : fa P 30 (pt b o) 1 w = some (pt b (o + 1), w) := fa_eq (n := 0) (g := some false) (by kernel_rfl) b o w
@[simp] theorem fa_30_2 (b o : Nat) (w : World) : fa P 30 (pt b o) 2 w = some (pt b (o + 2), w) := fa_eq (n := 0) (g := some false) (by kernel_rfl) b o w
@[simp] theorem fa_30_3 (b o : Nat) (w : World) : fa P 30 (pt b o) 3 w = some (pt b (o + 3), w) := fa_eq (n := 0) (g := some false) (by kernel_rfl) b o w
@[simp] theorem fa_37_0 (b o : Nat) (w : World) : fa P 37 (pt b o) 0 w = some (pt b (o + 0), w) := fa_eq (n := 0) (g := some false) (by kernel_rfl) b o w
@[simp] theorem fa_41_0 (b o : Nat) (w : World) : fa P 41 (pt b o) 0 w = some (pt b (o + 0), w) := fa_eq (n := 0) (g := some false) (by kernel_rfl) b o w
@[simp] theorem fa_41_1 (b o : Nat) (w : World) : fa P 41 (pt b o) 1 w = some (pt b (o + 1), w) := fa_eq (n := 0) (g := some false) (by kernel_rfl) b o w
@[simp] theorem fa_41_2 (b o : Nat) (w : World) : fa P 41 (pt b o) 2 w = some (pt b (o + 2), w) := fa_eq (n := 0) (g := some true) (by kernel_rfl) b o w
@[simp] theorem fa_41_3 (b o : Nat) (w : World) : fa P 41 (pt b o) 3 w = some (pt b (o + 3), w) := fa_eq (n := 0) (g := some false) (by kernel_rfl) b o w
@[simp] theorem fa_41_4 (b o : Nat) (w : World) : fa P 41 (pt b o) 4 w = some (pt b (o + 4), w) := fa_eq (n := 0) (g := some false) (by kernel_rfl) b o w
@[simp] theorem fa_41_5 (b o : Nat) (w : World) : fa P 41 (pt b o) 5 w = some (pt b (o + 5), w) := fa_eq (n := 0) (g := some false) (by kernel_rfl) b o w
@[simp] theorem fa_46_0 (b o : Nat) (w : World) : fa P 46 (pt b o) 0 w = some (pt b (o + 0), w) := fa_eq (n := 0) (g := some false) (by kernel_rfl) b o w
@[simp] theorem fa_50_0 (b o : Nat) (w : World) : fa P 50 (pt b o) 0 w = some (pt b (o + 0), w) := fa_eq (n := 0) (g := some false) (by kernel_rfl) b o w
@[simp] theorem fa_50_1 (b o : Nat) (w : World) : fa P 50 (pt b o) 1 w = some (pt b (o + 1), w) := fa_eq (n := 0) (g := some false) (by kernel_rfl) b o w
@[simp] theorem fa_50_2 (b o : Nat) (w : World) : fa P 50 (pt b o) 2 w = some (pt b (o + 2), w) := fa_eq (n := 0) (g := some true) (by kernel_rfl) b o w
@[simp] theorem fa_50_3 (b o : Nat) (w : World) : fa P 50 (pt b o) 3 w = some (pt b (o + 3), w) := fa_eq (n := 0) (g := some false) (by kernel_rfl) b o w
@[simp] theorem fa_50_4 (b o : Nat) (w : World) : fa P 50 (pt b o) 4 w = some (pt b (o + 4), w) := fa_eq (n := 0) (g := some false) (by kernel_rfl) b o w
@[simp] theorem fa_50_5 (b o : Nat) (w : World) : fa P 50 (pt b o) 5 w = some (pt b (o + 5), w) := fa_eq (n := 0) (g := some false) (by kernel_rfl) b o w
@[simp] theorem fa_62_0 (b o : Nat) (w : World) : fa P 62 (pt b o) 0 w = some (pt b (o + 0), w) := fa_eq (n := 0) (g := some false) (by kernel_rfl) b o w
@[simp] theorem fa_64_0 (b o : Nat) (w : World) : fa P 64 (pt b o) 0 w = some (pt b (o + 0), w) := fa_eq (n := 0) (g := some false) (by kernel_rfl) b o w
@[simp] theorem fa_64_1 (b o : Nat) (w : World) : fa P 64 (pt b o) 1 w = some (pt b (o + 1), w) := fa_eq (n := 0) (g := some false) (by kernel_rfl) b o w
@[simp] theorem fa_66_0 (b o : Nat) (w : World) : fa P 66 (pt b o) 0 w = some (pt b (o + 0), w) := fa_eq (n := 0) (g := some false) (by kernel_rfl) b o w
@[simp] theorem fa_66_1 (b o : Nat) (w : World) : fa P 66 (pt b o) 1 w = some (pt b (o + 1), w) := fa_eq (n := 0) (g := some true) (by kernel_rfl) b o w
@[simp] theorem fa_66_2 (b o : Nat) (w : World) : fa P 66 (pt b o) 2 w = some (pt b (o + 2), w) := fa_eq (n := 1) (g := some true) (by kernel_rfl) b o w
@[simp] theorem fa_66_3 (b o : Nat) (w : World) : fa P 66 (pt b o) 3 w = some (pt b (o + 4), w) := fa_eq (n := 0) (g := some false) (by kernel_rfl) b o w
@[simp] theorem fa_69_0 (b o : Nat) (w : World) : fa P 69 (pt b o) 0 w = some (pt b (o + 0), w) := fa_eq (n := 0) (g := some false) (by kernel_rfl) b o w
@[simp] theorem fa_69_1 (b o : Nat) (w : World) : fa P 69 (pt b o) 1 w = some (pt b (o + 1), w) := fa_eq (n := 1) (g := some true) (by kernel_rfl) b o w
@[simp] theorem fa_69_2 (b o : Nat) (w : World) : fa P 69 (pt b o) 2 w = some (pt b (o + 3), w) := fa_eq (n := 0) (g := some true) (by kernel_rfl) b o w
@[simp] theorem fa_69_3 (b o : Nat) (w : World) : fa P 69 (pt b o) 3 w = some (pt b (o + 4), w) := fa_eq (n := 0) (g := some false) (by kernel_rfl) b o w
@[simp] theorem fa_69_4 (b o : Nat) (w : World) : fa P 69 (pt b o) 4 w = some (pt b (o + 5), w) := fa_eq (n := 0) (g := some false) (by kernel_rfl) b o w
@[simp] theorem fa_71_0 (b o : Nat) (w : World) : fa P 71 (pt b o) 0 w = some (pt b (o + 0), w) := fa_eq (n := 0) (g := some false) (by kernel_rfl) b o w
@[simp] theorem fa_71_1 (b o : Nat) (w : World) : fa P 71 (pt b o) 1 w = some (pt b (o + 1), w) := fa_eq (n := 0) (g := some false) (by kernel_rfl) b o w
@[simp] theorem fa_71_2 (b o : Nat) (w : World) : fa P 71 (pt b o) 2 w = some (pt b (o + 2), w) := fa_eq (n := 0) (g := some false) (by kernel_rfl) b o w
@[simp] theorem fa_71_3 (b o : Nat) (w : World) : fa P 71 (pt b o) 3 w = some (pt b (o + 3), w) := fa_eq (n := 5) (g := some true) (by kernel_rfl) b o w
@[simp] theorem fa_91_0 (b o : Nat) (w : World) : fa P 91 (pt b o) 0 w = some (pt b (o + 0), w) := fa_eq (n := 0) (g := some false) (by kernel_rfl) b o w
@[simp] theorem fa_95_0 (b o : Nat) (w : World) : fa P 95 (pt b o) 0 w = some (pt b (o + 0), w) := fa_eq (n := 0) (g := some true) (by kernel_rfl) b o w
@[simp] theorem fa_95_1 (b o : Nat) (w : World) : fa P 95 (pt b o) 1 w = some (pt b (o + 1), w) := fa_eq (n := 0) (g := some false) (by kernel_rfl) b o w
theorem el_121 : elB P 121 = some (120, 2, 16) := by kernel_rfl
theorem ia_121 {b o n c : Nat} {i : Int} (h0 : 0 ≤ i) (h1 : i < n) (w : World) : ia P 121 (.slice (some ⟨b, o, none⟩) n c) (i64 i) w = some (pt b (o + i.toNat * 2), w) := ia_eq el_121 h0 h1 w
theorem el_35 : elB P 35 = some (148, 2, 48) := by kernel_rfl
theorem ia_35 {b o n c : Nat} {i : Int} (h0 : 0 ≤ i) (h1 : i < n) (w : World) : ia P 35 (.slice (some ⟨b, o, none⟩) n c) (i64 i) w = some (pt b (o + i.toNat * 2), w) := ia_eq el_35 h0 h1 w
theorem el_38 : elB P 38 = some (125, 6, 72) := by kernel_rfl
theorem ia_38 {b o n c : Nat} {i : Int} (h0 : 0 ≤ i) (h1 : i < n) (w : World) : ia P 38 (.slice (some ⟨b, o, none⟩) n c) (i64 i) w = some (pt b (o + i.toNat * 6), w) := ia_eq el_38 h0 h1 w
theorem el_39 : elB P 39 = some (38, 1, 24) := by kernel_rfl
theorem ia_39 {b o n c : Nat} {i : Int} (h0 : 0 ≤ i) (h1 : i < n) (w : World) : ia P 39 (.slice (some ⟨b, o, none⟩) n c) (i64 i) w = some (pt b (o + i.toNat * 1), w) := ia_eq el_39 h0 h1 w
theorem el_44 : elB P 44 = some (95, 2, 48) := by kernel_rfl
theorem ia_44 {b o n c : Nat} {i : Int} (h0 : 0 ≤ i) (h1 : i < n) (w : World) : ia P 44 (.slice (some ⟨b, o, none⟩) n c) (i64 i) w = some (pt b (o + i.toNat * 2), w) := ia_eq el_44 h0 h1 w
theorem el_47 : elB P 47 = some (69, 6, 72) := by kernel_rfl
theorem ia_47 {b o n c : Nat} {i : Int} (h0 : 0 ≤ i) (h1 : i < n) (w : World) : ia P 47 (.slice (some ⟨b, o, none⟩) n c) (i64 i) w = some (pt b (o + i.toNat * 6), w) := ia_eq el_47 h0 h1 w
theorem el_48 : elB P 48 = some (47, 1, 24) := by kernel_rfl
theorem ia_48 {b o n c : Nat} {i : Int} (h0 : 0 ≤ i) (h1 : i < n) (w : World) : ia P 48 (.slice (some ⟨b, o, none⟩) n c) (i64 i) w = some (pt b (o + i.toNat * 1), w) := ia_eq el_48 h0 h1 w
theorem el_57 : elB P 57 = some (3, 1, 8) := by kernel_rfl
theorem ia_57 {b o n c : Nat} {i : Int} (h0 : 0 ≤ i) (h1 : i < n) (w : World) : ia P 57 (.slice (some ⟨b, o, none⟩) n c) (i64 i) w = some (pt b (o + i.toNat * 1), w) := ia_eq el_57 h0 h1 w
theorem el_60 : elB P 60 = some (64, 2, 16) := by kernel_rfl
theorem ia_60 {b o n c : Nat} {i : Int} (h0 : 0 ≤ i) (h1 : i < n) (w : World) : ia P 60 (.slice (some ⟨b, o, none⟩) n c) (i64 i) w = some (pt b (o + i.toNat * 2), w) := ia_eq el_60 h0 h1 w
@[simp] theorem ld_105 (b o : Nat) (w : World) : ld P 105 (pt b o) w = ldL P 105 b o w (cellsAt w b o 5) := ld_agg (by kernel_rfl) (by kernel_rfl) b o w
@[simp] theorem ld_120 (b o : Nat) (w : World) : ld P 120 (pt b o) w = ldL P 120 b o w (cellsAt w b o 2) := ld_agg (by kernel_rfl) (by kernel_rfl) b o w
@[simp] theorem ld_121 (b o : Nat) (w : World) : ld P 121 (pt b o) w = ldR P 121 b o w (cellO (hp w b) o) := ld_one (by kernel_rfl) b o w
@[simp] theorem ld_123 (b o : Nat) (w : World) : ld P 123 (pt b o) w = ldL P 123 b o w (cellsAt w b o 1) := ld_agg (by kernel_rfl) (by kernel_rfl) b o w
@[simp] theorem ld_125 (b o : Nat) (w : World) : ld P 125 (pt b o) w = ldL P 125 b o w (cellsAt w b o 6) := ld_agg (by kernel_rfl) (by kernel_rfl) b o w
@[simp] theorem ld_146 (b o : Nat) (w : World) : ld P 146 (pt b o) w = ldL P 146 b o w (cellsAt w b o 1) := ld_agg (by kernel_rfl) (by kernel_rfl) b o w
@[simp] theorem ld_148 (b o : Nat) (w : World) : ld P 148 (pt b o) w = ldL P 148 b o w (cellsAt w b o 2) := ld_agg (by kernel_rfl) (by kernel_rfl) b o w
@[simp] theorem ld_176 (b o : Nat) (w : World) : ld P 176 (pt b o) w = ldR P 176 b o w (cellO (hp w b) o) := ld_one (by kernel_rfl) b o w
@[simp] theorem ld_22 (b o : Nat) (w : World) : ld P 22 (pt b o) w = ldR P 22 b o w (cellO (hp w b) o) := ld_one (by kernel_rfl) b o w
@[simp] theorem ld_25 (b o : Nat) (w : World) : ld P 25 (pt b o) w = ldR P 25 b o w (cellO (hp w b) o) := ld_one (by kernel_rfl) b o w
@[simp] theorem ld_26 (b o : Nat) (w : World) : ld P 26 (pt b o) w = ldR P 26 b o w (cellO (hp w b) o) := ld_one (by kernel_rfl) b o w
@[simp] theorem ld_27 (b o : Nat) (w : World) : ld P 27 (pt b o) w = ldR P 27 b o w (cellO (hp w b) o) := ld_one (by kernel_rfl) b o w
@[simp] theorem ld_28 (b o : Nat) (w : World) : ld P 28 (pt b o) w = ldR P 28 b o w (cellO (hp w b) o) := ld_one (by kernel_rfl) b o w
@[simp] theorem ld_3 (b o : Nat) (w : World) : ld P 3 (pt b o) w = ldR P 3 b o w (cellO (hp w b) o) := ld_one (by kernel_rfl) b o w
@[simp] theorem ld_30 (b o : Nat) (w : World) : ld P 30 (pt b o) w = ldL P 30 b o w (cellsAt w b o 4) := ld_agg (by kernel_rfl) (by kernel_rfl) b o w
@[simp] theorem ld_35 (b o : Nat) (w : World) : ld P 35 (pt b o) w = ldR P 35 b o w (cellO (hp w b) o) := ld_one (by kernel_rfl) b o w
@[simp] theorem ld_37 (b o : Nat) (w : World) : ld P 37 (pt b o) w = ldL P 37 b o w (cellsAt w b o 1) := ld_agg (by kernel_rfl) (by kernel_rfl) b o w
@[simp] theorem ld_38 (b o : Nat) (w : World) : ld P 38 (pt b o) w = ldR P 38 b o w (cellO (hp w b) o) := ld_one (by kernel_rfl) b o w
@[simp] theorem ld_39 (b o : Nat) (w : World) : ld P 39 (pt b o) w = ldR P 39 b o w (cellO (hp w b) o) := ld_one (by kernel_rfl) b o w
@[simp] theorem ld_4 (b o : Nat) (w : World) : ld P 4 (pt b o) w = ldR P 4 b o w (cellO (hp w b) o) := ld_one (by kernel_rfl) b o w
@[simp] theorem ld_41 (b o : Nat) (w : World) : ld P 41 (pt b o) w = ldL P 41 b o w (cellsAt w b o 6) := ld_agg (by kernel_rfl) (by kernel_rfl) b o w
@[simp] theorem ld_44 (b o : Nat) (w : World) : ld P 44 (pt b o) w = ldR P 44 b o w (cellO (hp w b) o) := ld_one (by kernel_rfl) b o w
@[simp] theorem ld_46 (b o : Nat) (w : World) : ld P 46 (pt b o) w = ldL P 46 b o w (cellsAt w b o 1) := ld_agg (by kernel_rfl) (by kernel_rfl) b o w
@[simp] theorem ld_47 (b o : Nat) (w : World) : ld P 47 (pt b o) w = ldR P 47 b o w (cellO (hp w b) o) := ld_one (by kernel_rfl) b o w
@[simp] theorem ld_48 (b o : Nat) (w : World) : ld P 48 (pt b o) w = ldR P 48 b o w (cellO (hp w b) o) := ld_one (by kernel_rfl) b o w
@[simp] theorem ld_5 (b o : Nat) (w : World) : ld P 5 (pt b o) w = ldR P 5 b o w (cellO (hp w b) o) := ld_one (by kernel_rfl) b o w
@[simp] theorem ld_50 (b o : Nat) (w : World) : ld P 50 (pt b o) w = ldL P 50 b o w (cellsAt w b o 6) := ld_agg (by kernel_rfl) (by kernel_rfl) b o w
@[simp] theorem ld_60 (b o : Nat) (w : World) : ld P 60 (pt b o) w = ldR P 60 b o w (cellO (hp w b) o) := ld_one (by kernel_rfl) b o w
@[simp] theorem ld_62 (b o : Nat) (w : World) : ld P 62 (pt b o) w = ldL P 62 b o w (cellsAt w b o 1) := ld_agg (by kernel_rfl) (by kernel_rfl) b o w
@[simp] theorem ld_64 (b o : Nat) (w : World) : ld P 64 (pt b o) w = ldL P 64 b o w (cellsAt w b o 2) := ld_agg (by kernel_rfl) (by kernel_rfl) b o w
@[simp] theorem ld_66 (b o : Nat) (w : World) : ld P 66 (pt b o) w = ldL P 66 b o w (cellsAt w b o 5) := ld_agg (by kernel_rfl) (by kernel_rfl) b o w
@[simp] theorem ld_69 (b o : Nat) (w : World) : ld P 69 (pt b o) w = ldL P 69 b o w (cellsAt w b o 6) := ld_agg (by kernel_rfl) (by kernel_rfl) b o w
@[simp] theorem ld_71 (b o : Nat) (w : World) : ld P 71 (pt b o) w = ldL P 71 b o w (cellsAt w b o 9) := ld_agg (by kernel_rfl) (by kernel_rfl) b o w
@[simp] theorem ld_9 (b o : Nat) (w : World) : ld P 9 (pt b o) w = ldR P 9 b o w (cellO (hp w b) o) := ld_one (by kernel_rfl) b o w
@[simp] theorem ld_91 (b o : Nat) (w : World) : ld P 91 (pt b o) w = ldL P 91 b o w (cellsAt w b o 1) := ld_agg (by kernel_rfl) (by kernel_rfl) b o w
@[simp] theorem ld_95 (b o : Nat) (w : World) : ld P 95 (pt b o) w = ldL P 95 b o w (cellsAt w b o 2) := ld_agg (by kernel_rfl) (by kernel_rfl) b o w
@[simp] theorem st_105 (b o : Nat) (v : Value) (w : World) : st P 105 (pt b o) v w = stR P 105 5 b o v w (hp w b) := st_eq (by kernel_rfl) b o v w
@[simp] theorem st_181 (b o : Nat) (v : Value) (w : World) : st P 181 (pt b o) v w = stR P 181 3 b o v w (hp w b) := st_eq (by kernel_rfl) b o v w
@[simp] theorem st_25 (b o : Nat) (v : Value) (w : World) : st P 25 (pt b o) v w = stR P 25 1 b o v w (hp w b) := st_eq (by kernel_rfl) b o v w
@[simp] theorem st_26 (b o : Nat) (v : Value) (w : World) : st P 26 (pt b o) v w = stR P 26 1 b o v w (hp w b) := st_eq (by kernel_rfl) b o v w
@[simp] theorem st_3 (b o : Nat) (v : Value) (w : World) : st P 3 (pt b o) v w = stR P 3 1 b o v w (hp w b) := st_eq (by kernel_rfl) b o v w
@[simp] theorem st_30 (b o : Nat) (v : Value) (w : World) : st P 30 (pt b o) v w = stR P 30 4 b o v w (hp w b) := st_eq (by kernel_rfl) b o v w
@[simp] theorem st_4 (b o : Nat) (v : Value) (w : World) : st P 4 (pt b o) v w = stR P 4 1 b o v w (hp w b) := st_eq (by kernel_rfl) b o v w
@[simp] theorem st_44 (b o : Nat) (v : Value) (w : World) : st P 44 (pt b o) v w = stR P 44 1 b o v w (hp w b) := st_eq (by kernel_rfl) b o v w
@[simp] theorem st_46 (b o : Nat) (v : Value) (w : World) : st P 46 (pt b o) v w = stR P 46 1 b o v w (hp w b) := st_eq (by kernel_rfl) b o v w
@[simp] theorem st_47 (b o : Nat) (v : Value) (w : World) : st P 47 (pt b o) v w = stR P 47 1 b o v w (hp w b) := st_eq (by kernel_rfl) b o v w
@[simp] theorem st_48 (b o : Nat) (v : Value) (w : World) : st P 48 (pt b o) v w = stR P 48 1 b o v w (hp w b) := st_eq (by kernel_rfl) b o v w
@[simp] theorem st_50 (b o : Nat) (v : Value) (w : World) : st P 50 (pt b o) v w = stR P 50 6 b o v w (hp w b) := st_eq (by kernel_rfl) b o v w
@[simp] theorem st_60 (b o : Nat) (v : Value) (w : World) : st P 60 (pt b o) v w = stR P 60 1 b o v w (hp w b) := st_eq (by kernel_rfl) b o v w
@[simp] theorem st_62 (b o : Nat) (v : Value) (w : World) : st P 62 (pt b o) v w = stR P 62 1 b o v w (hp w b) := st_eq (by kernel_rfl) b o v w
@[simp] theorem st_64 (b o : Nat) (v : Value) (w : World) : st P 64 (pt b o) v w = stR P 64 2 b o v w (hp w b) := st_eq (by kernel_rfl) b o v w
@[simp] theorem st_66 (b o : Nat) (v : Value) (w : World) : st P 66 (pt b o) v w = stR P 66 5 b o v w (hp w b) := st_eq (by kernel_rfl) b o v w
@[simp] theorem st_69 (b o : Nat) (v : Value) (w : World) : st P 69 (pt b o) v w = stR P 69 6 b o v w (hp w b) := st_eq (by kernel_rfl) b o v w
@[simp] theorem st_71 (b o : Nat) (v : Value) (w : World) : st P 71 (pt b o) v w = stR P 71 9 b o v w (hp w b) := st_eq (by kernel_rfl) b o v w
@[simp] theorem st_9 (b o : Nat) (v : Value) (w : World) : st P 9 (pt b o) v w = stR P 9 1 b o v w (hp w b) := st_eq (by kernel_rfl) b o v w
@[simp] theorem st_91 (b o : Nat) (v : Value) (w : World) : st P 91 (pt b o) v w = stR P 91 1 b o v w (hp w b) := st_eq (by kernel_rfl) b o v w
@[simp] theorem st_95 (b o : Nat) (v : Value) (w : World) : st P 95 (pt b o) v w = stR P 95 2 b o v w (hp w b) := st_eq (by kernel_rfl) b o v w
theorem zz_95 : zeroB P 95 = some [(Go.Value.slice none 0 0), (Go.Value.slice none 0 0)] := by kernel_rfl
theorem zz_69 : zeroB P 69 = some [(.int .i64 0), (.int .i64 0), (.int .i64 0), (Go.Value.slice none 0 0), (Go.Value.string { data := #[] }), (.bool false)] := by kernel_rfl
theorem zz_47 : zeroB P 47 = some [(Go.Value.slice none 0 0)] := by kernel_rfl
theorem zz_64 : zeroB P 64 = some [(.int .i64 0), (.int .i64 0)] := by kernel_rfl
@[simp] theorem bd_101_0 (a1 : Option Addr) (l1 c1 : Nat) (w : World) : bd P 101 #[(0, (.slice a1 l1 c1))] w = some (.agg #[.slice a1 l1 c1, (.int .i64 0)], w) := bd_of (by kernel_rfl)
@[simp] theorem bd_179_1 (m1 : Option Nat) (w : World) : bd P 179 #[(1, (.map m1))] w = some (.agg #[(Go.Value.slice none 0 0), (Go.Value.slice none 0 0), (Go.Value.slice none 0 0), (Go.Value.slice none 0 0), .map m1], w) := bd_of (by kernel_rfl)
@[simp] theorem bd_181_0_1_2 (n1 : Int) (n2 : Int) (a3 : Option Addr) (l3 c3 : Nat) (w : World) : bd P 181 #[(0, (.int .i64 n1)), (1, (.int .i64 n2)), (2, (.agg #[.slice a3 l3 c3]))] w = some (.agg #[.int .i64 n1, .int .i64 n2, .slice a3 l3 c3], w) := bd_of (by kernel_rfl)
@[simp] theorem bd_30_  (w : World) : bd P 30 #[] w = some (.agg #[(Go.Value.slice none 0 0), (Go.Value.slice none 0 0), (Go.Value.slice none 0 0), (Go.Value.slice none 0 0)], w) := bd_of (by kernel_rfl)
@[simp] theorem bd_30_0_1 (a1 : Option Addr) (l1 c1 : Nat) (a2 : Option Addr) (l2 c2 : Nat) (w : World) : bd P 30 #[(0, (.slice a1 l1 c1)), (1, (.slice a2 l2 c2))] w = some (.agg #[.slice a1 l1 c1, .slice a2 l2 c2, (Go.Value.slice none 0 0), (Go.Value.slice none 0 0)], w) := bd_of (by kernel_rfl)
@[simp] theorem bd_46_  (w : World) : bd P 46 #[] w = some (.agg #[(Go.Value.slice none 0 0)], w) := bd_of (by kernel_rfl)
@[simp] theorem bd_46_0 (a1 : Option Addr) (l1 c1 : Nat) (w : World) : bd P 46 #[(0, (.slice a1 l1 c1))] w = some (.agg #[.slice a1 l1 c1], w) := bd_of (by kernel_rfl)
@[simp] theorem bd_50_  (w : World) : bd P 50 #[] w = some (.agg #[(.int .i64 0), (.int .i64 0), (Go.Value.slice none 0 0), (Go.Value.slice none 0 0), (Go.Value.slice none 0 0), (.bool false)], w) := bd_of (by kernel_rfl)
@[simp] theorem bd_50_0_2_4 (n1 : Int) (a2 : Option Addr) (l2 c2 : Nat) (a3 : Option Addr) (l3 c3 : Nat) (w : World) : bd P 50 #[(0, (.int .i64 n1)), (2, (.agg #[.slice a2 l2 c2])), (4, (.slice a3 l3 c3))] w = some (.agg #[.int .i64 n1, (.int .i64 0), .slice a2 l2 c2, (Go.Value.slice none 0 0), .slice a3 l3 c3, (.bool false)], w) := bd_of (by kernel_rfl)
@[simp] theorem bd_62_  (w : World) : bd P 62 #[] w = some (.agg #[(Go.Value.slice none 0 0)], w) := bd_of (by kernel_rfl)
@[simp] theorem bd_62_0 (a1 : Option Addr) (l1 c1 : Nat) (w : World) : bd P 62 #[(0, (.slice a1 l1 c1))] w = some (.agg #[.slice a1 l1 c1], w) := bd_of (by kernel_rfl)
@[simp] theorem bd_64_  (w : World) : bd P 64 #[] w = some (.agg #[(.int .i64 0), (.int .i64 0)], w) := bd_of (by kernel_rfl)
@[simp] theorem bd_66_0_1 (n1 : Int) (a2 : Option Addr) (l2 c2 : Nat) (w : World) : bd P 66 #[(0, (.int .i64 n1)), (1, (.agg #[.slice a2 l2 c2]))] w = some (.agg #[.int .i64 n1, .slice a2 l2 c2, (.int .i64 0), (.int .i64 0), (.int .i64 0)], w) := bd_of (by kernel_rfl)
@[simp] theorem bd_69_  (w : World) : bd P 69 #[] w = some (.agg #[(.int .i64 0), (.int .i64 0), (.int .i64 0), (Go.Value.slice none 0 0), (Go.Value.string { data := #[] }), (.bool false)], w) := bd_of (by kernel_rfl)
@[simp] theorem bd_91_  (w : World) : bd P 91 #[] w = some (.agg #[(Go.Value.slice none 0 0)], w) := bd_of (by kernel_rfl)
@[simp] theorem bd_91_0 (a1 : Option Addr) (l1 c1 : Nat) (w : World) : bd P 91 #[(0, (.slice a1 l1 c1))] w = some (.agg #[.slice a1 l1 c1], w) := bd_of (by kernel_rfl)
@[simp] theorem bd_95_0 (a1 : Option Addr) (l1 c1 : Nat) (w : World) : bd P 95 #[(0, (.agg #[.slice a1 l1 c1]))] w = some (.agg #[.slice a1 l1 c1, (Go.Value.slice none 0 0)], w) := bd_of (by kernel_rfl)
@[simp] theorem bs_22_1_0 (n1 : Int) (w : World) : bs P 22 1 #[(0, (.int .u8 n1))] w = some (.slice (some ⟨w.heap.size, 0, none⟩) 1 1, w.alloc (.cells #[.int .u8 n1] 5)) := bs_of (by kernel_rfl)
@[simp] theorem bs_25_1_0 (n1 : Int) (n2 : Int) (a3 : Option Addr) (l3 c3 : Nat) (a4 : Option Addr) (l4 c4 : Nat) (a5 : Option Addr) (l5 c5 : Nat) (b6 : Bool) (w : World) : bs P 25 1 #[(0, (.agg #[.int .i64 n1, .int .i64 n2, .slice a3 l3 c3, .slice a4 l4 c4, .slice a5 l5 c5, .bool b6]))] w = some (.slice (some ⟨w.heap.size, 0, none⟩) 1 1, w.alloc (.cells #[.int .i64 n1, .int .i64 n2, .slice a3 l3 c3, .slice a4 l4 c4, .slice a5 l5 c5, .bool b6] 50)) := bs_of (by kernel_rfl)
@[simp] theorem bs_26_1_0 (n1 : Int) (a2 : Option Addr) (l2 c2 : Nat) (n3 : Int) (n4 : Int) (n5 : Int) (w : World) : bs P 26 1 #[(0, (.agg #[.int .i64 n1, .slice a2 l2 c2, .int .i64 n3, .int .i64 n4, .int .i64 n5]))] w = some (.slice (some ⟨w.heap.size, 0, none⟩) 1 1, w.alloc (.cells #[.int .i64 n1, .slice a2 l2 c2, .int .i64 n3, .int .i64 n4, .int .i64 n5] 66)) := bs_of (by kernel_rfl)
@[simp] theorem bs_44_1_0 (a1 : Option Addr) (l1 c1 : Nat) (a2 : Option Addr) (l2 c2 : Nat) (w : World) : bs P 44 1 #[(0, (.agg #[.slice a1 l1 c1, .slice a2 l2 c2]))] w = some (.slice (some ⟨w.heap.size, 0, none⟩) 1 1, w.alloc (.cells #[.slice a1 l1 c1, .slice a2 l2 c2] 95)) := bs_of (by kernel_rfl)
@[simp] theorem bs_47_1_0 (n1 : Int) (n2 : Int) (n3 : Int) (a4 : Option Addr) (l4 c4 : Nat) (s5 : ByteArray) (b6 : Bool) (w : World) : bs P 47 1 #[(0, (.agg #[.int .i64 n1, .int .i64 n2, .int .i64 n3, .slice a4 l4 c4, .string s5, .bool b6]))] w = some (.slice (some ⟨w.heap.size, 0, none⟩) 1 1, w.alloc (.cells #[.int .i64 n1, .int .i64 n2, .int .i64 n3, .slice a4 l4 c4, .string s5, .bool b6] 69)) := bs_of (by kernel_rfl)
@[simp] theorem bs_48_2_0_1 (a1 : Option Addr) (l1 c1 : Nat) (a2 : Option Addr) (l2 c2 : Nat) (w : World) : bs P 48 2 #[(0, (.slice a1 l1 c1)), (1, (.slice a2 l2 c2))] w = some (.slice (some ⟨w.heap.size, 0, none⟩) 2 2, w.alloc (.cells #[.slice a1 l1 c1, .slice a2 l2 c2] 47)) := bs_of (by kernel_rfl)
@[simp] theorem bs_57_2_0_1 (n1 : Int) (n2 : Int) (w : World) : bs P 57 2 #[(0, (.int .i64 n1)), (1, (.int .i64 n2))] w = some (.slice (some ⟨w.heap.size, 0, none⟩) 2 2, w.alloc (.cells #[.int .i64 n1, .int .i64 n2] 3)) := bs_of (by kernel_rfl)
@[simp] theorem bs_57_5_0_1_2_3_4 (n1 : Int) (n2 : Int) (n3 : Int) (n4 : Int) (n5 : Int) (w : World) : bs P 57 5 #[(0, (.int .i64 n1)), (1, (.int .i64 n2)), (2, (.int .i64 n3)), (3, (.int .i64 n4)), (4, (.int .i64 n5))] w = some (.slice (some ⟨w.heap.size, 0, none⟩) 5 5, w.alloc (.cells #[.int .i64 n1, .int .i64 n2, .int .i64 n3, .int .i64 n4, .int .i64 n5] 3)) := bs_of (by kernel_rfl)
@[simp] theorem bs_57_6_0_1_2_3_4_5 (n1 : Int) (n2 : Int) (n3 : Int) (n4 : Int) (n5 : Int) (n6 : Int) (w : World) : bs P 57 6 #[(0, (.int .i64 n1)), (1, (.int .i64 n2)), (2, (.int .i64 n3)), (3, (.int .i64 n4)), (4, (.int .i64 n5)), (5, (.int .i64 n6))] w = some (.slice (some ⟨w.heap.size, 0, none⟩) 6 6, w.alloc (.cells #[.int .i64 n1, .int .i64 n2, .int .i64 n3, .int .i64 n4, .int .i64 n5, .int .i64 n6] 3)) := bs_of (by kernel_rfl)
@[simp] theorem bs_60_0 (w : World) : bs P 60 0 #[] w = some (.slice (some ⟨w.heap.size, 0, none⟩) 0 0, w.alloc (.cells #[] 64)) := bs_zero (n := 2) (by kernel_rfl) (by kernel_rfl) w
@[simp] theorem bs_60_1_0 (n1 : Int) (n2 : Int) (w : World) : bs P 60 1 #[(0, (.agg #[.int .i64 n1, .int .i64 n2]))] w = some (.slice (some ⟨w.heap.size, 0, none⟩) 1 1, w.alloc (.cells #[.int .i64 n1, .int .i64 n2] 64)) := bs_of (by kernel_rfl)
@[simp] theorem cv_3_5 (n : Int) (w : World) : cv P 3 5 (.int .i64 n) w = some (.int .u8 (IntKind.wrap .u8 n), w) := cv_int (by kernel_rfl) (by kernel_rfl) _ n w
@[simp] theorem cv_5_3 (n : Int) (w : World) : cv P 5 3 (.int .u8 n) w = some (.int .i64 (IntKind.wrap .i64 n), w) := cv_int (by kernel_rfl) (by kernel_rfl) _ n w
attribute [simp ↓] bnd cnd_t cnd_f ifP_true gif_tt gif_tf gif_ft gif_ff gif_u pick_t pick_f
attribute [simp] bx_eq bo_lss bo_leq bo_gtr bo_geq bo_eql bo_neq bo_add bo_sub bo_mul bo_eql_str bo_neq_str uo_not uo_neg ret_some World.size_alloc size_setRow cells_agg cells_int cells_bool cells_string cells_slice cells_pointer cells_map cells_nilIface cells_func vl_eq dw_size hp_dw ldR_some ldL_some stR_cells splice_eq cellsAt_zero cellsAt_succ consO_some cellO_some nth_nil nth_zero nth_succ setO_some hp_set_eq Value.oneCell'
end Go.Proofs.YtggmfmanpjcjkaaGreat.X
