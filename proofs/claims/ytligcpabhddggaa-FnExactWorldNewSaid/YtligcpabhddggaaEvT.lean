/- A part of the proof: an evaluator of the model, its laws, and contracts of functions; no condition. -/
import Derived.Test.YtligcpabhddggaaProg
import Derived.Test.YtligcpabhddggaaEvM
set_option linter.unusedVariables false
namespace Go.Proofs.Ytligcpabhddggaa.X
open Go Go.Ev
noncomputable def P : Program := Try.prog
theorem plain : Plain P := by
  have h : (P.funcs.toList.all fun fn => fn.body.isNone || fn.name != "runtime.NumGoroutine") = true := by kernel_rfl
  intro fn hf hb
  rw [List.all_eq_true] at h
  have := h fn (Array.mem_toList_iff.2 hf)
  simp only [Option.isNone_iff_eq_none, Bool.or_eq_true, bne_iff_ne, ne_eq] at this
  rcases this with h | h
  · rw [h] at hb; simp at hb
  · exact h
theorem mixed : P.follows .mixedOrders = true := by kernel_rfl
end Go.Proofs.Ytligcpabhddggaa.X
set_option linter.unusedVariables false
namespace Go.Proofs.Ytligcpabhddggaa.X
open Go Go.Ev
@[simp] theorem al_27 (w : World) : al P 27 w = some (pt w.heap.size 0, w.alloc (.cells #[(Go.Value.slice none 0 0), (Go.Value.slice none 0 0), (Go.Value.slice none 0 0), (Go.Value.slice none 0 0)] 27)) := al_eq (z := [(Go.Value.slice none 0 0), (Go.Value.slice none 0 0), (Go.Value.slice none 0 0), (Go.Value.slice none 0 0)]) (by kernel_rfl) w
@[simp] theorem al_43 (w : World) : al P 43 w = some (pt w.heap.size 0, w.alloc (.cells #[(Go.Value.slice none 0 0)] 43)) := al_eq (z := [(Go.Value.slice none 0 0)]) (by kernel_rfl) w
@[simp] theorem al_47 (w : World) : al P 47 w = some (pt w.heap.size 0, w.alloc (.cells #[(.int .i64 0), (.int .i64 0), (Go.Value.slice none 0 0), (Go.Value.slice none 0 0), (Go.Value.slice none 0 0), (.bool false)] 47)) := al_eq (z := [(.int .i64 0), (.int .i64 0), (Go.Value.slice none 0 0), (Go.Value.slice none 0 0), (Go.Value.slice none 0 0), (.bool false)]) (by kernel_rfl) w
@[simp] theorem al_51 (w : World) : al P 51 w = some (pt w.heap.size 0, w.alloc (.cells #[(Go.Value.slice none 0 0)] 51)) := al_eq (z := [(Go.Value.slice none 0 0)]) (by kernel_rfl) w
@[simp] theorem al_81 (w : World) : al P 81 w = some (pt w.heap.size 0, w.alloc (.cells #[(Go.Value.slice none 0 0)] 81)) := al_eq (z := [(Go.Value.slice none 0 0)]) (by kernel_rfl) w
@[simp] theorem len_22 (a : Option Addr) (n c : Nat) (w : World) : b_len P #[22] 3 #[.slice a n c] w = some (i64 n, w) := len_slice (e := 47) (s := (6, 96)) (by kernel_rfl) a n c w
@[simp] theorem len_23 (a : Option Addr) (n c : Nat) (w : World) : b_len P #[23] 3 #[.slice a n c] w = some (i64 n, w) := len_slice (e := 56) (s := (5, 56)) (by kernel_rfl) a n c w
@[simp] theorem len_24 (a : Option Addr) (n c : Nat) (w : World) : b_len P #[24] 3 #[.slice a n c] w = some (i64 n, w) := len_slice (e := 64) (s := (9, 96)) (by kernel_rfl) a n c w
@[simp] theorem len_25 (a : Option Addr) (n c : Nat) (w : World) : b_len P #[25] 3 #[.slice a n c] w = some (i64 n, w) := len_slice (e := 67) (s := (5, 40)) (by kernel_rfl) a n c w
@[simp] theorem len_41 (a : Option Addr) (n c : Nat) (w : World) : b_len P #[41] 3 #[.slice a n c] w = some (i64 n, w) := len_slice (e := 83) (s := (2, 48)) (by kernel_rfl) a n c w
@[simp] theorem len_44 (a : Option Addr) (n c : Nat) (w : World) : b_len P #[44] 3 #[.slice a n c] w = some (i64 n, w) := len_slice (e := 62) (s := (6, 72)) (by kernel_rfl) a n c w
@[simp] theorem len_45 (a : Option Addr) (n c : Nat) (w : World) : b_len P #[45] 3 #[.slice a n c] w = some (i64 n, w) := len_slice (e := 44) (s := (1, 24)) (by kernel_rfl) a n c w
@[simp] theorem len_49 (a : Option Addr) (n c : Nat) (w : World) : b_len P #[49] 3 #[.slice a n c] w = some (i64 n, w) := len_slice (e := 54) (s := (2, 16)) (by kernel_rfl) a n c w
@[simp] theorem bo_neq_4 (x y : Operand) (a b : Bool) (w : World) : bo P .neq 4 x y (.bool a) (.bool b) w = some (.bool (!(a == b)), w) := bo_neq_bool (by kernel_rfl) x y a b w
@[simp] theorem fa_27_0 (b o : Nat) (w : World) : fa P 27 (pt b o) 0 w = some (pt b (o + 0), w) := fa_eq (n := 0) (g := some false) (by kernel_rfl) b o w
@[simp] theorem fa_27_1 (b o : Nat) (w : World) : fa P 27 (pt b o) 1 w = some (pt b (o + 1), w) := fa_eq (n := 0) (g := some false) (by kernel_rfl) b o w
@[simp] theorem fa_27_2 (b o : Nat) (w : World) : fa P 27 (pt b o) 2 w = some (pt b (o + 2), w) := fa_eq (n := 0) (g := some false) (by kernel_rfl) b o w
@[simp] theorem fa_27_3 (b o : Nat) (w : World) : fa P 27 (pt b o) 3 w = some (pt b (o + 3), w) := fa_eq (n := 0) (g := some false) (by kernel_rfl) b o w
@[simp] theorem fa_43_0 (b o : Nat) (w : World) : fa P 43 (pt b o) 0 w = some (pt b (o + 0), w) := fa_eq (n := 0) (g := some false) (by kernel_rfl) b o w
@[simp] theorem fa_47_0 (b o : Nat) (w : World) : fa P 47 (pt b o) 0 w = some (pt b (o + 0), w) := fa_eq (n := 0) (g := some false) (by kernel_rfl) b o w
@[simp] theorem fa_47_1 (b o : Nat) (w : World) : fa P 47 (pt b o) 1 w = some (pt b (o + 1), w) := fa_eq (n := 0) (g := some false) (by kernel_rfl) b o w
@[simp] theorem fa_47_2 (b o : Nat) (w : World) : fa P 47 (pt b o) 2 w = some (pt b (o + 2), w) := fa_eq (n := 0) (g := some true) (by kernel_rfl) b o w
@[simp] theorem fa_47_3 (b o : Nat) (w : World) : fa P 47 (pt b o) 3 w = some (pt b (o + 3), w) := fa_eq (n := 0) (g := some false) (by kernel_rfl) b o w
@[simp] theorem fa_47_4 (b o : Nat) (w : World) : fa P 47 (pt b o) 4 w = some (pt b (o + 4), w) := fa_eq (n := 0) (g := some false) (by kernel_rfl) b o w
@[simp] theorem fa_47_5 (b o : Nat) (w : World) : fa P 47 (pt b o) 5 w = some (pt b (o + 5), w) := fa_eq (n := 0) (g := some false) (by kernel_rfl) b o w
@[simp] theorem fa_51_0 (b o : Nat) (w : World) : fa P 51 (pt b o) 0 w = some (pt b (o + 0), w) := fa_eq (n := 0) (g := some false) (by kernel_rfl) b o w
@[simp] theorem fa_54_0 (b o : Nat) (w : World) : fa P 54 (pt b o) 0 w = some (pt b (o + 0), w) := fa_eq (n := 0) (g := some false) (by kernel_rfl) b o w
@[simp] theorem fa_54_1 (b o : Nat) (w : World) : fa P 54 (pt b o) 1 w = some (pt b (o + 1), w) := fa_eq (n := 0) (g := some false) (by kernel_rfl) b o w
@[simp] theorem fa_56_0 (b o : Nat) (w : World) : fa P 56 (pt b o) 0 w = some (pt b (o + 0), w) := fa_eq (n := 0) (g := some false) (by kernel_rfl) b o w
@[simp] theorem fa_56_1 (b o : Nat) (w : World) : fa P 56 (pt b o) 1 w = some (pt b (o + 1), w) := fa_eq (n := 0) (g := some true) (by kernel_rfl) b o w
@[simp] theorem fa_56_2 (b o : Nat) (w : World) : fa P 56 (pt b o) 2 w = some (pt b (o + 2), w) := fa_eq (n := 1) (g := some true) (by kernel_rfl) b o w
@[simp] theorem fa_56_3 (b o : Nat) (w : World) : fa P 56 (pt b o) 3 w = some (pt b (o + 4), w) := fa_eq (n := 0) (g := some false) (by kernel_rfl) b o w
@[simp] theorem fa_62_0 (b o : Nat) (w : World) : fa P 62 (pt b o) 0 w = some (pt b (o + 0), w) := fa_eq (n := 0) (g := some false) (by kernel_rfl) b o w
@[simp] theorem fa_62_1 (b o : Nat) (w : World) : fa P 62 (pt b o) 1 w = some (pt b (o + 1), w) := fa_eq (n := 1) (g := some true) (by kernel_rfl) b o w
@[simp] theorem fa_62_2 (b o : Nat) (w : World) : fa P 62 (pt b o) 2 w = some (pt b (o + 3), w) := fa_eq (n := 0) (g := some true) (by kernel_rfl) b o w
@[simp] theorem fa_62_3 (b o : Nat) (w : World) : fa P 62 (pt b o) 3 w = some (pt b (o + 4), w) := fa_eq (n := 0) (g := some false) (by kernel_rfl) b o w
@[simp] theorem fa_62_4 (b o : Nat) (w : World) : fa P 62 (pt b o) 4 w = some (pt b (o + 5), w) := fa_eq (n := 0) (g := some false) (by kernel_rfl) b o w
@[simp] theorem fa_64_0 (b o : Nat) (w : World) : fa P 64 (pt b o) 0 w = some (pt b (o + 0), w) := fa_eq (n := 0) (g := some false) (by kernel_rfl) b o w
@[simp] theorem fa_64_1 (b o : Nat) (w : World) : fa P 64 (pt b o) 1 w = some (pt b (o + 1), w) := fa_eq (n := 0) (g := some false) (by kernel_rfl) b o w
@[simp] theorem fa_64_2 (b o : Nat) (w : World) : fa P 64 (pt b o) 2 w = some (pt b (o + 2), w) := fa_eq (n := 0) (g := some false) (by kernel_rfl) b o w
@[simp] theorem fa_64_3 (b o : Nat) (w : World) : fa P 64 (pt b o) 3 w = some (pt b (o + 3), w) := fa_eq (n := 5) (g := some true) (by kernel_rfl) b o w
@[simp] theorem fa_67_0 (b o : Nat) (w : World) : fa P 67 (pt b o) 0 w = some (pt b (o + 0), w) := fa_eq (n := 0) (g := some false) (by kernel_rfl) b o w
@[simp] theorem fa_67_1 (b o : Nat) (w : World) : fa P 67 (pt b o) 1 w = some (pt b (o + 1), w) := fa_eq (n := 0) (g := some false) (by kernel_rfl) b o w
@[simp] theorem fa_67_2 (b o : Nat) (w : World) : fa P 67 (pt b o) 2 w = some (pt b (o + 2), w) := fa_eq (n := 0) (g := some false) (by kernel_rfl) b o w
@[simp] theorem fa_67_3 (b o : Nat) (w : World) : fa P 67 (pt b o) 3 w = some (pt b (o + 3), w) := fa_eq (n := 1) (g := some true) (by kernel_rfl) b o w
@[simp] theorem fa_81_0 (b o : Nat) (w : World) : fa P 81 (pt b o) 0 w = some (pt b (o + 0), w) := fa_eq (n := 0) (g := some false) (by kernel_rfl) b o w
@[simp] theorem fa_83_0 (b o : Nat) (w : World) : fa P 83 (pt b o) 0 w = some (pt b (o + 0), w) := fa_eq (n := 0) (g := some true) (by kernel_rfl) b o w
@[simp] theorem fa_83_1 (b o : Nat) (w : World) : fa P 83 (pt b o) 1 w = some (pt b (o + 1), w) := fa_eq (n := 0) (g := some false) (by kernel_rfl) b o w
theorem el_22 : elB P 22 = some (47, 6, 96) := by kernel_rfl
theorem ia_22 {b o n c : Nat} {i : Int} (h0 : 0 ≤ i) (h1 : i < n) (w : World) : ia P 22 (.slice (some ⟨b, o, none⟩) n c) (i64 i) w = some (pt b (o + i.toNat * 6), w) := ia_eq el_22 h0 h1 w
theorem el_23 : elB P 23 = some (56, 5, 56) := by kernel_rfl
theorem ia_23 {b o n c : Nat} {i : Int} (h0 : 0 ≤ i) (h1 : i < n) (w : World) : ia P 23 (.slice (some ⟨b, o, none⟩) n c) (i64 i) w = some (pt b (o + i.toNat * 5), w) := ia_eq el_23 h0 h1 w
theorem el_41 : elB P 41 = some (83, 2, 48) := by kernel_rfl
theorem ia_41 {b o n c : Nat} {i : Int} (h0 : 0 ≤ i) (h1 : i < n) (w : World) : ia P 41 (.slice (some ⟨b, o, none⟩) n c) (i64 i) w = some (pt b (o + i.toNat * 2), w) := ia_eq el_41 h0 h1 w
theorem el_44 : elB P 44 = some (62, 6, 72) := by kernel_rfl
theorem ia_44 {b o n c : Nat} {i : Int} (h0 : 0 ≤ i) (h1 : i < n) (w : World) : ia P 44 (.slice (some ⟨b, o, none⟩) n c) (i64 i) w = some (pt b (o + i.toNat * 6), w) := ia_eq el_44 h0 h1 w
theorem el_45 : elB P 45 = some (44, 1, 24) := by kernel_rfl
theorem ia_45 {b o n c : Nat} {i : Int} (h0 : 0 ≤ i) (h1 : i < n) (w : World) : ia P 45 (.slice (some ⟨b, o, none⟩) n c) (i64 i) w = some (pt b (o + i.toNat * 1), w) := ia_eq el_45 h0 h1 w
theorem el_49 : elB P 49 = some (54, 2, 16) := by kernel_rfl
theorem ia_49 {b o n c : Nat} {i : Int} (h0 : 0 ≤ i) (h1 : i < n) (w : World) : ia P 49 (.slice (some ⟨b, o, none⟩) n c) (i64 i) w = some (pt b (o + i.toNat * 2), w) := ia_eq el_49 h0 h1 w
@[simp] theorem ld_22 (b o : Nat) (w : World) : ld P 22 (pt b o) w = ldR P 22 b o w (cellO (hp w b) o) := ld_one (by kernel_rfl) b o w
@[simp] theorem ld_23 (b o : Nat) (w : World) : ld P 23 (pt b o) w = ldR P 23 b o w (cellO (hp w b) o) := ld_one (by kernel_rfl) b o w
@[simp] theorem ld_24 (b o : Nat) (w : World) : ld P 24 (pt b o) w = ldR P 24 b o w (cellO (hp w b) o) := ld_one (by kernel_rfl) b o w
@[simp] theorem ld_25 (b o : Nat) (w : World) : ld P 25 (pt b o) w = ldR P 25 b o w (cellO (hp w b) o) := ld_one (by kernel_rfl) b o w
@[simp] theorem ld_27 (b o : Nat) (w : World) : ld P 27 (pt b o) w = ldL P 27 b o w (cellsAt w b o 4) := ld_agg (by kernel_rfl) (by kernel_rfl) b o w
@[simp] theorem ld_3 (b o : Nat) (w : World) : ld P 3 (pt b o) w = ldR P 3 b o w (cellO (hp w b) o) := ld_one (by kernel_rfl) b o w
@[simp] theorem ld_4 (b o : Nat) (w : World) : ld P 4 (pt b o) w = ldR P 4 b o w (cellO (hp w b) o) := ld_one (by kernel_rfl) b o w
@[simp] theorem ld_41 (b o : Nat) (w : World) : ld P 41 (pt b o) w = ldR P 41 b o w (cellO (hp w b) o) := ld_one (by kernel_rfl) b o w
@[simp] theorem ld_43 (b o : Nat) (w : World) : ld P 43 (pt b o) w = ldL P 43 b o w (cellsAt w b o 1) := ld_agg (by kernel_rfl) (by kernel_rfl) b o w
@[simp] theorem ld_44 (b o : Nat) (w : World) : ld P 44 (pt b o) w = ldR P 44 b o w (cellO (hp w b) o) := ld_one (by kernel_rfl) b o w
@[simp] theorem ld_45 (b o : Nat) (w : World) : ld P 45 (pt b o) w = ldR P 45 b o w (cellO (hp w b) o) := ld_one (by kernel_rfl) b o w
@[simp] theorem ld_47 (b o : Nat) (w : World) : ld P 47 (pt b o) w = ldL P 47 b o w (cellsAt w b o 6) := ld_agg (by kernel_rfl) (by kernel_rfl) b o w
@[simp] theorem ld_49 (b o : Nat) (w : World) : ld P 49 (pt b o) w = ldR P 49 b o w (cellO (hp w b) o) := ld_one (by kernel_rfl) b o w
@[simp] theorem ld_51 (b o : Nat) (w : World) : ld P 51 (pt b o) w = ldL P 51 b o w (cellsAt w b o 1) := ld_agg (by kernel_rfl) (by kernel_rfl) b o w
@[simp] theorem ld_54 (b o : Nat) (w : World) : ld P 54 (pt b o) w = ldL P 54 b o w (cellsAt w b o 2) := ld_agg (by kernel_rfl) (by kernel_rfl) b o w
@[simp] theorem ld_56 (b o : Nat) (w : World) : ld P 56 (pt b o) w = ldL P 56 b o w (cellsAt w b o 5) := ld_agg (by kernel_rfl) (by kernel_rfl) b o w
@[simp] theorem ld_62 (b o : Nat) (w : World) : ld P 62 (pt b o) w = ldL P 62 b o w (cellsAt w b o 6) := ld_agg (by kernel_rfl) (by kernel_rfl) b o w
@[simp] theorem ld_64 (b o : Nat) (w : World) : ld P 64 (pt b o) w = ldL P 64 b o w (cellsAt w b o 9) := ld_agg (by kernel_rfl) (by kernel_rfl) b o w
@[simp] theorem ld_67 (b o : Nat) (w : World) : ld P 67 (pt b o) w = ldL P 67 b o w (cellsAt w b o 5) := ld_agg (by kernel_rfl) (by kernel_rfl) b o w
@[simp] theorem ld_81 (b o : Nat) (w : World) : ld P 81 (pt b o) w = ldL P 81 b o w (cellsAt w b o 1) := ld_agg (by kernel_rfl) (by kernel_rfl) b o w
@[simp] theorem ld_83 (b o : Nat) (w : World) : ld P 83 (pt b o) w = ldL P 83 b o w (cellsAt w b o 2) := ld_agg (by kernel_rfl) (by kernel_rfl) b o w
@[simp] theorem ld_9 (b o : Nat) (w : World) : ld P 9 (pt b o) w = ldR P 9 b o w (cellO (hp w b) o) := ld_one (by kernel_rfl) b o w
@[simp] theorem st_22 (b o : Nat) (v : Value) (w : World) : st P 22 (pt b o) v w = stR P 22 1 b o v w (hp w b) := st_eq (by kernel_rfl) b o v w
@[simp] theorem st_23 (b o : Nat) (v : Value) (w : World) : st P 23 (pt b o) v w = stR P 23 1 b o v w (hp w b) := st_eq (by kernel_rfl) b o v w
@[simp] theorem st_27 (b o : Nat) (v : Value) (w : World) : st P 27 (pt b o) v w = stR P 27 4 b o v w (hp w b) := st_eq (by kernel_rfl) b o v w
@[simp] theorem st_3 (b o : Nat) (v : Value) (w : World) : st P 3 (pt b o) v w = stR P 3 1 b o v w (hp w b) := st_eq (by kernel_rfl) b o v w
@[simp] theorem st_4 (b o : Nat) (v : Value) (w : World) : st P 4 (pt b o) v w = stR P 4 1 b o v w (hp w b) := st_eq (by kernel_rfl) b o v w
@[simp] theorem st_41 (b o : Nat) (v : Value) (w : World) : st P 41 (pt b o) v w = stR P 41 1 b o v w (hp w b) := st_eq (by kernel_rfl) b o v w
@[simp] theorem st_43 (b o : Nat) (v : Value) (w : World) : st P 43 (pt b o) v w = stR P 43 1 b o v w (hp w b) := st_eq (by kernel_rfl) b o v w
@[simp] theorem st_47 (b o : Nat) (v : Value) (w : World) : st P 47 (pt b o) v w = stR P 47 6 b o v w (hp w b) := st_eq (by kernel_rfl) b o v w
@[simp] theorem st_51 (b o : Nat) (v : Value) (w : World) : st P 51 (pt b o) v w = stR P 51 1 b o v w (hp w b) := st_eq (by kernel_rfl) b o v w
@[simp] theorem st_81 (b o : Nat) (v : Value) (w : World) : st P 81 (pt b o) v w = stR P 81 1 b o v w (hp w b) := st_eq (by kernel_rfl) b o v w
@[simp] theorem st_9 (b o : Nat) (v : Value) (w : World) : st P 9 (pt b o) v w = stR P 9 1 b o v w (hp w b) := st_eq (by kernel_rfl) b o v w
theorem zz_47 : zeroB P 47 = some [(.int .i64 0), (.int .i64 0), (Go.Value.slice none 0 0), (Go.Value.slice none 0 0), (Go.Value.slice none 0 0), (.bool false)] := by kernel_rfl
theorem zz_56 : zeroB P 56 = some [(.int .i64 0), (Go.Value.slice none 0 0), (.int .i64 0), (.int .i64 0), (.int .i64 0)] := by kernel_rfl
theorem zz_83 : zeroB P 83 = some [(Go.Value.slice none 0 0), (Go.Value.slice none 0 0)] := by kernel_rfl
theorem zz_62 : zeroB P 62 = some [(.int .i64 0), (.int .i64 0), (.int .i64 0), (Go.Value.slice none 0 0), (Go.Value.string { data := #[] }), (.bool false)] := by kernel_rfl
theorem zz_44 : zeroB P 44 = some [(Go.Value.slice none 0 0)] := by kernel_rfl
theorem zz_54 : zeroB P 54 = some [(.int .i64 0), (.int .i64 0)] := by kernel_rfl
@[simp] theorem bd_27_  (w : World) : bd P 27 #[] w = some (.agg #[(Go.Value.slice none 0 0), (Go.Value.slice none 0 0), (Go.Value.slice none 0 0), (Go.Value.slice none 0 0)], w) := bd_of (by kernel_rfl)
@[simp] theorem bd_27_0_1 (a1 : Option Addr) (l1 c1 : Nat) (a2 : Option Addr) (l2 c2 : Nat) (w : World) : bd P 27 #[(0, (.slice a1 l1 c1)), (1, (.slice a2 l2 c2))] w = some (.agg #[.slice a1 l1 c1, .slice a2 l2 c2, (Go.Value.slice none 0 0), (Go.Value.slice none 0 0)], w) := bd_of (by kernel_rfl)
@[simp] theorem bd_43_  (w : World) : bd P 43 #[] w = some (.agg #[(Go.Value.slice none 0 0)], w) := bd_of (by kernel_rfl)
@[simp] theorem bd_43_0 (a1 : Option Addr) (l1 c1 : Nat) (w : World) : bd P 43 #[(0, (.slice a1 l1 c1))] w = some (.agg #[.slice a1 l1 c1], w) := bd_of (by kernel_rfl)
@[simp] theorem bd_47_  (w : World) : bd P 47 #[] w = some (.agg #[(.int .i64 0), (.int .i64 0), (Go.Value.slice none 0 0), (Go.Value.slice none 0 0), (Go.Value.slice none 0 0), (.bool false)], w) := bd_of (by kernel_rfl)
@[simp] theorem bd_47_0_2_4 (n1 : Int) (a2 : Option Addr) (l2 c2 : Nat) (a3 : Option Addr) (l3 c3 : Nat) (w : World) : bd P 47 #[(0, (.int .i64 n1)), (2, (.agg #[.slice a2 l2 c2])), (4, (.slice a3 l3 c3))] w = some (.agg #[.int .i64 n1, (.int .i64 0), .slice a2 l2 c2, (Go.Value.slice none 0 0), .slice a3 l3 c3, (.bool false)], w) := bd_of (by kernel_rfl)
@[simp] theorem bd_51_0 (a1 : Option Addr) (l1 c1 : Nat) (w : World) : bd P 51 #[(0, (.slice a1 l1 c1))] w = some (.agg #[.slice a1 l1 c1], w) := bd_of (by kernel_rfl)
@[simp] theorem bd_56_0_1 (n1 : Int) (a2 : Option Addr) (l2 c2 : Nat) (w : World) : bd P 56 #[(0, (.int .i64 n1)), (1, (.agg #[.slice a2 l2 c2]))] w = some (.agg #[.int .i64 n1, .slice a2 l2 c2, (.int .i64 0), (.int .i64 0), (.int .i64 0)], w) := bd_of (by kernel_rfl)
@[simp] theorem bd_81_0 (a1 : Option Addr) (l1 c1 : Nat) (w : World) : bd P 81 #[(0, (.slice a1 l1 c1))] w = some (.agg #[.slice a1 l1 c1], w) := bd_of (by kernel_rfl)
@[simp] theorem bd_83_0 (a1 : Option Addr) (l1 c1 : Nat) (w : World) : bd P 83 #[(0, (.agg #[.slice a1 l1 c1]))] w = some (.agg #[.slice a1 l1 c1, (Go.Value.slice none 0 0)], w) := bd_of (by kernel_rfl)
@[simp] theorem bs_22_1_0 (n1 : Int) (n2 : Int) (a3 : Option Addr) (l3 c3 : Nat) (a4 : Option Addr) (l4 c4 : Nat) (a5 : Option Addr) (l5 c5 : Nat) (b6 : Bool) (w : World) : bs P 22 1 #[(0, (.agg #[.int .i64 n1, .int .i64 n2, .slice a3 l3 c3, .slice a4 l4 c4, .slice a5 l5 c5, .bool b6]))] w = some (.slice (some ⟨w.heap.size, 0, none⟩) 1 1, w.alloc (.cells #[.int .i64 n1, .int .i64 n2, .slice a3 l3 c3, .slice a4 l4 c4, .slice a5 l5 c5, .bool b6] 47)) := bs_of (by kernel_rfl)
@[simp] theorem bs_23_1_0 (n1 : Int) (a2 : Option Addr) (l2 c2 : Nat) (n3 : Int) (n4 : Int) (n5 : Int) (w : World) : bs P 23 1 #[(0, (.agg #[.int .i64 n1, .slice a2 l2 c2, .int .i64 n3, .int .i64 n4, .int .i64 n5]))] w = some (.slice (some ⟨w.heap.size, 0, none⟩) 1 1, w.alloc (.cells #[.int .i64 n1, .slice a2 l2 c2, .int .i64 n3, .int .i64 n4, .int .i64 n5] 56)) := bs_of (by kernel_rfl)
@[simp] theorem bs_41_1_0 (a1 : Option Addr) (l1 c1 : Nat) (a2 : Option Addr) (l2 c2 : Nat) (w : World) : bs P 41 1 #[(0, (.agg #[.slice a1 l1 c1, .slice a2 l2 c2]))] w = some (.slice (some ⟨w.heap.size, 0, none⟩) 1 1, w.alloc (.cells #[.slice a1 l1 c1, .slice a2 l2 c2] 83)) := bs_of (by kernel_rfl)
@[simp] theorem bs_84_1_0 (n1 : Int) (w : World) : bs P 84 1 #[(0, (.int .u8 n1))] w = some (.slice (some ⟨w.heap.size, 0, none⟩) 1 1, w.alloc (.cells #[.int .u8 n1] 5)) := bs_of (by kernel_rfl)
@[simp] theorem cv_3_5 (n : Int) (w : World) : cv P 3 5 (.int .i64 n) w = some (.int .u8 (IntKind.wrap .u8 n), w) := cv_int (by kernel_rfl) (by kernel_rfl) _ n w
attribute [simp ↓] bnd cnd_t cnd_f ifP_true gif_tt gif_tf gif_ft gif_ff gif_u pick_t pick_f
attribute [simp] bx_eq bo_lss bo_leq bo_gtr bo_geq bo_eql bo_neq bo_add bo_sub bo_mul bo_eql_str bo_neq_str uo_not uo_neg ret_some World.size_alloc size_setRow cells_agg cells_int cells_bool cells_string cells_slice cells_pointer cells_map cells_nilIface cells_func vl_eq dw_size hp_dw ldR_some ldL_some stR_cells splice_eq cellsAt_zero cellsAt_succ consO_some cellO_some nth_nil nth_zero nth_succ setO_some hp_set_eq Value.oneCell'
end Go.Proofs.Ytligcpabhddggaa.X
