/- A part of the proof: an evaluator of the model, its laws, and contracts of functions; no condition. -/
import Derived.Test.YthicfemhpnnaaaaProg
import Derived.Test.YthicfemhpnnaaaaEvM
set_option linter.unusedVariables false
namespace Go.Proofs.Ythicfemhpnnaaaa.X
open Go Go.Ev
noncomputable def P : Program := Try.prog
theorem plain : Plain P := by
  have h : (P.funcs.toList.all fun fn => fn.body.isNone || fn.name != "runtime.NumGoroutine") = true := by kernel_rfl
  intro fn hf hb
  rw [List.all_eq_true] at h
  have := h fn (Array.mem_toList_iff.2 hf)
  simp only [Option.isNone_iff_eq_none, Bool.or_eq_true, bne_iff_ne, ne_eq] at this
  rcases this with h | h
  · rw [h] at hb; simp at hb
  · exact h
theorem mixed : P.follows .mixedOrders = true := by kernel_rfl
end Go.Proofs.Ythicfemhpnnaaaa.X
set_option linter.unusedVariables false
namespace Go.Proofs.Ythicfemhpnnaaaa.X
open Go Go.Ev
@[simp] theorem al_24 (w : World) : al P 24 w = some (pt w.heap.size 0, w.alloc (.cells #[(Go.Value.slice none 0 0)] 24)) := al_eq (z := [(Go.Value.slice none 0 0)]) (by kernel_rfl) w
@[simp] theorem al_35 (w : World) : al P 35 w = some (pt w.heap.size 0, w.alloc (.cells #[(Go.Value.slice none 0 0)] 35)) := al_eq (z := [(Go.Value.slice none 0 0)]) (by kernel_rfl) w
@[simp] theorem al_46 (w : World) : al P 46 w = some (pt w.heap.size 0, w.alloc (.cells #[(.int .i64 0), (.int .i64 0)] 46)) := al_eq (z := [(.int .i64 0), (.int .i64 0)]) (by kernel_rfl) w
@[simp] theorem al_48 (w : World) : al P 48 w = some (pt w.heap.size 0, w.alloc (.cells #[(.int .i64 0), (.int .i64 0), (.int .i64 0), (Go.Value.slice none 0 0), (Go.Value.string { data := #[] }), (.bool false)] 48)) := al_eq (z := [(.int .i64 0), (.int .i64 0), (.int .i64 0), (Go.Value.slice none 0 0), (Go.Value.string { data := #[] }), (.bool false)]) (by kernel_rfl) w
@[simp] theorem al_57 (w : World) : al P 57 w = some (pt w.heap.size 0, w.alloc (.cells #[(Go.Value.slice none 0 0)] 57)) := al_eq (z := [(Go.Value.slice none 0 0)]) (by kernel_rfl) w
@[simp] theorem al_59 (w : World) : al P 59 w = some (pt w.heap.size 0, w.alloc (.cells #[(Go.Value.slice none 0 0), (Go.Value.slice none 0 0)] 59)) := al_eq (z := [(Go.Value.slice none 0 0), (Go.Value.slice none 0 0)]) (by kernel_rfl) w
@[simp] theorem len_109 (a : Option Addr) (n c : Nat) (w : World) : b_len P #[109] 3 #[.slice a n c] w = some (i64 n, w) := len_slice (e := 146) (s := (6, 72)) (by kernel_rfl) a n c w
@[simp] theorem len_117 (a : Option Addr) (n c : Nat) (w : World) : b_len P #[117] 3 #[.slice a n c] w = some (i64 n, w) := len_slice (e := 9) (s := (1, 16)) (by kernel_rfl) a n c w
@[simp] theorem len_142 (a : Option Addr) (n c : Nat) (w : World) : b_len P #[142] 3 #[.slice a n c] w = some (i64 n, w) := len_slice (e := 141) (s := (2, 16)) (by kernel_rfl) a n c w
@[simp] theorem len_22 (a : Option Addr) (n c : Nat) (w : World) : b_len P #[22] 3 #[.slice a n c] w = some (i64 n, w) := len_slice (e := 59) (s := (2, 48)) (by kernel_rfl) a n c w
@[simp] theorem len_29 (a : Option Addr) (n c : Nat) (w : World) : b_len P #[29] 3 #[.slice a n c] w = some (i64 n, w) := len_slice (e := 5) (s := (1, 1)) (by kernel_rfl) a n c w
@[simp] theorem len_33 (a : Option Addr) (n c : Nat) (w : World) : b_len P #[33] 3 #[.slice a n c] w = some (i64 n, w) := len_slice (e := 46) (s := (2, 16)) (by kernel_rfl) a n c w
@[simp] theorem len_39 (a : Option Addr) (n c : Nat) (w : World) : b_len P #[39] 3 #[.slice a n c] w = some (i64 n, w) := len_slice (e := 113) (s := (2, 48)) (by kernel_rfl) a n c w
@[simp] theorem len_55 (a : Option Addr) (n c : Nat) (w : World) : b_len P #[55] 3 #[.slice a n c] w = some (i64 n, w) := len_slice (e := 48) (s := (6, 72)) (by kernel_rfl) a n c w
@[simp] theorem len_78 (a : Option Addr) (n c : Nat) (w : World) : b_len P #[78] 3 #[.slice a n c] w = some (i64 n, w) := len_slice (e := 3) (s := (1, 8)) (by kernel_rfl) a n c w
@[simp] theorem len_9 (s : ByteArray) (w : World) : b_len P #[9] 3 #[.string s] w = some (i64 s.size, w) := len_str (by kernel_rfl) s w
@[simp] theorem bo_eql_4 (x y : Operand) (a b : Bool) (w : World) : bo P .eql 4 x y (.bool a) (.bool b) w = some (.bool (a == b), w) := bo_eql_bool (by kernel_rfl) x y a b w
theorem fs_46 : (P.fieldsOf 46).toList = [{ name := "Time", type := 3, offset := 0, embedded := false, tag := "", pkgPath := "", byteOffset := 0 }, { name := "Place", type := 3, offset := 1, embedded := false, tag := "", pkgPath := "", byteOffset := 8 }] := by kernel_rfl
@[simp] theorem bo_eql_46 (x y : Operand) (a0 a1 b0 b1 : Int) (w : World) : bo P .eql 46 x y (.agg #[i64 a0, i64 a1]) (.agg #[i64 b0, i64 b1]) w = some (.bool (((a0 == b0) && (a1 == b1))), w) := by
  have hg := run_eqGuard_agg (P := P) w .eql 46 x y #[i64 a0, i64 a1] #[i64 b0, i64 b1] (by kernel_rfl)
  have hs := run_equalIn_struct (P := P) w 9999 46 #[i64 a0, i64 a1] #[i64 b0, i64 b1] (by kernel_rfl) (by kernel_rfl)
  simp only [bo, Sem.run_bind, hg, Result.andThen_ok, run_eql_struct, hs, fs_46]
  exact eqTwo_eql (by kernel_rfl) (by kernel_rfl) ⟨by simp, by simp, rfl, rfl⟩ _ _ _ _ w
@[simp] theorem bo_neq_4 (x y : Operand) (a b : Bool) (w : World) : bo P .neq 4 x y (.bool a) (.bool b) w = some (.bool (!(a == b)), w) := bo_neq_bool (by kernel_rfl) x y a b w
@[simp] theorem bo_neq_46 (x y : Operand) (a0 a1 b0 b1 : Int) (w : World) : bo P .neq 46 x y (.agg #[i64 a0, i64 a1]) (.agg #[i64 b0, i64 b1]) w = some (.bool (!((a0 == b0) && (a1 == b1))), w) := by
  have hg := run_eqGuard_agg (P := P) w .neq 46 x y #[i64 a0, i64 a1] #[i64 b0, i64 b1] (by kernel_rfl)
  have hs := run_equalIn_struct (P := P) w 9999 46 #[i64 a0, i64 a1] #[i64 b0, i64 b1] (by kernel_rfl) (by kernel_rfl)
  simp only [bo, Sem.run_bind, hg, Result.andThen_ok, run_neq_struct, hs, fs_46]
  exact eqTwo_neq (by kernel_rfl) (by kernel_rfl) ⟨by simp, by simp, rfl, rfl⟩ _ _ _ _ w
@[simp] theorem fa_105_0 (b o : Nat) (w : World) : fa P 105 (pt b o) 0 w = some (pt b (o + 0), w) := fa_eq (n := 0) (g := some false) (by kernel_rfl) b o w
@[simp] theorem fa_105_1 (b o : Nat) (w : World) : fa P 105 (pt b o) 1 w = some (pt b (o + 1), w) := fa_eq (n := 0) (g := some false) (by kernel_rfl) b o w
@[simp] theorem fa_111_0 (b o : Nat) (w : World) : fa P 111 (pt b o) 0 w = some (pt b (o + 0), w) := fa_eq (n := 0) (g := some false) (by kernel_rfl) b o w
@[simp] theorem fa_113_0 (b o : Nat) (w : World) : fa P 113 (pt b o) 0 w = some (pt b (o + 0), w) := fa_eq (n := 0) (g := some true) (by kernel_rfl) b o w
@[simp] theorem fa_113_1 (b o : Nat) (w : World) : fa P 113 (pt b o) 1 w = some (pt b (o + 1), w) := fa_eq (n := 0) (g := some false) (by kernel_rfl) b o w
@[simp] theorem fa_141_0 (b o : Nat) (w : World) : fa P 141 (pt b o) 0 w = some (pt b (o + 0), w) := fa_eq (n := 0) (g := some false) (by kernel_rfl) b o w
@[simp] theorem fa_141_1 (b o : Nat) (w : World) : fa P 141 (pt b o) 1 w = some (pt b (o + 1), w) := fa_eq (n := 0) (g := some false) (by kernel_rfl) b o w
@[simp] theorem fa_144_0 (b o : Nat) (w : World) : fa P 144 (pt b o) 0 w = some (pt b (o + 0), w) := fa_eq (n := 0) (g := some false) (by kernel_rfl) b o w
@[simp] theorem fa_146_0 (b o : Nat) (w : World) : fa P 146 (pt b o) 0 w = some (pt b (o + 0), w) := fa_eq (n := 0) (g := some false) (by kernel_rfl) b o w
@[simp] theorem fa_146_1 (b o : Nat) (w : World) : fa P 146 (pt b o) 1 w = some (pt b (o + 1), w) := fa_eq (n := 1) (g := some true) (by kernel_rfl) b o w
@[simp] theorem fa_146_2 (b o : Nat) (w : World) : fa P 146 (pt b o) 2 w = some (pt b (o + 3), w) := fa_eq (n := 0) (g := some true) (by kernel_rfl) b o w
@[simp] theorem fa_146_3 (b o : Nat) (w : World) : fa P 146 (pt b o) 3 w = some (pt b (o + 4), w) := fa_eq (n := 0) (g := some false) (by kernel_rfl) b o w
@[simp] theorem fa_146_4 (b o : Nat) (w : World) : fa P 146 (pt b o) 4 w = some (pt b (o + 5), w) := fa_eq (n := 0) (g := some false) (by kernel_rfl) b o w
@[simp] theorem fa_24_0 (b o : Nat) (w : World) : fa P 24 (pt b o) 0 w = some (pt b (o + 0), w) := fa_eq (n := 0) (g := some false) (by kernel_rfl) b o w
@[simp] theorem fa_35_0 (b o : Nat) (w : World) : fa P 35 (pt b o) 0 w = some (pt b (o + 0), w) := fa_eq (n := 0) (g := some false) (by kernel_rfl) b o w
@[simp] theorem fa_41_0 (b o : Nat) (w : World) : fa P 41 (pt b o) 0 w = some (pt b (o + 0), w) := fa_eq (n := 0) (g := some false) (by kernel_rfl) b o w
@[simp] theorem fa_46_0 (b o : Nat) (w : World) : fa P 46 (pt b o) 0 w = some (pt b (o + 0), w) := fa_eq (n := 0) (g := some false) (by kernel_rfl) b o w
@[simp] theorem fa_46_1 (b o : Nat) (w : World) : fa P 46 (pt b o) 1 w = some (pt b (o + 1), w) := fa_eq (n := 0) (g := some false) (by kernel_rfl) b o w
@[simp] theorem fa_48_0 (b o : Nat) (w : World) : fa P 48 (pt b o) 0 w = some (pt b (o + 0), w) := fa_eq (n := 0) (g := some false) (by kernel_rfl) b o w
@[simp] theorem fa_48_1 (b o : Nat) (w : World) : fa P 48 (pt b o) 1 w = some (pt b (o + 1), w) := fa_eq (n := 1) (g := some true) (by kernel_rfl) b o w
@[simp] theorem fa_48_2 (b o : Nat) (w : World) : fa P 48 (pt b o) 2 w = some (pt b (o + 3), w) := fa_eq (n := 0) (g := some true) (by kernel_rfl) b o w
@[simp] theorem fa_48_3 (b o : Nat) (w : World) : fa P 48 (pt b o) 3 w = some (pt b (o + 4), w) := fa_eq (n := 0) (g := some false) (by kernel_rfl) b o w
@[simp] theorem fa_48_4 (b o : Nat) (w : World) : fa P 48 (pt b o) 4 w = some (pt b (o + 5), w) := fa_eq (n := 0) (g := some false) (by kernel_rfl) b o w
@[simp] theorem fa_57_0 (b o : Nat) (w : World) : fa P 57 (pt b o) 0 w = some (pt b (o + 0), w) := fa_eq (n := 0) (g := some false) (by kernel_rfl) b o w
@[simp] theorem fa_59_0 (b o : Nat) (w : World) : fa P 59 (pt b o) 0 w = some (pt b (o + 0), w) := fa_eq (n := 0) (g := some true) (by kernel_rfl) b o w
@[simp] theorem fa_59_1 (b o : Nat) (w : World) : fa P 59 (pt b o) 1 w = some (pt b (o + 1), w) := fa_eq (n := 0) (g := some false) (by kernel_rfl) b o w
theorem el_22 : elB P 22 = some (59, 2, 48) := by kernel_rfl
theorem ia_22 {b o n c : Nat} {i : Int} (h0 : 0 ≤ i) (h1 : i < n) (w : World) : ia P 22 (.slice (some ⟨b, o, none⟩) n c) (i64 i) w = some (pt b (o + i.toNat * 2), w) := ia_eq el_22 h0 h1 w
theorem el_29 : elB P 29 = some (5, 1, 1) := by kernel_rfl
theorem ia_29 {b o n c : Nat} {i : Int} (h0 : 0 ≤ i) (h1 : i < n) (w : World) : ia P 29 (.slice (some ⟨b, o, none⟩) n c) (i64 i) w = some (pt b (o + i.toNat * 1), w) := ia_eq el_29 h0 h1 w
theorem el_33 : elB P 33 = some (46, 2, 16) := by kernel_rfl
theorem ia_33 {b o n c : Nat} {i : Int} (h0 : 0 ≤ i) (h1 : i < n) (w : World) : ia P 33 (.slice (some ⟨b, o, none⟩) n c) (i64 i) w = some (pt b (o + i.toNat * 2), w) := ia_eq el_33 h0 h1 w
theorem el_55 : elB P 55 = some (48, 6, 72) := by kernel_rfl
theorem ia_55 {b o n c : Nat} {i : Int} (h0 : 0 ≤ i) (h1 : i < n) (w : World) : ia P 55 (.slice (some ⟨b, o, none⟩) n c) (i64 i) w = some (pt b (o + i.toNat * 6), w) := ia_eq el_55 h0 h1 w
theorem el_78 : elB P 78 = some (3, 1, 8) := by kernel_rfl
theorem ia_78 {b o n c : Nat} {i : Int} (h0 : 0 ≤ i) (h1 : i < n) (w : World) : ia P 78 (.slice (some ⟨b, o, none⟩) n c) (i64 i) w = some (pt b (o + i.toNat * 1), w) := ia_eq el_78 h0 h1 w
@[simp] theorem ld_109 (b o : Nat) (w : World) : ld P 109 (pt b o) w = ldR P 109 b o w (cellO (hp w b) o) := ld_one (by kernel_rfl) b o w
@[simp] theorem ld_111 (b o : Nat) (w : World) : ld P 111 (pt b o) w = ldL P 111 b o w (cellsAt w b o 1) := ld_agg (by kernel_rfl) (by kernel_rfl) b o w
@[simp] theorem ld_113 (b o : Nat) (w : World) : ld P 113 (pt b o) w = ldL P 113 b o w (cellsAt w b o 2) := ld_agg (by kernel_rfl) (by kernel_rfl) b o w
@[simp] theorem ld_141 (b o : Nat) (w : World) : ld P 141 (pt b o) w = ldL P 141 b o w (cellsAt w b o 2) := ld_agg (by kernel_rfl) (by kernel_rfl) b o w
@[simp] theorem ld_142 (b o : Nat) (w : World) : ld P 142 (pt b o) w = ldR P 142 b o w (cellO (hp w b) o) := ld_one (by kernel_rfl) b o w
@[simp] theorem ld_144 (b o : Nat) (w : World) : ld P 144 (pt b o) w = ldL P 144 b o w (cellsAt w b o 1) := ld_agg (by kernel_rfl) (by kernel_rfl) b o w
@[simp] theorem ld_146 (b o : Nat) (w : World) : ld P 146 (pt b o) w = ldL P 146 b o w (cellsAt w b o 6) := ld_agg (by kernel_rfl) (by kernel_rfl) b o w
@[simp] theorem ld_22 (b o : Nat) (w : World) : ld P 22 (pt b o) w = ldR P 22 b o w (cellO (hp w b) o) := ld_one (by kernel_rfl) b o w
@[simp] theorem ld_24 (b o : Nat) (w : World) : ld P 24 (pt b o) w = ldL P 24 b o w (cellsAt w b o 1) := ld_agg (by kernel_rfl) (by kernel_rfl) b o w
@[simp] theorem ld_29 (b o : Nat) (w : World) : ld P 29 (pt b o) w = ldR P 29 b o w (cellO (hp w b) o) := ld_one (by kernel_rfl) b o w
@[simp] theorem ld_3 (b o : Nat) (w : World) : ld P 3 (pt b o) w = ldR P 3 b o w (cellO (hp w b) o) := ld_one (by kernel_rfl) b o w
@[simp] theorem ld_33 (b o : Nat) (w : World) : ld P 33 (pt b o) w = ldR P 33 b o w (cellO (hp w b) o) := ld_one (by kernel_rfl) b o w
@[simp] theorem ld_35 (b o : Nat) (w : World) : ld P 35 (pt b o) w = ldL P 35 b o w (cellsAt w b o 1) := ld_agg (by kernel_rfl) (by kernel_rfl) b o w
@[simp] theorem ld_39 (b o : Nat) (w : World) : ld P 39 (pt b o) w = ldR P 39 b o w (cellO (hp w b) o) := ld_one (by kernel_rfl) b o w
@[simp] theorem ld_4 (b o : Nat) (w : World) : ld P 4 (pt b o) w = ldR P 4 b o w (cellO (hp w b) o) := ld_one (by kernel_rfl) b o w
@[simp] theorem ld_41 (b o : Nat) (w : World) : ld P 41 (pt b o) w = ldL P 41 b o w (cellsAt w b o 1) := ld_agg (by kernel_rfl) (by kernel_rfl) b o w
@[simp] theorem ld_46 (b o : Nat) (w : World) : ld P 46 (pt b o) w = ldL P 46 b o w (cellsAt w b o 2) := ld_agg (by kernel_rfl) (by kernel_rfl) b o w
@[simp] theorem ld_48 (b o : Nat) (w : World) : ld P 48 (pt b o) w = ldL P 48 b o w (cellsAt w b o 6) := ld_agg (by kernel_rfl) (by kernel_rfl) b o w
@[simp] theorem ld_5 (b o : Nat) (w : World) : ld P 5 (pt b o) w = ldR P 5 b o w (cellO (hp w b) o) := ld_one (by kernel_rfl) b o w
@[simp] theorem ld_55 (b o : Nat) (w : World) : ld P 55 (pt b o) w = ldR P 55 b o w (cellO (hp w b) o) := ld_one (by kernel_rfl) b o w
@[simp] theorem ld_57 (b o : Nat) (w : World) : ld P 57 (pt b o) w = ldL P 57 b o w (cellsAt w b o 1) := ld_agg (by kernel_rfl) (by kernel_rfl) b o w
@[simp] theorem ld_59 (b o : Nat) (w : World) : ld P 59 (pt b o) w = ldL P 59 b o w (cellsAt w b o 2) := ld_agg (by kernel_rfl) (by kernel_rfl) b o w
@[simp] theorem ld_9 (b o : Nat) (w : World) : ld P 9 (pt b o) w = ldR P 9 b o w (cellO (hp w b) o) := ld_one (by kernel_rfl) b o w
@[simp] theorem st_22 (b o : Nat) (v : Value) (w : World) : st P 22 (pt b o) v w = stR P 22 1 b o v w (hp w b) := st_eq (by kernel_rfl) b o v w
@[simp] theorem st_24 (b o : Nat) (v : Value) (w : World) : st P 24 (pt b o) v w = stR P 24 1 b o v w (hp w b) := st_eq (by kernel_rfl) b o v w
@[simp] theorem st_3 (b o : Nat) (v : Value) (w : World) : st P 3 (pt b o) v w = stR P 3 1 b o v w (hp w b) := st_eq (by kernel_rfl) b o v w
@[simp] theorem st_33 (b o : Nat) (v : Value) (w : World) : st P 33 (pt b o) v w = stR P 33 1 b o v w (hp w b) := st_eq (by kernel_rfl) b o v w
@[simp] theorem st_35 (b o : Nat) (v : Value) (w : World) : st P 35 (pt b o) v w = stR P 35 1 b o v w (hp w b) := st_eq (by kernel_rfl) b o v w
@[simp] theorem st_4 (b o : Nat) (v : Value) (w : World) : st P 4 (pt b o) v w = stR P 4 1 b o v w (hp w b) := st_eq (by kernel_rfl) b o v w
@[simp] theorem st_46 (b o : Nat) (v : Value) (w : World) : st P 46 (pt b o) v w = stR P 46 2 b o v w (hp w b) := st_eq (by kernel_rfl) b o v w
@[simp] theorem st_48 (b o : Nat) (v : Value) (w : World) : st P 48 (pt b o) v w = stR P 48 6 b o v w (hp w b) := st_eq (by kernel_rfl) b o v w
@[simp] theorem st_55 (b o : Nat) (v : Value) (w : World) : st P 55 (pt b o) v w = stR P 55 1 b o v w (hp w b) := st_eq (by kernel_rfl) b o v w
@[simp] theorem st_57 (b o : Nat) (v : Value) (w : World) : st P 57 (pt b o) v w = stR P 57 1 b o v w (hp w b) := st_eq (by kernel_rfl) b o v w
@[simp] theorem st_59 (b o : Nat) (v : Value) (w : World) : st P 59 (pt b o) v w = stR P 59 2 b o v w (hp w b) := st_eq (by kernel_rfl) b o v w
@[simp] theorem st_9 (b o : Nat) (v : Value) (w : World) : st P 9 (pt b o) v w = stR P 9 1 b o v w (hp w b) := st_eq (by kernel_rfl) b o v w
theorem zz_59 : zeroB P 59 = some [(Go.Value.slice none 0 0), (Go.Value.slice none 0 0)] := by kernel_rfl
theorem zz_46 : zeroB P 46 = some [(.int .i64 0), (.int .i64 0)] := by kernel_rfl
theorem zz_48 : zeroB P 48 = some [(.int .i64 0), (.int .i64 0), (.int .i64 0), (Go.Value.slice none 0 0), (Go.Value.string { data := #[] }), (.bool false)] := by kernel_rfl
@[simp] theorem bd_105_0 (a1 : Option Addr) (l1 c1 : Nat) (w : World) : bd P 105 #[(0, (.slice a1 l1 c1))] w = some (.agg #[.slice a1 l1 c1, (.int .i64 0)], w) := bd_of (by kernel_rfl)
@[simp] theorem bd_24_  (w : World) : bd P 24 #[] w = some (.agg #[(Go.Value.slice none 0 0)], w) := bd_of (by kernel_rfl)
@[simp] theorem bd_24_0 (a1 : Option Addr) (l1 c1 : Nat) (w : World) : bd P 24 #[(0, (.slice a1 l1 c1))] w = some (.agg #[.slice a1 l1 c1], w) := bd_of (by kernel_rfl)
@[simp] theorem bd_35_  (w : World) : bd P 35 #[] w = some (.agg #[(Go.Value.slice none 0 0)], w) := bd_of (by kernel_rfl)
@[simp] theorem bd_35_0 (a1 : Option Addr) (l1 c1 : Nat) (w : World) : bd P 35 #[(0, (.slice a1 l1 c1))] w = some (.agg #[.slice a1 l1 c1], w) := bd_of (by kernel_rfl)
@[simp] theorem bd_46_  (w : World) : bd P 46 #[] w = some (.agg #[(.int .i64 0), (.int .i64 0)], w) := bd_of (by kernel_rfl)
@[simp] theorem bd_46_0_1 (n1 : Int) (n2 : Int) (w : World) : bd P 46 #[(0, (.int .i64 n1)), (1, (.int .i64 n2))] w = some (.agg #[.int .i64 n1, .int .i64 n2], w) := bd_of (by kernel_rfl)
@[simp] theorem bd_48_  (w : World) : bd P 48 #[] w = some (.agg #[(.int .i64 0), (.int .i64 0), (.int .i64 0), (Go.Value.slice none 0 0), (Go.Value.string { data := #[] }), (.bool false)], w) := bd_of (by kernel_rfl)
@[simp] theorem bd_48_0_2_3 (n1 : Int) (a2 : Option Addr) (l2 c2 : Nat) (s3 : ByteArray) (w : World) : bd P 48 #[(0, (.int .i64 n1)), (2, (.agg #[.slice a2 l2 c2])), (3, (.string s3))] w = some (.agg #[.int .i64 n1, (.int .i64 0), (.int .i64 0), .slice a2 l2 c2, .string s3, (.bool false)], w) := bd_of (by kernel_rfl)
@[simp] theorem bd_48_3 (s1 : ByteArray) (w : World) : bd P 48 #[(3, (.string s1))] w = some (.agg #[(.int .i64 0), (.int .i64 0), (.int .i64 0), (Go.Value.slice none 0 0), .string s1, (.bool false)], w) := bd_of (by kernel_rfl)
@[simp] theorem bd_57_  (w : World) : bd P 57 #[] w = some (.agg #[(Go.Value.slice none 0 0)], w) := bd_of (by kernel_rfl)
@[simp] theorem bd_57_0 (a1 : Option Addr) (l1 c1 : Nat) (w : World) : bd P 57 #[(0, (.slice a1 l1 c1))] w = some (.agg #[.slice a1 l1 c1], w) := bd_of (by kernel_rfl)
@[simp] theorem bd_59_0_1 (a1 : Option Addr) (l1 c1 : Nat) (a2 : Option Addr) (l2 c2 : Nat) (w : World) : bd P 59 #[(0, (.agg #[.slice a1 l1 c1])), (1, (.slice a2 l2 c2))] w = some (.agg #[.slice a1 l1 c1, .slice a2 l2 c2], w) := bd_of (by kernel_rfl)
@[simp] theorem bd_59_0 (a1 : Option Addr) (l1 c1 : Nat) (w : World) : bd P 59 #[(0, (.agg #[.slice a1 l1 c1]))] w = some (.agg #[.slice a1 l1 c1, (Go.Value.slice none 0 0)], w) := bd_of (by kernel_rfl)
@[simp] theorem bs_22_0 (w : World) : bs P 22 0 #[] w = some (.slice (some ⟨w.heap.size, 0, none⟩) 0 0, w.alloc (.cells #[] 59)) := bs_zero (n := 2) (by kernel_rfl) (by kernel_rfl) w
@[simp] theorem bs_22_1_0 (a1 : Option Addr) (l1 c1 : Nat) (a2 : Option Addr) (l2 c2 : Nat) (w : World) : bs P 22 1 #[(0, (.agg #[.slice a1 l1 c1, .slice a2 l2 c2]))] w = some (.slice (some ⟨w.heap.size, 0, none⟩) 1 1, w.alloc (.cells #[.slice a1 l1 c1, .slice a2 l2 c2] 59)) := bs_of (by kernel_rfl)
@[simp] theorem bs_29_1_0 (n1 : Int) (w : World) : bs P 29 1 #[(0, (.int .u8 n1))] w = some (.slice (some ⟨w.heap.size, 0, none⟩) 1 1, w.alloc (.cells #[.int .u8 n1] 5)) := bs_of (by kernel_rfl)
@[simp] theorem bs_33_0 (w : World) : bs P 33 0 #[] w = some (.slice (some ⟨w.heap.size, 0, none⟩) 0 0, w.alloc (.cells #[] 46)) := bs_zero (n := 2) (by kernel_rfl) (by kernel_rfl) w
@[simp] theorem bs_33_1_0 (n1 : Int) (n2 : Int) (w : World) : bs P 33 1 #[(0, (.agg #[.int .i64 n1, .int .i64 n2]))] w = some (.slice (some ⟨w.heap.size, 0, none⟩) 1 1, w.alloc (.cells #[.int .i64 n1, .int .i64 n2] 46)) := bs_of (by kernel_rfl)
@[simp] theorem bs_55_0 (w : World) : bs P 55 0 #[] w = some (.slice (some ⟨w.heap.size, 0, none⟩) 0 0, w.alloc (.cells #[] 48)) := bs_zero (n := 6) (by kernel_rfl) (by kernel_rfl) w
@[simp] theorem bs_55_1_0 (n1 : Int) (n2 : Int) (n3 : Int) (a4 : Option Addr) (l4 c4 : Nat) (s5 : ByteArray) (b6 : Bool) (w : World) : bs P 55 1 #[(0, (.agg #[.int .i64 n1, .int .i64 n2, .int .i64 n3, .slice a4 l4 c4, .string s5, .bool b6]))] w = some (.slice (some ⟨w.heap.size, 0, none⟩) 1 1, w.alloc (.cells #[.int .i64 n1, .int .i64 n2, .int .i64 n3, .slice a4 l4 c4, .string s5, .bool b6] 48)) := bs_of (by kernel_rfl)
@[simp] theorem bs_78_2_0_1 (n1 : Int) (n2 : Int) (w : World) : bs P 78 2 #[(0, (.int .i64 n1)), (1, (.int .i64 n2))] w = some (.slice (some ⟨w.heap.size, 0, none⟩) 2 2, w.alloc (.cells #[.int .i64 n1, .int .i64 n2] 3)) := bs_of (by kernel_rfl)
@[simp] theorem bs_78_4_0_1_2_3 (n1 : Int) (n2 : Int) (n3 : Int) (n4 : Int) (w : World) : bs P 78 4 #[(0, (.int .i64 n1)), (1, (.int .i64 n2)), (2, (.int .i64 n3)), (3, (.int .i64 n4))] w = some (.slice (some ⟨w.heap.size, 0, none⟩) 4 4, w.alloc (.cells #[.int .i64 n1, .int .i64 n2, .int .i64 n3, .int .i64 n4] 3)) := bs_of (by kernel_rfl)
@[simp] theorem bs_78_6_0_1_2_3_4_5 (n1 : Int) (n2 : Int) (n3 : Int) (n4 : Int) (n5 : Int) (n6 : Int) (w : World) : bs P 78 6 #[(0, (.int .i64 n1)), (1, (.int .i64 n2)), (2, (.int .i64 n3)), (3, (.int .i64 n4)), (4, (.int .i64 n5)), (5, (.int .i64 n6))] w = some (.slice (some ⟨w.heap.size, 0, none⟩) 6 6, w.alloc (.cells #[.int .i64 n1, .int .i64 n2, .int .i64 n3, .int .i64 n4, .int .i64 n5, .int .i64 n6] 3)) := bs_of (by kernel_rfl)
@[simp] theorem bs_78_8_0_1_2_3_4_5_6_7 (n1 : Int) (n2 : Int) (n3 : Int) (n4 : Int) (n5 : Int) (n6 : Int) (n7 : Int) (n8 : Int) (w : World) : bs P 78 8 #[(0, (.int .i64 n1)), (1, (.int .i64 n2)), (2, (.int .i64 n3)), (3, (.int .i64 n4)), (4, (.int .i64 n5)), (5, (.int .i64 n6)), (6, (.int .i64 n7)), (7, (.int .i64 n8))] w = some (.slice (some ⟨w.heap.size, 0, none⟩) 8 8, w.alloc (.cells #[.int .i64 n1, .int .i64 n2, .int .i64 n3, .int .i64 n4, .int .i64 n5, .int .i64 n6, .int .i64 n7, .int .i64 n8] 3)) := bs_of (by kernel_rfl)
@[simp] theorem bs_117_3_0_1_2 (s1 : ByteArray) (s2 : ByteArray) (s3 : ByteArray) (w : World) : bs P 117 3 #[(0, (.string s1)), (1, (.string s2)), (2, (.string s3))] w = some (.slice (some ⟨w.heap.size, 0, none⟩) 3 3, w.alloc (.cells #[.string s1, .string s2, .string s3] 9)) := bs_of (by kernel_rfl)
@[simp] theorem bs_117_8_0_1_2_3_4_5_6_7 (s1 : ByteArray) (s2 : ByteArray) (s3 : ByteArray) (s4 : ByteArray) (s5 : ByteArray) (s6 : ByteArray) (s7 : ByteArray) (s8 : ByteArray) (w : World) : bs P 117 8 #[(0, (.string s1)), (1, (.string s2)), (2, (.string s3)), (3, (.string s4)), (4, (.string s5)), (5, (.string s6)), (6, (.string s7)), (7, (.string s8))] w = some (.slice (some ⟨w.heap.size, 0, none⟩) 8 8, w.alloc (.cells #[.string s1, .string s2, .string s3, .string s4, .string s5, .string s6, .string s7, .string s8] 9)) := bs_of (by kernel_rfl)
@[simp] theorem cv_3_5 (n : Int) (w : World) : cv P 3 5 (.int .i64 n) w = some (.int .u8 (IntKind.wrap .u8 n), w) := cv_int (by kernel_rfl) (by kernel_rfl) _ n w
@[simp] theorem cv_5_3 (n : Int) (w : World) : cv P 5 3 (.int .u8 n) w = some (.int .i64 (IntKind.wrap .i64 n), w) := cv_int (by kernel_rfl) (by kernel_rfl) _ n w
attribute [simp ↓] bnd cnd_t cnd_f ifP_true gif_tt gif_tf gif_ft gif_ff gif_u pick_t pick_f
attribute [simp] bx_eq bo_lss bo_leq bo_gtr bo_geq bo_eql bo_neq bo_add bo_sub bo_mul bo_eql_str bo_neq_str uo_not uo_neg ret_some World.size_alloc size_setRow cells_agg cells_int cells_bool cells_string cells_slice cells_pointer cells_map cells_nilIface cells_func vl_eq dw_size hp_dw ldR_some ldL_some stR_cells splice_eq cellsAt_zero cellsAt_succ consO_some cellO_some nth_nil nth_zero nth_succ setO_some hp_set_eq Value.oneCell'
end Go.Proofs.Ythicfemhpnnaaaa.X
