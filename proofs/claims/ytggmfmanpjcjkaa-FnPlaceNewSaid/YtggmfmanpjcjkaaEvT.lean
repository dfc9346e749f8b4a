/- A part of the proof: an evaluator of the model, its laws, and contracts of functions; no condition. -/
import Derived.Test.YtggmfmanpjcjkaaProg
import Derived.Test.YtggmfmanpjcjkaaEvM
set_option linter.unusedVariables false
namespace Go.Proofs.Ytggmfmanpjcjkaa.X
open Go Go.Ev
noncomputable def P : Program := Try.prog
theorem plain : Plain P := by
  have h : (P.funcs.toList.all fun fn => fn.body.isNone || fn.name != "runtime.NumGoroutine") = true := by kernel_rfl
  intro fn hf hb
  rw [List.all_eq_true] at h
  have := h fn (Array.mem_toList_iff.2 hf)
  simp only [Option.isNone_iff_eq_none, Bool.or_eq_true, bne_iff_ne, ne_eq] at this
  rcases this with h | h
  · rw [h] at hb; simp at hb
  · exact h
theorem mixed : P.follows .mixedOrders = true := by kernel_rfl
end Go.Proofs.Ytggmfmanpjcjkaa.X
set_option linter.unusedVariables false
namespace Go.Proofs.Ytggmfmanpjcjkaa.X
open Go Go.Ev
@[simp] theorem al_24 (w : World) : al P 24 w = some (pt w.heap.size 0, w.alloc (.cells #[(Go.Value.slice none 0 0)] 24)) := al_eq (z := [(Go.Value.slice none 0 0)]) (by kernel_rfl) w
@[simp] theorem al_31 (w : World) : al P 31 w = some (pt w.heap.size 0, w.alloc (.cells #[(Go.Value.slice none 0 0)] 31)) := al_eq (z := [(Go.Value.slice none 0 0)]) (by kernel_rfl) w
@[simp] theorem al_34 (w : World) : al P 34 w = some (pt w.heap.size 0, w.alloc (.cells #[(.int .i64 0), (.int .i64 0), (Go.Value.slice none 0 0), (Go.Value.slice none 0 0), (Go.Value.slice none 0 0), (.bool false)] 34)) := al_eq (z := [(.int .i64 0), (.int .i64 0), (Go.Value.slice none 0 0), (Go.Value.slice none 0 0), (Go.Value.slice none 0 0), (.bool false)]) (by kernel_rfl) w
@[simp] theorem al_49 (w : World) : al P 49 w = some (pt w.heap.size 0, w.alloc (.cells #[(Go.Value.slice none 0 0), (Go.Value.slice none 0 0), (Go.Value.slice none 0 0), (Go.Value.slice none 0 0)] 49)) := al_eq (z := [(Go.Value.slice none 0 0), (Go.Value.slice none 0 0), (Go.Value.slice none 0 0), (Go.Value.slice none 0 0)]) (by kernel_rfl) w
@[simp] theorem al_70 (w : World) : al P 70 w = some (pt w.heap.size 0, w.alloc (.cells #[(Go.Value.slice none 0 0)] 70)) := al_eq (z := [(Go.Value.slice none 0 0)]) (by kernel_rfl) w
@[simp] theorem al_73 (w : World) : al P 73 w = some (pt w.heap.size 0, w.alloc (.cells #[(Go.Value.slice none 0 0), (Go.Value.slice none 0 0)] 73)) := al_eq (z := [(Go.Value.slice none 0 0), (Go.Value.slice none 0 0)]) (by kernel_rfl) w
@[simp] theorem al_76 (w : World) : al P 76 w = some (pt w.heap.size 0, w.alloc (.cells #[(.int .i64 0), (.int .i64 0)] 76)) := al_eq (z := [(.int .i64 0), (.int .i64 0)]) (by kernel_rfl) w
@[simp] theorem al_78 (w : World) : al P 78 w = some (pt w.heap.size 0, w.alloc (.cells #[(.int .i64 0), (.int .i64 0), (.int .i64 0), (Go.Value.slice none 0 0), (Go.Value.string { data := #[] }), (.bool false)] 78)) := al_eq (z := [(.int .i64 0), (.int .i64 0), (.int .i64 0), (Go.Value.slice none 0 0), (Go.Value.string { data := #[] }), (.bool false)]) (by kernel_rfl) w
@[simp] theorem len_22 (a : Option Addr) (n c : Nat) (w : World) : b_len P #[22] 3 #[.slice a n c] w = some (i64 n, w) := len_slice (e := 78) (s := (6, 72)) (by kernel_rfl) a n c w
@[simp] theorem len_29 (a : Option Addr) (n c : Nat) (w : World) : b_len P #[29] 3 #[.slice a n c] w = some (i64 n, w) := len_slice (e := 73) (s := (2, 48)) (by kernel_rfl) a n c w
@[simp] theorem len_32 (a : Option Addr) (n c : Nat) (w : World) : b_len P #[32] 3 #[.slice a n c] w = some (i64 n, w) := len_slice (e := 22) (s := (1, 24)) (by kernel_rfl) a n c w
@[simp] theorem len_39 (a : Option Addr) (n c : Nat) (w : World) : b_len P #[39] 3 #[.slice a n c] w = some (i64 n, w) := len_slice (e := 5) (s := (1, 1)) (by kernel_rfl) a n c w
@[simp] theorem len_44 (a : Option Addr) (n c : Nat) (w : World) : b_len P #[44] 3 #[.slice a n c] w = some (i64 n, w) := len_slice (e := 34) (s := (6, 96)) (by kernel_rfl) a n c w
@[simp] theorem len_45 (a : Option Addr) (n c : Nat) (w : World) : b_len P #[45] 3 #[.slice a n c] w = some (i64 n, w) := len_slice (e := 104) (s := (5, 56)) (by kernel_rfl) a n c w
@[simp] theorem len_46 (a : Option Addr) (n c : Nat) (w : World) : b_len P #[46] 3 #[.slice a n c] w = some (i64 n, w) := len_slice (e := 108) (s := (9, 96)) (by kernel_rfl) a n c w
@[simp] theorem len_47 (a : Option Addr) (n c : Nat) (w : World) : b_len P #[47] 3 #[.slice a n c] w = some (i64 n, w) := len_slice (e := 111) (s := (5, 40)) (by kernel_rfl) a n c w
@[simp] theorem len_65 (a : Option Addr) (n c : Nat) (w : World) : b_len P #[65] 3 #[.slice a n c] w = some (i64 n, w) := len_slice (e := 3) (s := (1, 8)) (by kernel_rfl) a n c w
@[simp] theorem len_68 (a : Option Addr) (n c : Nat) (w : World) : b_len P #[68] 3 #[.slice a n c] w = some (i64 n, w) := len_slice (e := 76) (s := (2, 16)) (by kernel_rfl) a n c w
@[simp] theorem len_9 (s : ByteArray) (w : World) : b_len P #[9] 3 #[.string s] w = some (i64 s.size, w) := len_str (by kernel_rfl) s w
@[simp] theorem bo_eql_4 (x y : Operand) (a b : Bool) (w : World) : bo P .eql 4 x y (.bool a) (.bool b) w = some (.bool (a == b), w) := bo_eql_bool (by kernel_rfl) x y a b w
theorem fs_76 : (P.fieldsOf 76).toList = [{ name := "Time", type := 3, offset := 0, embedded := false, tag := "", pkgPath := "", byteOffset := 0 }, { name := "Place", type := 3, offset := 1, embedded := false, tag := "", pkgPath := "", byteOffset := 8 }] := by kernel_rfl
@[simp] theorem bo_eql_76 (x y : Operand) (a0 a1 b0 b1 : Int) (w : World) : bo P .eql 76 x y (.agg #[i64 a0, i64 a1]) (.agg #[i64 b0, i64 b1]) w = some (.bool (((a0 == b0) && (a1 == b1))), w) := by
  have hg := run_eqGuard_agg (P := P) w .eql 76 x y #[i64 a0, i64 a1] #[i64 b0, i64 b1] (by kernel_rfl)
  have hs := run_equalIn_struct (P := P) w 9999 76 #[i64 a0, i64 a1] #[i64 b0, i64 b1] (by kernel_rfl) (by kernel_rfl)
  simp only [bo, Sem.run_bind, hg, Result.andThen_ok, run_eql_struct, hs, fs_76]
  exact eqTwo_eql (by kernel_rfl) (by kernel_rfl) ⟨by simp, by simp, rfl, rfl⟩ _ _ _ _ w
@[simp] theorem bo_neq_4 (x y : Operand) (a b : Bool) (w : World) : bo P .neq 4 x y (.bool a) (.bool b) w = some (.bool (!(a == b)), w) := bo_neq_bool (by kernel_rfl) x y a b w
@[simp] theorem bo_neq_76 (x y : Operand) (a0 a1 b0 b1 : Int) (w : World) : bo P .neq 76 x y (.agg #[i64 a0, i64 a1]) (.agg #[i64 b0, i64 b1]) w = some (.bool (!((a0 == b0) && (a1 == b1))), w) := by
  have hg := run_eqGuard_agg (P := P) w .neq 76 x y #[i64 a0, i64 a1] #[i64 b0, i64 b1] (by kernel_rfl)
  have hs := run_equalIn_struct (P := P) w 9999 76 #[i64 a0, i64 a1] #[i64 b0, i64 b1] (by kernel_rfl) (by kernel_rfl)
  simp only [bo, Sem.run_bind, hg, Result.andThen_ok, run_neq_struct, hs, fs_76]
  exact eqTwo_neq (by kernel_rfl) (by kernel_rfl) ⟨by simp, by simp, rfl, rfl⟩ _ _ _ _ w
@[simp] theorem fa_104_0 (b o : Nat) (w : World) : fa P 104 (pt b o) 0 w = some (pt b (o + 0), w) := fa_eq (n := 0) (g := some false) (by kernel_rfl) b o w
@[simp] theorem fa_104_1 (b o : Nat) (w : World) : fa P 104 (pt b o) 1 w = some (pt b (o + 1), w) := fa_eq (n := 0) (g := some true) (by kernel_rfl) b o w
@[simp] theorem fa_104_2 (b o : Nat) (w : World) : fa P 104 (pt b o) 2 w = some (pt b (o + 2), w) := fa_eq (n := 1) (g := some true) (by kernel_rfl) b o w
@[simp] theorem fa_104_3 (b o : Nat) (w : World) : fa P 104 (pt b o) 3 w = some (pt b (o + 4), w) := fa_eq (n := 0) (g := some false) (by kernel_rfl) b o w
@[simp] theorem fa_108_0 (b o : Nat) (w : World) : fa P 108 (pt b o) 0 w = some (pt b (o + 0), w) := fa_eq (n := 0) (g := some false) (by kernel_rfl) b o w
@[simp] theorem fa_108_1 (b o : Nat) (w : World) : fa P 108 (pt b o) 1 w = some (pt b (o + 1), w) := fa_eq (n := 0) (g := some false) (by kernel_rfl) b o w
@[simp] theorem fa_108_2 (b o : Nat) (w : World) : fa P 108 (pt b o) 2 w = some (pt b (o + 2), w) := fa_eq (n := 0) (g := some false) (by kernel_rfl) b o w
@[simp] theorem fa_108_3 (b o : Nat) (w : World) : fa P 108 (pt b o) 3 w = some (pt b (o + 3), w) := fa_eq (n := 5) (g := some true) (by kernel_rfl) b o w
@[simp] theorem fa_111_0 (b o : Nat) (w : World) : fa P 111 (pt b o) 0 w = some (pt b (o + 0), w) := fa_eq (n := 0) (g := some false) (by kernel_rfl) b o w
@[simp] theorem fa_111_1 (b o : Nat) (w : World) : fa P 111 (pt b o) 1 w = some (pt b (o + 1), w) := fa_eq (n := 0) (g := some false) (by kernel_rfl) b o w
@[simp] theorem fa_111_2 (b o : Nat) (w : World) : fa P 111 (pt b o) 2 w = some (pt b (o + 2), w) := fa_eq (n := 0) (g := some false) (by kernel_rfl) b o w
@[simp] theorem fa_111_3 (b o : Nat) (w : World) : fa P 111 (pt b o) 3 w = some (pt b (o + 3), w) := fa_eq (n := 1) (g := some true) (by kernel_rfl) b o w
@[simp] theorem fa_24_0 (b o : Nat) (w : World) : fa P 24 (pt b o) 0 w = some (pt b (o + 0), w) := fa_eq (n := 0) (g := some false) (by kernel_rfl) b o w
@[simp] theorem fa_31_0 (b o : Nat) (w : World) : fa P 31 (pt b o) 0 w = some (pt b (o + 0), w) := fa_eq (n := 0) (g := some false) (by kernel_rfl) b o w
@[simp] theorem fa_34_0 (b o : Nat) (w : World) : fa P 34 (pt b o) 0 w = some (pt b (o + 0), w) := fa_eq (n := 0) (g := some false) (by kernel_rfl) b o w
@[simp] theorem fa_34_1 (b o : Nat) (w : World) : fa P 34 (pt b o) 1 w = some (pt b (o + 1), w) := fa_eq (n := 0) (g := some false) (by kernel_rfl) b o w
@[simp] theorem fa_34_2 (b o : Nat) (w : World) : fa P 34 (pt b o) 2 w = some (pt b (o + 2), w) := fa_eq (n := 0) (g := some true) (by kernel_rfl) b o w
@[simp] theorem fa_34_3 (b o : Nat) (w : World) : fa P 34 (pt b o) 3 w = some (pt b (o + 3), w) := fa_eq (n := 0) (g := some false) (by kernel_rfl) b o w
@[simp] theorem fa_34_4 (b o : Nat) (w : World) : fa P 34 (pt b o) 4 w = some (pt b (o + 4), w) := fa_eq (n := 0) (g := some false) (by kernel_rfl) b o w
@[simp] theorem fa_34_5 (b o : Nat) (w : World) : fa P 34 (pt b o) 5 w = some (pt b (o + 5), w) := fa_eq (n := 0) (g := some false) (by kernel_rfl) b o w
@[simp] theorem fa_49_0 (b o : Nat) (w : World) : fa P 49 (pt b o) 0 w = some (pt b (o + 0), w) := fa_eq (n := 0) (g := some false) (by kernel_rfl) b o w
@[simp] theorem fa_49_1 (b o : Nat) (w : World) : fa P 49 (pt b o) 1 w = some (pt b (o + 1), w) := fa_eq (n := 0) (g := some false) (by kernel_rfl) b o w
@[simp] theorem fa_49_2 (b o : Nat) (w : World) : fa P 49 (pt b o) 2 w = some (pt b (o + 2), w) := fa_eq (n := 0) (g := some false) (by kernel_rfl) b o w
@[simp] theorem fa_49_3 (b o : Nat) (w : World) : fa P 49 (pt b o) 3 w = some (pt b (o + 3), w) := fa_eq (n := 0) (g := some false) (by kernel_rfl) b o w
@[simp] theorem fa_70_0 (b o : Nat) (w : World) : fa P 70 (pt b o) 0 w = some (pt b (o + 0), w) := fa_eq (n := 0) (g := some false) (by kernel_rfl) b o w
@[simp] theorem fa_73_0 (b o : Nat) (w : World) : fa P 73 (pt b o) 0 w = some (pt b (o + 0), w) := fa_eq (n := 0) (g := some true) (by kernel_rfl) b o w
@[simp] theorem fa_73_1 (b o : Nat) (w : World) : fa P 73 (pt b o) 1 w = some (pt b (o + 1), w) := fa_eq (n := 0) (g := some false) (by kernel_rfl) b o w
@[simp] theorem fa_76_0 (b o : Nat) (w : World) : fa P 76 (pt b o) 0 w = some (pt b (o + 0), w) := fa_eq (n := 0) (g := some false) (by kernel_rfl) b o w
@[simp] theorem fa_76_1 (b o : Nat) (w : World) : fa P 76 (pt b o) 1 w = some (pt b (o + 1), w) := fa_eq (n := 0) (g := some false) (by kernel_rfl) b o w
@[simp] theorem fa_78_0 (b o : Nat) (w : World) : fa P 78 (pt b o) 0 w = some (pt b (o + 0), w) := fa_eq (n := 0) (g := some false) (by kernel_rfl) b o w
@[simp] theorem fa_78_1 (b o : Nat) (w : World) : fa P 78 (pt b o) 1 w = some (pt b (o + 1), w) := fa_eq (n := 1) (g := some true) (by kernel_rfl) b o w
@[simp] theorem fa_78_2 (b o : Nat) (w : World) : fa P 78 (pt b o) 2 w = some (pt b (o + 3), w) := fa_eq (n := 0) (g := some true) (by kernel_rfl) b o w
@[simp] theorem fa_78_3 (b o : Nat) (w : World) : fa P 78 (pt b o) 3 w = some (pt b (o + 4), w) := fa_eq (n := 0) (g := some false) (by kernel_rfl) b o w
@[simp] theorem fa_78_4 (b o : Nat) (w : World) : fa P 78 (pt b o) 4 w = some (pt b (o + 5), w) := fa_eq (n := 0) (g := some false) (by kernel_rfl) b o w
@[simp] theorem fa_94_0 (b o : Nat) (w : World) : fa P 94 (pt b o) 0 w = some (pt b (o + 0), w) := fa_eq (n := 0) (g := some false) (by kernel_rfl) b o w
@[simp] theorem fa_94_1 (b o : Nat) (w : World) : fa P 94 (pt b o) 1 w = some (pt b (o + 1), w) := fa_eq (n := 0) (g := some false) (by kernel_rfl) b o w
theorem el_22 : elB P 22 = some (78, 6, 72) := by kernel_rfl
theorem ia_22 {b o n c : Nat} {i : Int} (h0 : 0 ≤ i) (h1 : i < n) (w : World) : ia P 22 (.slice (some ⟨b, o, none⟩) n c) (i64 i) w = some (pt b (o + i.toNat * 6), w) := ia_eq el_22 h0 h1 w
theorem el_29 : elB P 29 = some (73, 2, 48) := by kernel_rfl
theorem ia_29 {b o n c : Nat} {i : Int} (h0 : 0 ≤ i) (h1 : i < n) (w : World) : ia P 29 (.slice (some ⟨b, o, none⟩) n c) (i64 i) w = some (pt b (o + i.toNat * 2), w) := ia_eq el_29 h0 h1 w
theorem el_32 : elB P 32 = some (22, 1, 24) := by kernel_rfl
theorem ia_32 {b o n c : Nat} {i : Int} (h0 : 0 ≤ i) (h1 : i < n) (w : World) : ia P 32 (.slice (some ⟨b, o, none⟩) n c) (i64 i) w = some (pt b (o + i.toNat * 1), w) := ia_eq el_32 h0 h1 w
theorem el_39 : elB P 39 = some (5, 1, 1) := by kernel_rfl
theorem ia_39 {b o n c : Nat} {i : Int} (h0 : 0 ≤ i) (h1 : i < n) (w : World) : ia P 39 (.slice (some ⟨b, o, none⟩) n c) (i64 i) w = some (pt b (o + i.toNat * 1), w) := ia_eq el_39 h0 h1 w
theorem el_65 : elB P 65 = some (3, 1, 8) := by kernel_rfl
theorem ia_65 {b o n c : Nat} {i : Int} (h0 : 0 ≤ i) (h1 : i < n) (w : World) : ia P 65 (.slice (some ⟨b, o, none⟩) n c) (i64 i) w = some (pt b (o + i.toNat * 1), w) := ia_eq el_65 h0 h1 w
theorem el_68 : elB P 68 = some (76, 2, 16) := by kernel_rfl
theorem ia_68 {b o n c : Nat} {i : Int} (h0 : 0 ≤ i) (h1 : i < n) (w : World) : ia P 68 (.slice (some ⟨b, o, none⟩) n c) (i64 i) w = some (pt b (o + i.toNat * 2), w) := ia_eq el_68 h0 h1 w
@[simp] theorem ld_104 (b o : Nat) (w : World) : ld P 104 (pt b o) w = ldL P 104 b o w (cellsAt w b o 5) := ld_agg (by kernel_rfl) (by kernel_rfl) b o w
@[simp] theorem ld_108 (b o : Nat) (w : World) : ld P 108 (pt b o) w = ldL P 108 b o w (cellsAt w b o 9) := ld_agg (by kernel_rfl) (by kernel_rfl) b o w
@[simp] theorem ld_111 (b o : Nat) (w : World) : ld P 111 (pt b o) w = ldL P 111 b o w (cellsAt w b o 5) := ld_agg (by kernel_rfl) (by kernel_rfl) b o w
@[simp] theorem ld_22 (b o : Nat) (w : World) : ld P 22 (pt b o) w = ldR P 22 b o w (cellO (hp w b) o) := ld_one (by kernel_rfl) b o w
@[simp] theorem ld_24 (b o : Nat) (w : World) : ld P 24 (pt b o) w = ldL P 24 b o w (cellsAt w b o 1) := ld_agg (by kernel_rfl) (by kernel_rfl) b o w
@[simp] theorem ld_29 (b o : Nat) (w : World) : ld P 29 (pt b o) w = ldR P 29 b o w (cellO (hp w b) o) := ld_one (by kernel_rfl) b o w
@[simp] theorem ld_3 (b o : Nat) (w : World) : ld P 3 (pt b o) w = ldR P 3 b o w (cellO (hp w b) o) := ld_one (by kernel_rfl) b o w
@[simp] theorem ld_31 (b o : Nat) (w : World) : ld P 31 (pt b o) w = ldL P 31 b o w (cellsAt w b o 1) := ld_agg (by kernel_rfl) (by kernel_rfl) b o w
@[simp] theorem ld_32 (b o : Nat) (w : World) : ld P 32 (pt b o) w = ldR P 32 b o w (cellO (hp w b) o) := ld_one (by kernel_rfl) b o w
@[simp] theorem ld_34 (b o : Nat) (w : World) : ld P 34 (pt b o) w = ldL P 34 b o w (cellsAt w b o 6) := ld_agg (by kernel_rfl) (by kernel_rfl) b o w
@[simp] theorem ld_39 (b o : Nat) (w : World) : ld P 39 (pt b o) w = ldR P 39 b o w (cellO (hp w b) o) := ld_one (by kernel_rfl) b o w
@[simp] theorem ld_4 (b o : Nat) (w : World) : ld P 4 (pt b o) w = ldR P 4 b o w (cellO (hp w b) o) := ld_one (by kernel_rfl) b o w
@[simp] theorem ld_44 (b o : Nat) (w : World) : ld P 44 (pt b o) w = ldR P 44 b o w (cellO (hp w b) o) := ld_one (by kernel_rfl) b o w
@[simp] theorem ld_45 (b o : Nat) (w : World) : ld P 45 (pt b o) w = ldR P 45 b o w (cellO (hp w b) o) := ld_one (by kernel_rfl) b o w
@[simp] theorem ld_46 (b o : Nat) (w : World) : ld P 46 (pt b o) w = ldR P 46 b o w (cellO (hp w b) o) := ld_one (by kernel_rfl) b o w
@[simp] theorem ld_47 (b o : Nat) (w : World) : ld P 47 (pt b o) w = ldR P 47 b o w (cellO (hp w b) o) := ld_one (by kernel_rfl) b o w
@[simp] theorem ld_49 (b o : Nat) (w : World) : ld P 49 (pt b o) w = ldL P 49 b o w (cellsAt w b o 4) := ld_agg (by kernel_rfl) (by kernel_rfl) b o w
@[simp] theorem ld_5 (b o : Nat) (w : World) : ld P 5 (pt b o) w = ldR P 5 b o w (cellO (hp w b) o) := ld_one (by kernel_rfl) b o w
@[simp] theorem ld_68 (b o : Nat) (w : World) : ld P 68 (pt b o) w = ldR P 68 b o w (cellO (hp w b) o) := ld_one (by kernel_rfl) b o w
@[simp] theorem ld_70 (b o : Nat) (w : World) : ld P 70 (pt b o) w = ldL P 70 b o w (cellsAt w b o 1) := ld_agg (by kernel_rfl) (by kernel_rfl) b o w
@[simp] theorem ld_73 (b o : Nat) (w : World) : ld P 73 (pt b o) w = ldL P 73 b o w (cellsAt w b o 2) := ld_agg (by kernel_rfl) (by kernel_rfl) b o w
@[simp] theorem ld_76 (b o : Nat) (w : World) : ld P 76 (pt b o) w = ldL P 76 b o w (cellsAt w b o 2) := ld_agg (by kernel_rfl) (by kernel_rfl) b o w
@[simp] theorem ld_78 (b o : Nat) (w : World) : ld P 78 (pt b o) w = ldL P 78 b o w (cellsAt w b o 6) := ld_agg (by kernel_rfl) (by kernel_rfl) b o w
@[simp] theorem ld_9 (b o : Nat) (w : World) : ld P 9 (pt b o) w = ldR P 9 b o w (cellO (hp w b) o) := ld_one (by kernel_rfl) b o w
@[simp] theorem st_24 (b o : Nat) (v : Value) (w : World) : st P 24 (pt b o) v w = stR P 24 1 b o v w (hp w b) := st_eq (by kernel_rfl) b o v w
@[simp] theorem st_29 (b o : Nat) (v : Value) (w : World) : st P 29 (pt b o) v w = stR P 29 1 b o v w (hp w b) := st_eq (by kernel_rfl) b o v w
@[simp] theorem st_3 (b o : Nat) (v : Value) (w : World) : st P 3 (pt b o) v w = stR P 3 1 b o v w (hp w b) := st_eq (by kernel_rfl) b o v w
@[simp] theorem st_31 (b o : Nat) (v : Value) (w : World) : st P 31 (pt b o) v w = stR P 31 1 b o v w (hp w b) := st_eq (by kernel_rfl) b o v w
@[simp] theorem st_34 (b o : Nat) (v : Value) (w : World) : st P 34 (pt b o) v w = stR P 34 6 b o v w (hp w b) := st_eq (by kernel_rfl) b o v w
@[simp] theorem st_4 (b o : Nat) (v : Value) (w : World) : st P 4 (pt b o) v w = stR P 4 1 b o v w (hp w b) := st_eq (by kernel_rfl) b o v w
@[simp] theorem st_44 (b o : Nat) (v : Value) (w : World) : st P 44 (pt b o) v w = stR P 44 1 b o v w (hp w b) := st_eq (by kernel_rfl) b o v w
@[simp] theorem st_45 (b o : Nat) (v : Value) (w : World) : st P 45 (pt b o) v w = stR P 45 1 b o v w (hp w b) := st_eq (by kernel_rfl) b o v w
@[simp] theorem st_49 (b o : Nat) (v : Value) (w : World) : st P 49 (pt b o) v w = stR P 49 4 b o v w (hp w b) := st_eq (by kernel_rfl) b o v w
@[simp] theorem st_70 (b o : Nat) (v : Value) (w : World) : st P 70 (pt b o) v w = stR P 70 1 b o v w (hp w b) := st_eq (by kernel_rfl) b o v w
@[simp] theorem st_73 (b o : Nat) (v : Value) (w : World) : st P 73 (pt b o) v w = stR P 73 2 b o v w (hp w b) := st_eq (by kernel_rfl) b o v w
@[simp] theorem st_76 (b o : Nat) (v : Value) (w : World) : st P 76 (pt b o) v w = stR P 76 2 b o v w (hp w b) := st_eq (by kernel_rfl) b o v w
@[simp] theorem st_78 (b o : Nat) (v : Value) (w : World) : st P 78 (pt b o) v w = stR P 78 6 b o v w (hp w b) := st_eq (by kernel_rfl) b o v w
@[simp] theorem st_9 (b o : Nat) (v : Value) (w : World) : st P 9 (pt b o) v w = stR P 9 1 b o v w (hp w b) := st_eq (by kernel_rfl) b o v w
theorem zz_78 : zeroB P 78 = some [(.int .i64 0), (.int .i64 0), (.int .i64 0), (Go.Value.slice none 0 0), (Go.Value.string { data := #[] }), (.bool false)] := by kernel_rfl
theorem zz_73 : zeroB P 73 = some [(Go.Value.slice none 0 0), (Go.Value.slice none 0 0)] := by kernel_rfl
theorem zz_22 : zeroB P 22 = some [(Go.Value.slice none 0 0)] := by kernel_rfl
@[simp] theorem bd_104_0_1 (n1 : Int) (a2 : Option Addr) (l2 c2 : Nat) (w : World) : bd P 104 #[(0, (.int .i64 n1)), (1, (.agg #[.slice a2 l2 c2]))] w = some (.agg #[.int .i64 n1, .slice a2 l2 c2, (.int .i64 0), (.int .i64 0), (.int .i64 0)], w) := bd_of (by kernel_rfl)
@[simp] theorem bd_24_0 (a1 : Option Addr) (l1 c1 : Nat) (w : World) : bd P 24 #[(0, (.slice a1 l1 c1))] w = some (.agg #[.slice a1 l1 c1], w) := bd_of (by kernel_rfl)
@[simp] theorem bd_31_  (w : World) : bd P 31 #[] w = some (.agg #[(Go.Value.slice none 0 0)], w) := bd_of (by kernel_rfl)
@[simp] theorem bd_31_0 (a1 : Option Addr) (l1 c1 : Nat) (w : World) : bd P 31 #[(0, (.slice a1 l1 c1))] w = some (.agg #[.slice a1 l1 c1], w) := bd_of (by kernel_rfl)
@[simp] theorem bd_34_  (w : World) : bd P 34 #[] w = some (.agg #[(.int .i64 0), (.int .i64 0), (Go.Value.slice none 0 0), (Go.Value.slice none 0 0), (Go.Value.slice none 0 0), (.bool false)], w) := bd_of (by kernel_rfl)
@[simp] theorem bd_34_0_2_4 (n1 : Int) (a2 : Option Addr) (l2 c2 : Nat) (a3 : Option Addr) (l3 c3 : Nat) (w : World) : bd P 34 #[(0, (.int .i64 n1)), (2, (.agg #[.slice a2 l2 c2])), (4, (.slice a3 l3 c3))] w = some (.agg #[.int .i64 n1, (.int .i64 0), .slice a2 l2 c2, (Go.Value.slice none 0 0), .slice a3 l3 c3, (.bool false)], w) := bd_of (by kernel_rfl)
@[simp] theorem bd_49_  (w : World) : bd P 49 #[] w = some (.agg #[(Go.Value.slice none 0 0), (Go.Value.slice none 0 0), (Go.Value.slice none 0 0), (Go.Value.slice none 0 0)], w) := bd_of (by kernel_rfl)
@[simp] theorem bd_49_0_1 (a1 : Option Addr) (l1 c1 : Nat) (a2 : Option Addr) (l2 c2 : Nat) (w : World) : bd P 49 #[(0, (.slice a1 l1 c1)), (1, (.slice a2 l2 c2))] w = some (.agg #[.slice a1 l1 c1, .slice a2 l2 c2, (Go.Value.slice none 0 0), (Go.Value.slice none 0 0)], w) := bd_of (by kernel_rfl)
@[simp] theorem bd_70_0 (a1 : Option Addr) (l1 c1 : Nat) (w : World) : bd P 70 #[(0, (.slice a1 l1 c1))] w = some (.agg #[.slice a1 l1 c1], w) := bd_of (by kernel_rfl)
@[simp] theorem bd_73_0 (a1 : Option Addr) (l1 c1 : Nat) (w : World) : bd P 73 #[(0, (.agg #[.slice a1 l1 c1]))] w = some (.agg #[.slice a1 l1 c1, (Go.Value.slice none 0 0)], w) := bd_of (by kernel_rfl)
@[simp] theorem bd_76_  (w : World) : bd P 76 #[] w = some (.agg #[(.int .i64 0), (.int .i64 0)], w) := bd_of (by kernel_rfl)
@[simp] theorem bd_78_  (w : World) : bd P 78 #[] w = some (.agg #[(.int .i64 0), (.int .i64 0), (.int .i64 0), (Go.Value.slice none 0 0), (Go.Value.string { data := #[] }), (.bool false)], w) := bd_of (by kernel_rfl)
@[simp] theorem bd_94_0 (a1 : Option Addr) (l1 c1 : Nat) (w : World) : bd P 94 #[(0, (.slice a1 l1 c1))] w = some (.agg #[.slice a1 l1 c1, (.int .i64 0)], w) := bd_of (by kernel_rfl)
@[simp] theorem bs_22_1_0 (n1 : Int) (n2 : Int) (n3 : Int) (a4 : Option Addr) (l4 c4 : Nat) (s5 : ByteArray) (b6 : Bool) (w : World) : bs P 22 1 #[(0, (.agg #[.int .i64 n1, .int .i64 n2, .int .i64 n3, .slice a4 l4 c4, .string s5, .bool b6]))] w = some (.slice (some ⟨w.heap.size, 0, none⟩) 1 1, w.alloc (.cells #[.int .i64 n1, .int .i64 n2, .int .i64 n3, .slice a4 l4 c4, .string s5, .bool b6] 78)) := bs_of (by kernel_rfl)
@[simp] theorem bs_29_1_0 (a1 : Option Addr) (l1 c1 : Nat) (a2 : Option Addr) (l2 c2 : Nat) (w : World) : bs P 29 1 #[(0, (.agg #[.slice a1 l1 c1, .slice a2 l2 c2]))] w = some (.slice (some ⟨w.heap.size, 0, none⟩) 1 1, w.alloc (.cells #[.slice a1 l1 c1, .slice a2 l2 c2] 73)) := bs_of (by kernel_rfl)
@[simp] theorem bs_32_2_0_1 (a1 : Option Addr) (l1 c1 : Nat) (a2 : Option Addr) (l2 c2 : Nat) (w : World) : bs P 32 2 #[(0, (.slice a1 l1 c1)), (1, (.slice a2 l2 c2))] w = some (.slice (some ⟨w.heap.size, 0, none⟩) 2 2, w.alloc (.cells #[.slice a1 l1 c1, .slice a2 l2 c2] 22)) := bs_of (by kernel_rfl)
@[simp] theorem bs_39_1_0 (n1 : Int) (w : World) : bs P 39 1 #[(0, (.int .u8 n1))] w = some (.slice (some ⟨w.heap.size, 0, none⟩) 1 1, w.alloc (.cells #[.int .u8 n1] 5)) := bs_of (by kernel_rfl)
@[simp] theorem bs_44_1_0 (n1 : Int) (n2 : Int) (a3 : Option Addr) (l3 c3 : Nat) (a4 : Option Addr) (l4 c4 : Nat) (a5 : Option Addr) (l5 c5 : Nat) (b6 : Bool) (w : World) : bs P 44 1 #[(0, (.agg #[.int .i64 n1, .int .i64 n2, .slice a3 l3 c3, .slice a4 l4 c4, .slice a5 l5 c5, .bool b6]))] w = some (.slice (some ⟨w.heap.size, 0, none⟩) 1 1, w.alloc (.cells #[.int .i64 n1, .int .i64 n2, .slice a3 l3 c3, .slice a4 l4 c4, .slice a5 l5 c5, .bool b6] 34)) := bs_of (by kernel_rfl)
@[simp] theorem bs_45_1_0 (n1 : Int) (a2 : Option Addr) (l2 c2 : Nat) (n3 : Int) (n4 : Int) (n5 : Int) (w : World) : bs P 45 1 #[(0, (.agg #[.int .i64 n1, .slice a2 l2 c2, .int .i64 n3, .int .i64 n4, .int .i64 n5]))] w = some (.slice (some ⟨w.heap.size, 0, none⟩) 1 1, w.alloc (.cells #[.int .i64 n1, .slice a2 l2 c2, .int .i64 n3, .int .i64 n4, .int .i64 n5] 104)) := bs_of (by kernel_rfl)
@[simp] theorem bs_65_2_0_1 (n1 : Int) (n2 : Int) (w : World) : bs P 65 2 #[(0, (.int .i64 n1)), (1, (.int .i64 n2))] w = some (.slice (some ⟨w.heap.size, 0, none⟩) 2 2, w.alloc (.cells #[.int .i64 n1, .int .i64 n2] 3)) := bs_of (by kernel_rfl)
@[simp] theorem bs_65_5_0_1_2_3_4 (n1 : Int) (n2 : Int) (n3 : Int) (n4 : Int) (n5 : Int) (w : World) : bs P 65 5 #[(0, (.int .i64 n1)), (1, (.int .i64 n2)), (2, (.int .i64 n3)), (3, (.int .i64 n4)), (4, (.int .i64 n5))] w = some (.slice (some ⟨w.heap.size, 0, none⟩) 5 5, w.alloc (.cells #[.int .i64 n1, .int .i64 n2, .int .i64 n3, .int .i64 n4, .int .i64 n5] 3)) := bs_of (by kernel_rfl)
@[simp] theorem bs_65_6_0_1_2_3_4_5 (n1 : Int) (n2 : Int) (n3 : Int) (n4 : Int) (n5 : Int) (n6 : Int) (w : World) : bs P 65 6 #[(0, (.int .i64 n1)), (1, (.int .i64 n2)), (2, (.int .i64 n3)), (3, (.int .i64 n4)), (4, (.int .i64 n5)), (5, (.int .i64 n6))] w = some (.slice (some ⟨w.heap.size, 0, none⟩) 6 6, w.alloc (.cells #[.int .i64 n1, .int .i64 n2, .int .i64 n3, .int .i64 n4, .int .i64 n5, .int .i64 n6] 3)) := bs_of (by kernel_rfl)
@[simp] theorem bs_68_0 (w : World) : bs P 68 0 #[] w = some (.slice (some ⟨w.heap.size, 0, none⟩) 0 0, w.alloc (.cells #[] 76)) := bs_zero (n := 2) (by kernel_rfl) (by kernel_rfl) w
@[simp] theorem cv_3_5 (n : Int) (w : World) : cv P 3 5 (.int .i64 n) w = some (.int .u8 (IntKind.wrap .u8 n), w) := cv_int (by kernel_rfl) (by kernel_rfl) _ n w
@[simp] theorem cv_5_3 (n : Int) (w : World) : cv P 5 3 (.int .u8 n) w = some (.int .i64 (IntKind.wrap .i64 n), w) := cv_int (by kernel_rfl) (by kernel_rfl) _ n w
attribute [simp ↓] bnd cnd_t cnd_f ifP_true gif_tt gif_tf gif_ft gif_ff gif_u pick_t pick_f
attribute [simp] bx_eq bo_lss bo_leq bo_gtr bo_geq bo_eql bo_neq bo_add bo_sub bo_mul bo_eql_str bo_neq_str uo_not uo_neg ret_some World.size_alloc size_setRow cells_agg cells_int cells_bool cells_string cells_slice cells_pointer cells_map cells_nilIface cells_func vl_eq dw_size hp_dw ldR_some ldL_some stR_cells splice_eq cellsAt_zero cellsAt_succ consO_some cellO_some nth_nil nth_zero nth_succ setO_some hp_set_eq Value.oneCell'
end Go.Proofs.Ytggmfmanpjcjkaa.X
