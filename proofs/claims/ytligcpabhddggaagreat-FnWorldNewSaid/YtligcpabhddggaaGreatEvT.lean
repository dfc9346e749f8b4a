/- A part of the proof, without conditions. -/
import Derived.Test.YtligcpabhddggaaGreatProg
import Derived.Test.YtligcpabhddggaaGreatEvI
set_option linter.unusedVariables false
namespace Go.Proofs.YtligcpabhddggaaGreat.X
open Go Go.Ev
noncomputable def P : Program := Tryz.prog
theorem plain : Plain P := by
  have h : (P.funcs.toList.all fun fn => fn.body.isNone || fn.name != "runtime.NumGoroutine") = true := by kernel_rfl
  intro fn hf hb
  rw [List.all_eq_true] at h
  have := h fn (Array.mem_toList_iff.2 hf)
  simp only [Option.isNone_iff_eq_none, Bool.or_eq_true, bne_iff_ne, ne_eq] at this
  rcases this with h | h
  · rw [h] at hb; simp at hb
  · exact h
theorem mixed : P.follows .mixedOrders = true := by kernel_rfl
@[simp] theorem al_134 (w : World) : al P 134 w = some (pt w.heap.size 0, w.alloc (.cells #[(.int .i64 0), (.int .i64 0), (Go.Value.slice none 0 0)] 134)) := al_eq (z := [(.int .i64 0), (.int .i64 0), (Go.Value.slice none 0 0)]) (by kernel_rfl) w
@[simp] theorem al_30 (w : World) : al P 30 w = some (pt w.heap.size 0, w.alloc (.cells #[(Go.Value.slice none 0 0), (Go.Value.slice none 0 0), (Go.Value.slice none 0 0), (Go.Value.slice none 0 0)] 30)) := al_eq (z := [(Go.Value.slice none 0 0), (Go.Value.slice none 0 0), (Go.Value.slice none 0 0), (Go.Value.slice none 0 0)]) (by kernel_rfl) w
@[simp] theorem al_44 (w : World) : al P 44 w = some (pt w.heap.size 0, w.alloc (.cells #[(Go.Value.slice none 0 0)] 44)) := al_eq (z := [(Go.Value.slice none 0 0)]) (by kernel_rfl) w
@[simp] theorem al_48 (w : World) : al P 48 w = some (pt w.heap.size 0, w.alloc (.cells #[(.int .i64 0), (.int .i64 0), (Go.Value.slice none 0 0), (Go.Value.slice none 0 0), (Go.Value.slice none 0 0), (.bool false)] 48)) := al_eq (z := [(.int .i64 0), (.int .i64 0), (Go.Value.slice none 0 0), (Go.Value.slice none 0 0), (Go.Value.slice none 0 0), (.bool false)]) (by kernel_rfl) w
@[simp] theorem al_51 (w : World) : al P 51 w = some (pt w.heap.size 0, w.alloc (.cells #[(Go.Value.slice none 0 0)] 51)) := al_eq (z := [(Go.Value.slice none 0 0)]) (by kernel_rfl) w
@[simp] theorem al_53 (w : World) : al P 53 w = some (pt w.heap.size 0, w.alloc (.cells #[(.int .i64 0), (.int .i64 0)] 53)) := al_eq (z := [(.int .i64 0), (.int .i64 0)]) (by kernel_rfl) w
@[simp] theorem al_55 (w : World) : al P 55 w = some (pt w.heap.size 0, w.alloc (.cells #[(.int .i64 0), (Go.Value.slice none 0 0), (.int .i64 0), (.int .i64 0), (.int .i64 0)] 55)) := al_eq (z := [(.int .i64 0), (Go.Value.slice none 0 0), (.int .i64 0), (.int .i64 0), (.int .i64 0)]) (by kernel_rfl) w
@[simp] theorem al_58 (w : World) : al P 58 w = some (pt w.heap.size 0, w.alloc (.cells #[(.int .i64 0), (.int .i64 0), (.int .i64 0), (Go.Value.slice none 0 0), (Go.Value.string { data := #[] }), (.bool false)] 58)) := al_eq (z := [(.int .i64 0), (.int .i64 0), (.int .i64 0), (Go.Value.slice none 0 0), (Go.Value.string { data := #[] }), (.bool false)]) (by kernel_rfl) w
@[simp] theorem al_60 (w : World) : al P 60 w = some (pt w.heap.size 0, w.alloc (.cells #[(.int .i64 0), (.int .i64 0), (.int .i64 0), (.int .i64 0), (.int .i64 0), (.int .i64 0), (Go.Value.slice none 0 0), (Go.Value.string { data := #[] }), (.bool false)] 60)) := al_eq (z := [(.int .i64 0), (.int .i64 0), (.int .i64 0), (.int .i64 0), (.int .i64 0), (.int .i64 0), (Go.Value.slice none 0 0), (Go.Value.string { data := #[] }), (.bool false)]) (by kernel_rfl) w
@[simp] theorem al_78 (w : World) : al P 78 w = some (pt w.heap.size 0, w.alloc (.cells #[(.int .i64 0), (.int .i64 0), (.int .i64 0), (.int .i64 0), (.int .i64 0)] 78)) := al_eq (z := [(.int .i64 0), (.int .i64 0), (.int .i64 0), (.int .i64 0), (.int .i64 0)]) (by kernel_rfl) w
@[simp] theorem al_86 (w : World) : al P 86 w = some (pt w.heap.size 0, w.alloc (.cells #[(Go.Value.slice none 0 0)] 86)) := al_eq (z := [(Go.Value.slice none 0 0)]) (by kernel_rfl) w
@[simp] theorem al_89 (w : World) : al P 89 w = some (pt w.heap.size 0, w.alloc (.cells #[(Go.Value.slice none 0 0), (Go.Value.slice none 0 0)] 89)) := al_eq (z := [(Go.Value.slice none 0 0), (Go.Value.slice none 0 0)]) (by kernel_rfl) w
@[simp] theorem len_22 (a : Option Addr) (n c : Nat) (w : World) : b_len P #[22] 3 #[.slice a n c] w = some (i64 n, w) := len_slice (e := 5) (s := (1, 1)) (by kernel_rfl) a n c w
@[simp] theorem len_25 (a : Option Addr) (n c : Nat) (w : World) : b_len P #[25] 3 #[.slice a n c] w = some (i64 n, w) := len_slice (e := 48) (s := (6, 96)) (by kernel_rfl) a n c w
@[simp] theorem len_26 (a : Option Addr) (n c : Nat) (w : World) : b_len P #[26] 3 #[.slice a n c] w = some (i64 n, w) := len_slice (e := 55) (s := (5, 56)) (by kernel_rfl) a n c w
@[simp] theorem len_27 (a : Option Addr) (n c : Nat) (w : World) : b_len P #[27] 3 #[.slice a n c] w = some (i64 n, w) := len_slice (e := 60) (s := (9, 96)) (by kernel_rfl) a n c w
@[simp] theorem len_28 (a : Option Addr) (n c : Nat) (w : World) : b_len P #[28] 3 #[.slice a n c] w = some (i64 n, w) := len_slice (e := 78) (s := (5, 40)) (by kernel_rfl) a n c w
@[simp] theorem len_38 (a : Option Addr) (n c : Nat) (w : World) : b_len P #[38] 3 #[.slice a n c] w = some (i64 n, w) := len_slice (e := 3) (s := (1, 8)) (by kernel_rfl) a n c w
@[simp] theorem len_42 (a : Option Addr) (n c : Nat) (w : World) : b_len P #[42] 3 #[.slice a n c] w = some (i64 n, w) := len_slice (e := 89) (s := (2, 48)) (by kernel_rfl) a n c w
@[simp] theorem len_45 (a : Option Addr) (n c : Nat) (w : World) : b_len P #[45] 3 #[.slice a n c] w = some (i64 n, w) := len_slice (e := 58) (s := (6, 72)) (by kernel_rfl) a n c w
@[simp] theorem len_46 (a : Option Addr) (n c : Nat) (w : World) : b_len P #[46] 3 #[.slice a n c] w = some (i64 n, w) := len_slice (e := 45) (s := (1, 24)) (by kernel_rfl) a n c w
@[simp] theorem len_49 (a : Option Addr) (n c : Nat) (w : World) : b_len P #[49] 3 #[.slice a n c] w = some (i64 n, w) := len_slice (e := 53) (s := (2, 16)) (by kernel_rfl) a n c w
@[simp] theorem len_9 (s : ByteArray) (w : World) : b_len P #[9] 3 #[.string s] w = some (i64 s.size, w) := len_str (by kernel_rfl) s w
@[simp] theorem bo_eql_4 (x y : Operand) (a b : Bool) (w : World) : bo P .eql 4 x y (.bool a) (.bool b) w = some (.bool (a == b), w) := bo_eql_bool (by kernel_rfl) x y a b w
theorem fs_53 : (P.fieldsOf 53).toList = [{ name := "Time", type := 3, offset := 0, embedded := false, tag := "", pkgPath := "", byteOffset := 0 }, { name := "Place", type := 3, offset := 1, embedded := false, tag := "", pkgPath := "", byteOffset := 8 }] := by kernel_rfl
@[simp] theorem bo_eql_53 (x y : Operand) (a0 a1 b0 b1 : Int) (w : World) : bo P .eql 53 x y (.agg #[i64 a0, i64 a1]) (.agg #[i64 b0, i64 b1]) w = some (.bool (((a0 == b0) && (a1 == b1))), w) := by
  have hg := run_eqGuard_agg (P := P) w .eql 53 x y #[i64 a0, i64 a1] #[i64 b0, i64 b1] (by kernel_rfl)
  have hs := run_equalIn_struct (P := P) w 9999 53 #[i64 a0, i64 a1] #[i64 b0, i64 b1] (by kernel_rfl) (by kernel_rfl)
  simp only [bo, Sem.run_bind, hg, Result.andThen_ok, run_eql_struct, hs, fs_53]
  exact eqTwo_eql (by kernel_rfl) (by kernel_rfl) ⟨by simp, by simp, rfl, rfl⟩ _ _ _ _ w
@[simp] theorem bo_neq_4 (x y : Operand) (a b : Bool) (w : World) : bo P .neq 4 x y (.bool a) (.bool b) w = some (.bool (!(a == b)), w) := bo_neq_bool (by kernel_rfl) x y a b w
@[simp] theorem bo_neq_53 (x y : Operand) (a0 a1 b0 b1 : Int) (w : World) : bo P .neq 53 x y (.agg #[i64 a0, i64 a1]) (.agg #[i64 b0, i64 b1]) w = some (.bool (!((a0 == b0) && (a1 == b1))), w) := by
  have hg := run_eqGuard_agg (P := P) w .neq 53 x y #[i64 a0, i64 a1] #[i64 b0, i64 b1] (by kernel_rfl)
  have hs := run_equalIn_struct (P := P) w 9999 53 #[i64 a0, i64 a1] #[i64 b0, i64 b1] (by kernel_rfl) (by kernel_rfl)
  simp only [bo, Sem.run_bind, hg, Result.andThen_ok, run_neq_struct, hs, fs_53]
  exact eqTwo_neq (by kernel_rfl) (by kernel_rfl) ⟨by simp, by simp, rfl, rfl⟩ _ _ _ _ w
@[simp] theorem fa_132_0 (b o : Nat) (w : World) : fa P 132 (pt b o) 0 w = some (pt b (o + 0), w) := fa_eq (n := 3) (g := some true) (by kernel_rfl) b o w
@[simp] theorem fa_132_1 (b o : Nat) (w : World) : fa P 132 (pt b o) 1 w = some (pt b (o + 4), w) := fa_eq (n := 0) (g := some false) (by kernel_rfl) b o w
@[simp] theorem fa_134_0 (b o : Nat) (w : World) : fa P 134 (pt b o) 0 w = some (pt b (o + 0), w) := fa_eq (n := 0) (g := some false) (by kernel_rfl) b o w
@[simp] theorem fa_134_1 (b o : Nat) (w : World) : fa P 134 (pt b o) 1 w = some (pt b (o + 1), w) := fa_eq (n := 0) (g := some false) (by kernel_rfl) b o w
@[simp] theorem fa_134_2 (b o : Nat) (w : World) : fa P 134 (pt b o) 2 w = some (pt b (o + 2), w) := fa_eq (n := 0) (g := some true) (by kernel_rfl) b o w
@[simp] theorem fa_30_0 (b o : Nat) (w : World) : fa P 30 (pt b o) 0 w = some (pt b (o + 0), w) := fa_eq (n := 0) (g := some false) (by kernel_rfl) b o w
@[simp] theorem fa_30_1 (b o : Nat) (w : World) : fa P 30 (pt b o) 1 w = some (pt b (o + 1), w) := fa_eq (n := 0) (g := some false) (by kernel_rfl) b o w
@[simp] theorem fa_30_2 (b o : Nat) (w : World) : fa P 30 (pt b o) 2 w = some (pt b (o + 2), w) := fa_eq (n := 0) (g := some false) (by kernel_rfl) b o w
@[simp] theorem fa_30_3 (b o : Nat) (w : World) : fa P 30 (pt b o) 3 w = some (pt b (o + 3), w) := fa_eq (n := 0) (g := some false) (by kernel_rfl) b o w
@[simp] theorem fa_44_0 (b o : Nat) (w : World) : fa P 44 (pt b o) 0 w = some (pt b (o + 0), w) := fa_eq (n := 0) (g := some false) (by kernel_rfl) b o w
@[simp] theorem fa_48_0 (b o : Nat) (w : World) : fa P 48 (pt b o) 0 w = some (pt b (o + 0), w) := fa_eq (n := 0) (g := some false) (by kernel_rfl) b o w
@[simp] theorem fa_48_1 (b o : Nat) (w : World) : fa P 48 (pt b o) 1 w = some (pt b (o + 1), w) := fa_eq (n := 0) (g := some false) (by kernel_rfl) b o w
@[simp] theorem fa_48_2 (b o : Nat) (w : World) : fa P 48 (pt b o) 2 w = some (pt b (o + 2), w) := fa_eq (n := 0) (g := some true) (by kernel_rfl) b o w
@[simp] theorem fa_48_3 (b o : Nat) (w : World) : fa P 48 (pt b o) 3 w = some (pt b (o + 3), w) := fa_eq (n := 0) (g := some false) (by kernel_rfl) b o w
@[simp] theorem fa_48_4 (b o : Nat) (w : World) : fa P 48 (pt b o) 4 w = some (pt b (o + 4), w) := fa_eq (n := 0) (g := some false) (by kernel_rfl) b o w
@[simp] theorem fa_48_5 (b o : Nat) (w : World) : fa P 48 (pt b o) 5 w = some (pt b (o + 5), w) := fa_eq (n := 0) (g := some false) (by kernel_rfl) b o w
@[simp] theorem fa_51_0 (b o : Nat) (w : World) : fa P 51 (pt b o) 0 w = some (pt b (o + 0), w) := fa_eq (n := 0) (g := some false) (by kernel_rfl) b o w
@[simp] theorem fa_53_0 (b o : Nat) (w : World) : fa P 53 (pt b o) 0 w = some (pt b (o + 0), w) := fa_eq (n := 0) (g := some false) (by kernel_rfl) b o w
@[simp] theorem fa_53_1 (b o : Nat) (w : World) : fa P 53 (pt b o) 1 w = some (pt b (o + 1), w) := fa_eq (n := 0) (g := some false) (by kernel_rfl) b o w
@[simp] theorem fa_55_0 (b o : Nat) (w : World) : fa P 55 (pt b o) 0 w = some (pt b (o + 0), w) := fa_eq (n := 0) (g := some false) (by kernel_rfl) b o w
@[simp] theorem fa_55_1 (b o : Nat) (w : World) : fa P 55 (pt b o) 1 w = some (pt b (o + 1), w) := fa_eq (n := 0) (g := some true) (by kernel_rfl) b o w
@[simp] theorem fa_55_2 (b o : Nat) (w : World) : fa P 55 (pt b o) 2 w = some (pt b (o + 2), w) := fa_eq (n := 1) (g := some true) (by kernel_rfl) b o w
@[simp] theorem fa_55_3 (b o : Nat) (w : World) : fa P 55 (pt b o) 3 w = some (pt b (o + 4), w) := fa_eq (n := 0) (g := some false) (by kernel_rfl) b o w
@[simp] theorem fa_58_0 (b o : Nat) (w : World) : fa P 58 (pt b o) 0 w = some (pt b (o + 0), w) := fa_eq (n := 0) (g := some false) (by kernel_rfl) b o w
@[simp] theorem fa_58_1 (b o : Nat) (w : World) : fa P 58 (pt b o) 1 w = some (pt b (o + 1), w) := fa_eq (n := 1) (g := some true) (by kernel_rfl) b o w
@[simp] theorem fa_58_2 (b o : Nat) (w : World) : fa P 58 (pt b o) 2 w = some (pt b (o + 3), w) := fa_eq (n := 0) (g := some true) (by kernel_rfl) b o w
@[simp] theorem fa_58_3 (b o : Nat) (w : World) : fa P 58 (pt b o) 3 w = some (pt b (o + 4), w) := fa_eq (n := 0) (g := some false) (by kernel_rfl) b o w
@[simp] theorem fa_58_4 (b o : Nat) (w : World) : fa P 58 (pt b o) 4 w = some (pt b (o + 5), w) := fa_eq (n := 0) (g := some false) (by kernel_rfl) b o w
@[simp] theorem fa_60_0 (b o : Nat) (w : World) : fa P 60 (pt b o) 0 w = some (pt b (o + 0), w) := fa_eq (n := 0) (g := some false) (by kernel_rfl) b o w
@[simp] theorem fa_60_1 (b o : Nat) (w : World) : fa P 60 (pt b o) 1 w = some (pt b (o + 1), w) := fa_eq (n := 0) (g := some false) (by kernel_rfl) b o w
@[simp] theorem fa_60_2 (b o : Nat) (w : World) : fa P 60 (pt b o) 2 w = some (pt b (o + 2), w) := fa_eq (n := 0) (g := some false) (by kernel_rfl) b o w
@[simp] theorem fa_60_3 (b o : Nat) (w : World) : fa P 60 (pt b o) 3 w = some (pt b (o + 3), w) := fa_eq (n := 5) (g := some true) (by kernel_rfl) b o w
@[simp] theorem fa_72_0 (b o : Nat) (w : World) : fa P 72 (pt b o) 0 w = some (pt b (o + 0), w) := fa_eq (n := 0) (g := some false) (by kernel_rfl) b o w
@[simp] theorem fa_72_1 (b o : Nat) (w : World) : fa P 72 (pt b o) 1 w = some (pt b (o + 1), w) := fa_eq (n := 0) (g := some false) (by kernel_rfl) b o w
@[simp] theorem fa_78_0 (b o : Nat) (w : World) : fa P 78 (pt b o) 0 w = some (pt b (o + 0), w) := fa_eq (n := 0) (g := some false) (by kernel_rfl) b o w
@[simp] theorem fa_78_1 (b o : Nat) (w : World) : fa P 78 (pt b o) 1 w = some (pt b (o + 1), w) := fa_eq (n := 0) (g := some false) (by kernel_rfl) b o w
@[simp] theorem fa_78_2 (b o : Nat) (w : World) : fa P 78 (pt b o) 2 w = some (pt b (o + 2), w) := fa_eq (n := 0) (g := some false) (by kernel_rfl) b o w
@[simp] theorem fa_78_3 (b o : Nat) (w : World) : fa P 78 (pt b o) 3 w = some (pt b (o + 3), w) := fa_eq (n := 1) (g := some true) (by kernel_rfl) b o w
@[simp] theorem fa_86_0 (b o : Nat) (w : World) : fa P 86 (pt b o) 0 w = some (pt b (o + 0), w) := fa_eq (n := 0) (g := some false) (by kernel_rfl) b o w
@[simp] theorem fa_89_0 (b o : Nat) (w : World) : fa P 89 (pt b o) 0 w = some (pt b (o + 0), w) := fa_eq (n := 0) (g := some true) (by kernel_rfl) b o w
@[simp] theorem fa_89_1 (b o : Nat) (w : World) : fa P 89 (pt b o) 1 w = some (pt b (o + 1), w) := fa_eq (n := 0) (g := some false) (by kernel_rfl) b o w
theorem el_22 : elB P 22 = some (5, 1, 1) := by kernel_rfl
theorem ia_22 {b o n c : Nat} {i : Int} (h0 : 0 ≤ i) (h1 : i < n) (w : World) : ia P 22 (.slice (some ⟨b, o, none⟩) n c) (i64 i) w = some (pt b (o + i.toNat * 1), w) := ia_eq el_22 h0 h1 w
theorem el_25 : elB P 25 = some (48, 6, 96) := by kernel_rfl
theorem ia_25 {b o n c : Nat} {i : Int} (h0 : 0 ≤ i) (h1 : i < n) (w : World) : ia P 25 (.slice (some ⟨b, o, none⟩) n c) (i64 i) w = some (pt b (o + i.toNat * 6), w) := ia_eq el_25 h0 h1 w
theorem el_26 : elB P 26 = some (55, 5, 56) := by kernel_rfl
theorem ia_26 {b o n c : Nat} {i : Int} (h0 : 0 ≤ i) (h1 : i < n) (w : World) : ia P 26 (.slice (some ⟨b, o, none⟩) n c) (i64 i) w = some (pt b (o + i.toNat * 5), w) := ia_eq el_26 h0 h1 w
theorem el_28 : elB P 28 = some (78, 5, 40) := by kernel_rfl
theorem ia_28 {b o n c : Nat} {i : Int} (h0 : 0 ≤ i) (h1 : i < n) (w : World) : ia P 28 (.slice (some ⟨b, o, none⟩) n c) (i64 i) w = some (pt b (o + i.toNat * 5), w) := ia_eq el_28 h0 h1 w
theorem el_38 : elB P 38 = some (3, 1, 8) := by kernel_rfl
theorem ia_38 {b o n c : Nat} {i : Int} (h0 : 0 ≤ i) (h1 : i < n) (w : World) : ia P 38 (.slice (some ⟨b, o, none⟩) n c) (i64 i) w = some (pt b (o + i.toNat * 1), w) := ia_eq el_38 h0 h1 w
theorem el_42 : elB P 42 = some (89, 2, 48) := by kernel_rfl
theorem ia_42 {b o n c : Nat} {i : Int} (h0 : 0 ≤ i) (h1 : i < n) (w : World) : ia P 42 (.slice (some ⟨b, o, none⟩) n c) (i64 i) w = some (pt b (o + i.toNat * 2), w) := ia_eq el_42 h0 h1 w
theorem el_45 : elB P 45 = some (58, 6, 72) := by kernel_rfl
theorem ia_45 {b o n c : Nat} {i : Int} (h0 : 0 ≤ i) (h1 : i < n) (w : World) : ia P 45 (.slice (some ⟨b, o, none⟩) n c) (i64 i) w = some (pt b (o + i.toNat * 6), w) := ia_eq el_45 h0 h1 w
theorem el_46 : elB P 46 = some (45, 1, 24) := by kernel_rfl
theorem ia_46 {b o n c : Nat} {i : Int} (h0 : 0 ≤ i) (h1 : i < n) (w : World) : ia P 46 (.slice (some ⟨b, o, none⟩) n c) (i64 i) w = some (pt b (o + i.toNat * 1), w) := ia_eq el_46 h0 h1 w
theorem el_49 : elB P 49 = some (53, 2, 16) := by kernel_rfl
theorem ia_49 {b o n c : Nat} {i : Int} (h0 : 0 ≤ i) (h1 : i < n) (w : World) : ia P 49 (.slice (some ⟨b, o, none⟩) n c) (i64 i) w = some (pt b (o + i.toNat * 2), w) := ia_eq el_49 h0 h1 w
@[simp] theorem ld_129 (b o : Nat) (w : World) : ld P 129 (pt b o) w = ldR P 129 b o w (cellO (hp w b) o) := ld_one (by kernel_rfl) b o w
@[simp] theorem ld_22 (b o : Nat) (w : World) : ld P 22 (pt b o) w = ldR P 22 b o w (cellO (hp w b) o) := ld_one (by kernel_rfl) b o w
@[simp] theorem ld_25 (b o : Nat) (w : World) : ld P 25 (pt b o) w = ldR P 25 b o w (cellO (hp w b) o) := ld_one (by kernel_rfl) b o w
@[simp] theorem ld_26 (b o : Nat) (w : World) : ld P 26 (pt b o) w = ldR P 26 b o w (cellO (hp w b) o) := ld_one (by kernel_rfl) b o w
@[simp] theorem ld_27 (b o : Nat) (w : World) : ld P 27 (pt b o) w = ldR P 27 b o w (cellO (hp w b) o) := ld_one (by kernel_rfl) b o w
@[simp] theorem ld_28 (b o : Nat) (w : World) : ld P 28 (pt b o) w = ldR P 28 b o w (cellO (hp w b) o) := ld_one (by kernel_rfl) b o w
@[simp] theorem ld_3 (b o : Nat) (w : World) : ld P 3 (pt b o) w = ldR P 3 b o w (cellO (hp w b) o) := ld_one (by kernel_rfl) b o w
@[simp] theorem ld_30 (b o : Nat) (w : World) : ld P 30 (pt b o) w = ldL P 30 b o w (cellsAt w b o 4) := ld_agg (by kernel_rfl) (by kernel_rfl) b o w
@[simp] theorem ld_4 (b o : Nat) (w : World) : ld P 4 (pt b o) w = ldR P 4 b o w (cellO (hp w b) o) := ld_one (by kernel_rfl) b o w
@[simp] theorem ld_42 (b o : Nat) (w : World) : ld P 42 (pt b o) w = ldR P 42 b o w (cellO (hp w b) o) := ld_one (by kernel_rfl) b o w
@[simp] theorem ld_44 (b o : Nat) (w : World) : ld P 44 (pt b o) w = ldL P 44 b o w (cellsAt w b o 1) := ld_agg (by kernel_rfl) (by kernel_rfl) b o w
@[simp] theorem ld_45 (b o : Nat) (w : World) : ld P 45 (pt b o) w = ldR P 45 b o w (cellO (hp w b) o) := ld_one (by kernel_rfl) b o w
@[simp] theorem ld_46 (b o : Nat) (w : World) : ld P 46 (pt b o) w = ldR P 46 b o w (cellO (hp w b) o) := ld_one (by kernel_rfl) b o w
@[simp] theorem ld_48 (b o : Nat) (w : World) : ld P 48 (pt b o) w = ldL P 48 b o w (cellsAt w b o 6) := ld_agg (by kernel_rfl) (by kernel_rfl) b o w
@[simp] theorem ld_49 (b o : Nat) (w : World) : ld P 49 (pt b o) w = ldR P 49 b o w (cellO (hp w b) o) := ld_one (by kernel_rfl) b o w
@[simp] theorem ld_5 (b o : Nat) (w : World) : ld P 5 (pt b o) w = ldR P 5 b o w (cellO (hp w b) o) := ld_one (by kernel_rfl) b o w
@[simp] theorem ld_51 (b o : Nat) (w : World) : ld P 51 (pt b o) w = ldL P 51 b o w (cellsAt w b o 1) := ld_agg (by kernel_rfl) (by kernel_rfl) b o w
@[simp] theorem ld_53 (b o : Nat) (w : World) : ld P 53 (pt b o) w = ldL P 53 b o w (cellsAt w b o 2) := ld_agg (by kernel_rfl) (by kernel_rfl) b o w
@[simp] theorem ld_55 (b o : Nat) (w : World) : ld P 55 (pt b o) w = ldL P 55 b o w (cellsAt w b o 5) := ld_agg (by kernel_rfl) (by kernel_rfl) b o w
@[simp] theorem ld_58 (b o : Nat) (w : World) : ld P 58 (pt b o) w = ldL P 58 b o w (cellsAt w b o 6) := ld_agg (by kernel_rfl) (by kernel_rfl) b o w
@[simp] theorem ld_60 (b o : Nat) (w : World) : ld P 60 (pt b o) w = ldL P 60 b o w (cellsAt w b o 9) := ld_agg (by kernel_rfl) (by kernel_rfl) b o w
@[simp] theorem ld_78 (b o : Nat) (w : World) : ld P 78 (pt b o) w = ldL P 78 b o w (cellsAt w b o 5) := ld_agg (by kernel_rfl) (by kernel_rfl) b o w
@[simp] theorem ld_86 (b o : Nat) (w : World) : ld P 86 (pt b o) w = ldL P 86 b o w (cellsAt w b o 1) := ld_agg (by kernel_rfl) (by kernel_rfl) b o w
@[simp] theorem ld_89 (b o : Nat) (w : World) : ld P 89 (pt b o) w = ldL P 89 b o w (cellsAt w b o 2) := ld_agg (by kernel_rfl) (by kernel_rfl) b o w
@[simp] theorem ld_9 (b o : Nat) (w : World) : ld P 9 (pt b o) w = ldR P 9 b o w (cellO (hp w b) o) := ld_one (by kernel_rfl) b o w
@[simp] theorem st_134 (b o : Nat) (v : Value) (w : World) : st P 134 (pt b o) v w = stR P 134 3 b o v w (hp w b) := st_eq (by kernel_rfl) b o v w
@[simp] theorem st_25 (b o : Nat) (v : Value) (w : World) : st P 25 (pt b o) v w = stR P 25 1 b o v w (hp w b) := st_eq (by kernel_rfl) b o v w
@[simp] theorem st_26 (b o : Nat) (v : Value) (w : World) : st P 26 (pt b o) v w = stR P 26 1 b o v w (hp w b) := st_eq (by kernel_rfl) b o v w
@[simp] theorem st_3 (b o : Nat) (v : Value) (w : World) : st P 3 (pt b o) v w = stR P 3 1 b o v w (hp w b) := st_eq (by kernel_rfl) b o v w
@[simp] theorem st_30 (b o : Nat) (v : Value) (w : World) : st P 30 (pt b o) v w = stR P 30 4 b o v w (hp w b) := st_eq (by kernel_rfl) b o v w
@[simp] theorem st_42 (b o : Nat) (v : Value) (w : World) : st P 42 (pt b o) v w = stR P 42 1 b o v w (hp w b) := st_eq (by kernel_rfl) b o v w
@[simp] theorem st_44 (b o : Nat) (v : Value) (w : World) : st P 44 (pt b o) v w = stR P 44 1 b o v w (hp w b) := st_eq (by kernel_rfl) b o v w
@[simp] theorem st_48 (b o : Nat) (v : Value) (w : World) : st P 48 (pt b o) v w = stR P 48 6 b o v w (hp w b) := st_eq (by kernel_rfl) b o v w
@[simp] theorem st_51 (b o : Nat) (v : Value) (w : World) : st P 51 (pt b o) v w = stR P 51 1 b o v w (hp w b) := st_eq (by kernel_rfl) b o v w
@[simp] theorem st_53 (b o : Nat) (v : Value) (w : World) : st P 53 (pt b o) v w = stR P 53 2 b o v w (hp w b) := st_eq (by kernel_rfl) b o v w
@[simp] theorem st_55 (b o : Nat) (v : Value) (w : World) : st P 55 (pt b o) v w = stR P 55 5 b o v w (hp w b) := st_eq (by kernel_rfl) b o v w
@[simp] theorem st_58 (b o : Nat) (v : Value) (w : World) : st P 58 (pt b o) v w = stR P 58 6 b o v w (hp w b) := st_eq (by kernel_rfl) b o v w
@[simp] theorem st_60 (b o : Nat) (v : Value) (w : World) : st P 60 (pt b o) v w = stR P 60 9 b o v w (hp w b) := st_eq (by kernel_rfl) b o v w
@[simp] theorem st_78 (b o : Nat) (v : Value) (w : World) : st P 78 (pt b o) v w = stR P 78 5 b o v w (hp w b) := st_eq (by kernel_rfl) b o v w
@[simp] theorem st_86 (b o : Nat) (v : Value) (w : World) : st P 86 (pt b o) v w = stR P 86 1 b o v w (hp w b) := st_eq (by kernel_rfl) b o v w
@[simp] theorem st_89 (b o : Nat) (v : Value) (w : World) : st P 89 (pt b o) v w = stR P 89 2 b o v w (hp w b) := st_eq (by kernel_rfl) b o v w
theorem zz_48 : zeroB P 48 = some [(.int .i64 0), (.int .i64 0), (Go.Value.slice none 0 0), (Go.Value.slice none 0 0), (Go.Value.slice none 0 0), (.bool false)] := by kernel_rfl
theorem zz_55 : zeroB P 55 = some [(.int .i64 0), (Go.Value.slice none 0 0), (.int .i64 0), (.int .i64 0), (.int .i64 0)] := by kernel_rfl
theorem zz_89 : zeroB P 89 = some [(Go.Value.slice none 0 0), (Go.Value.slice none 0 0)] := by kernel_rfl
theorem zz_58 : zeroB P 58 = some [(.int .i64 0), (.int .i64 0), (.int .i64 0), (Go.Value.slice none 0 0), (Go.Value.string { data := #[] }), (.bool false)] := by kernel_rfl
theorem zz_45 : zeroB P 45 = some [(Go.Value.slice none 0 0)] := by kernel_rfl
theorem zz_53 : zeroB P 53 = some [(.int .i64 0), (.int .i64 0)] := by kernel_rfl
@[simp] theorem bd_132_1 (m1 : Option Nat) (w : World) : bd P 132 #[(1, (.map m1))] w = some (.agg #[(Go.Value.slice none 0 0), (Go.Value.slice none 0 0), (Go.Value.slice none 0 0), (Go.Value.slice none 0 0), .map m1], w) := bd_of (by kernel_rfl)
@[simp] theorem bd_134_0_1_2 (n1 : Int) (n2 : Int) (a3 : Option Addr) (l3 c3 : Nat) (w : World) : bd P 134 #[(0, (.int .i64 n1)), (1, (.int .i64 n2)), (2, (.agg #[.slice a3 l3 c3]))] w = some (.agg #[.int .i64 n1, .int .i64 n2, .slice a3 l3 c3], w) := bd_of (by kernel_rfl)
@[simp] theorem bd_30_  (w : World) : bd P 30 #[] w = some (.agg #[(Go.Value.slice none 0 0), (Go.Value.slice none 0 0), (Go.Value.slice none 0 0), (Go.Value.slice none 0 0)], w) := bd_of (by kernel_rfl)
@[simp] theorem bd_30_0_1 (a1 : Option Addr) (l1 c1 : Nat) (a2 : Option Addr) (l2 c2 : Nat) (w : World) : bd P 30 #[(0, (.slice a1 l1 c1)), (1, (.slice a2 l2 c2))] w = some (.agg #[.slice a1 l1 c1, .slice a2 l2 c2, (Go.Value.slice none 0 0), (Go.Value.slice none 0 0)], w) := bd_of (by kernel_rfl)
@[simp] theorem bd_44_  (w : World) : bd P 44 #[] w = some (.agg #[(Go.Value.slice none 0 0)], w) := bd_of (by kernel_rfl)
@[simp] theorem bd_44_0 (a1 : Option Addr) (l1 c1 : Nat) (w : World) : bd P 44 #[(0, (.slice a1 l1 c1))] w = some (.agg #[.slice a1 l1 c1], w) := bd_of (by kernel_rfl)
@[simp] theorem bd_48_  (w : World) : bd P 48 #[] w = some (.agg #[(.int .i64 0), (.int .i64 0), (Go.Value.slice none 0 0), (Go.Value.slice none 0 0), (Go.Value.slice none 0 0), (.bool false)], w) := bd_of (by kernel_rfl)
@[simp] theorem bd_48_0_2_4 (n1 : Int) (a2 : Option Addr) (l2 c2 : Nat) (a3 : Option Addr) (l3 c3 : Nat) (w : World) : bd P 48 #[(0, (.int .i64 n1)), (2, (.agg #[.slice a2 l2 c2])), (4, (.slice a3 l3 c3))] w = some (.agg #[.int .i64 n1, (.int .i64 0), .slice a2 l2 c2, (Go.Value.slice none 0 0), .slice a3 l3 c3, (.bool false)], w) := bd_of (by kernel_rfl)
@[simp] theorem bd_51_0 (a1 : Option Addr) (l1 c1 : Nat) (w : World) : bd P 51 #[(0, (.slice a1 l1 c1))] w = some (.agg #[.slice a1 l1 c1], w) := bd_of (by kernel_rfl)
@[simp] theorem bd_53_  (w : World) : bd P 53 #[] w = some (.agg #[(.int .i64 0), (.int .i64 0)], w) := bd_of (by kernel_rfl)
@[simp] theorem bd_55_0_1 (n1 : Int) (a2 : Option Addr) (l2 c2 : Nat) (w : World) : bd P 55 #[(0, (.int .i64 n1)), (1, (.agg #[.slice a2 l2 c2]))] w = some (.agg #[.int .i64 n1, .slice a2 l2 c2, (.int .i64 0), (.int .i64 0), (.int .i64 0)], w) := bd_of (by kernel_rfl)
@[simp] theorem bd_58_  (w : World) : bd P 58 #[] w = some (.agg #[(.int .i64 0), (.int .i64 0), (.int .i64 0), (Go.Value.slice none 0 0), (Go.Value.string { data := #[] }), (.bool false)], w) := bd_of (by kernel_rfl)
@[simp] theorem bd_72_0 (a1 : Option Addr) (l1 c1 : Nat) (w : World) : bd P 72 #[(0, (.slice a1 l1 c1))] w = some (.agg #[.slice a1 l1 c1, (.int .i64 0)], w) := bd_of (by kernel_rfl)
@[simp] theorem bd_86_0 (a1 : Option Addr) (l1 c1 : Nat) (w : World) : bd P 86 #[(0, (.slice a1 l1 c1))] w = some (.agg #[.slice a1 l1 c1], w) := bd_of (by kernel_rfl)
@[simp] theorem bd_89_0 (a1 : Option Addr) (l1 c1 : Nat) (w : World) : bd P 89 #[(0, (.agg #[.slice a1 l1 c1]))] w = some (.agg #[.slice a1 l1 c1, (Go.Value.slice none 0 0)], w) := bd_of (by kernel_rfl)
@[simp] theorem bs_25_1_0 (n1 : Int) (n2 : Int) (a3 : Option Addr) (l3 c3 : Nat) (a4 : Option Addr) (l4 c4 : Nat) (a5 : Option Addr) (l5 c5 : Nat) (b6 : Bool) (w : World) : bs P 25 1 #[(0, (.agg #[.int .i64 n1, .int .i64 n2, .slice a3 l3 c3, .slice a4 l4 c4, .slice a5 l5 c5, .bool b6]))] w = some (.slice (some ⟨w.heap.size, 0, none⟩) 1 1, w.alloc (.cells #[.int .i64 n1, .int .i64 n2, .slice a3 l3 c3, .slice a4 l4 c4, .slice a5 l5 c5, .bool b6] 48)) := bs_of (by kernel_rfl)
@[simp] theorem bs_26_1_0 (n1 : Int) (a2 : Option Addr) (l2 c2 : Nat) (n3 : Int) (n4 : Int) (n5 : Int) (w : World) : bs P 26 1 #[(0, (.agg #[.int .i64 n1, .slice a2 l2 c2, .int .i64 n3, .int .i64 n4, .int .i64 n5]))] w = some (.slice (some ⟨w.heap.size, 0, none⟩) 1 1, w.alloc (.cells #[.int .i64 n1, .slice a2 l2 c2, .int .i64 n3, .int .i64 n4, .int .i64 n5] 55)) := bs_of (by kernel_rfl)
@[simp] theorem bs_38_2_0_1 (n1 : Int) (n2 : Int) (w : World) : bs P 38 2 #[(0, (.int .i64 n1)), (1, (.int .i64 n2))] w = some (.slice (some ⟨w.heap.size, 0, none⟩) 2 2, w.alloc (.cells #[.int .i64 n1, .int .i64 n2] 3)) := bs_of (by kernel_rfl)
@[simp] theorem bs_38_5_0_1_2_3_4 (n1 : Int) (n2 : Int) (n3 : Int) (n4 : Int) (n5 : Int) (w : World) : bs P 38 5 #[(0, (.int .i64 n1)), (1, (.int .i64 n2)), (2, (.int .i64 n3)), (3, (.int .i64 n4)), (4, (.int .i64 n5))] w = some (.slice (some ⟨w.heap.size, 0, none⟩) 5 5, w.alloc (.cells #[.int .i64 n1, .int .i64 n2, .int .i64 n3, .int .i64 n4, .int .i64 n5] 3)) := bs_of (by kernel_rfl)
@[simp] theorem bs_38_6_0_1_2_3_4_5 (n1 : Int) (n2 : Int) (n3 : Int) (n4 : Int) (n5 : Int) (n6 : Int) (w : World) : bs P 38 6 #[(0, (.int .i64 n1)), (1, (.int .i64 n2)), (2, (.int .i64 n3)), (3, (.int .i64 n4)), (4, (.int .i64 n5)), (5, (.int .i64 n6))] w = some (.slice (some ⟨w.heap.size, 0, none⟩) 6 6, w.alloc (.cells #[.int .i64 n1, .int .i64 n2, .int .i64 n3, .int .i64 n4, .int .i64 n5, .int .i64 n6] 3)) := bs_of (by kernel_rfl)
@[simp] theorem bs_42_1_0 (a1 : Option Addr) (l1 c1 : Nat) (a2 : Option Addr) (l2 c2 : Nat) (w : World) : bs P 42 1 #[(0, (.agg #[.slice a1 l1 c1, .slice a2 l2 c2]))] w = some (.slice (some ⟨w.heap.size, 0, none⟩) 1 1, w.alloc (.cells #[.slice a1 l1 c1, .slice a2 l2 c2] 89)) := bs_of (by kernel_rfl)
@[simp] theorem bs_45_1_0 (n1 : Int) (n2 : Int) (n3 : Int) (a4 : Option Addr) (l4 c4 : Nat) (s5 : ByteArray) (b6 : Bool) (w : World) : bs P 45 1 #[(0, (.agg #[.int .i64 n1, .int .i64 n2, .int .i64 n3, .slice a4 l4 c4, .string s5, .bool b6]))] w = some (.slice (some ⟨w.heap.size, 0, none⟩) 1 1, w.alloc (.cells #[.int .i64 n1, .int .i64 n2, .int .i64 n3, .slice a4 l4 c4, .string s5, .bool b6] 58)) := bs_of (by kernel_rfl)
@[simp] theorem bs_46_2_0_1 (a1 : Option Addr) (l1 c1 : Nat) (a2 : Option Addr) (l2 c2 : Nat) (w : World) : bs P 46 2 #[(0, (.slice a1 l1 c1)), (1, (.slice a2 l2 c2))] w = some (.slice (some ⟨w.heap.size, 0, none⟩) 2 2, w.alloc (.cells #[.slice a1 l1 c1, .slice a2 l2 c2] 45)) := bs_of (by kernel_rfl)
@[simp] theorem bs_49_0 (w : World) : bs P 49 0 #[] w = some (.slice (some ⟨w.heap.size, 0, none⟩) 0 0, w.alloc (.cells #[] 53)) := bs_zero (n := 2) (by kernel_rfl) (by kernel_rfl) w
@[simp] theorem cv_5_3 (n : Int) (w : World) : cv P 5 3 (.int .u8 n) w = some (.int .i64 (IntKind.wrap .i64 n), w) := cv_int (by kernel_rfl) (by kernel_rfl) _ n w
attribute [simp ↓] bnd cnd_t cnd_f ifP_true gif_tt gif_tf gif_ft gif_ff gif_u pick_t pick_f
attribute [simp] bx_eq bo_lss bo_leq bo_gtr bo_geq bo_eql bo_neq bo_add bo_sub bo_mul bo_eql_str bo_neq_str uo_not uo_neg ret_some World.size_alloc size_setRow cells_agg cells_int cells_bool cells_string cells_slice cells_pointer cells_map cells_nilIface cells_func vl_eq dw_size hp_dw ldR_some ldL_some stR_cells splice_eq cellsAt_zero cellsAt_succ consO_some cellO_some nth_nil nth_zero nth_succ setO_some hp_set_eq Value.oneCell'
end Go.Proofs.YtligcpabhddggaaGreat.X
