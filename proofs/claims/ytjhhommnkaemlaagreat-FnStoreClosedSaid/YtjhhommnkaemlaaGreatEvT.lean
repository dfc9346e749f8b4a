/- A part of the proof, without conditions. -/
import Derived.Test.YtjhhommnkaemlaaGreatProg
import Derived.Test.YtjhhommnkaemlaaGreatEvI
set_option linter.unusedVariables false
set_option linter.unusedSimpArgs false
set_option linter.deprecated false
namespace Go.Proofs.YtjhhommnkaemlaaGreat.X
open Go Go.Ev
noncomputable def P : Program := Tryz.prog
theorem plain : Plain P := by
 have h : (P.funcs.toList.all fun fn => fn.body.isNone || fn.name != "runtime.NumGoroutine") = true := by kernel_rfl
 intro fn hf hb
 rw [List.all_eq_true] at h
 have := h fn (Array.mem_toList_iff.2 hf)
 simp only [Option.isNone_iff_eq_none, Bool.or_eq_true, bne_iff_ne, ne_eq] at this
 rcases this with h | h
 ·rw [h] at hb; simp at hb
 ·exact h
theorem mixed : P.follows .mixedOrders = true := by kernel_rfl
@[simp] theorem Vi (w : World) : al P 129 w = some (pt w.heap.size 0, w.alloc (.cells #[(.int .i64 0), (Go.Value.slice none 0 0), (.int .i64 0), (.int .i64 0), (.int .i64 0)] 129)) := Hc (z := [(.int .i64 0), (Go.Value.slice none 0 0), (.int .i64 0), (.int .i64 0), (.int .i64 0)]) (by kernel_rfl) w
@[simp] theorem Vj (w : World) : al P 131 w = some (pt w.heap.size 0, w.alloc (.cells #[(.int .i64 0), (.int .i64 0), (.int .i64 0), (.int .i64 0), (.int .i64 0), (.int .i64 0), (Go.Value.slice none 0 0), (Go.Value.string { data := #[] }), (.bool false)] 131)) := Hc (z := [(.int .i64 0), (.int .i64 0), (.int .i64 0), (.int .i64 0), (.int .i64 0), (.int .i64 0), (Go.Value.slice none 0 0), (Go.Value.string { data := #[] }), (.bool false)]) (by kernel_rfl) w
@[simp] theorem Vk (w : World) : al P 137 w = some (pt w.heap.size 0, w.alloc (.cells #[(.int .i64 0), (.int .i64 0), (.int .i64 0), (.int .i64 0), (Go.Value.string { data := #[] }), (.bool false)] 137)) := Hc (z := [(.int .i64 0), (.int .i64 0), (.int .i64 0), (.int .i64 0), (Go.Value.string { data := #[] }), (.bool false)]) (by kernel_rfl) w
@[simp] theorem VP (w : World) : al P 32 w = some (pt w.heap.size 0, w.alloc (.cells #[(Go.Value.slice none 0 0)] 32)) := Hc (z := [(Go.Value.slice none 0 0)]) (by kernel_rfl) w
@[simp] theorem VQ (w : World) : al P 36 w = some (pt w.heap.size 0, w.alloc (.cells #[(.int .i64 0), (.int .i64 0)] 36)) := Hc (z := [(.int .i64 0), (.int .i64 0)]) (by kernel_rfl) w
@[simp] theorem VR (w : World) : al P 44 w = some (pt w.heap.size 0, w.alloc (.cells #[(Go.Value.slice none 0 0)] 44)) := Hc (z := [(Go.Value.slice none 0 0)]) (by kernel_rfl) w
@[simp] theorem VS (w : World) : al P 49 w = some (pt w.heap.size 0, w.alloc (.cells #[(.int .i64 0), (.int .i64 0), (.int .i64 0), (Go.Value.slice none 0 0), (Go.Value.string { data := #[] }), (.bool false)] 49)) := Hc (z := [(.int .i64 0), (.int .i64 0), (.int .i64 0), (Go.Value.slice none 0 0), (Go.Value.string { data := #[] }), (.bool false)]) (by kernel_rfl) w
@[simp] theorem VT (w : World) : al P 77 w = some (pt w.heap.size 0, w.alloc (.cells #[(Go.Value.slice none 0 0), (Go.Value.slice none 0 0), (Go.Value.slice none 0 0), (Go.Value.slice none 0 0)] 77)) := Hc (z := [(Go.Value.slice none 0 0), (Go.Value.slice none 0 0), (Go.Value.slice none 0 0), (Go.Value.slice none 0 0)]) (by kernel_rfl) w
@[simp] theorem VU (w : World) : al P 81 w = some (pt w.heap.size 0, w.alloc (.cells #[(Go.Value.slice none 0 0)] 81)) := Hc (z := [(Go.Value.slice none 0 0)]) (by kernel_rfl) w
@[simp] theorem VV (w : World) : al P 84 w = some (pt w.heap.size 0, w.alloc (.cells #[(.int .i64 0), (.int .i64 0), (Go.Value.slice none 0 0), (Go.Value.slice none 0 0), (Go.Value.slice none 0 0), (.bool false)] 84)) := Hc (z := [(.int .i64 0), (.int .i64 0), (Go.Value.slice none 0 0), (Go.Value.slice none 0 0), (Go.Value.slice none 0 0), (.bool false)]) (by kernel_rfl) w
@[simp] theorem VW (w : World) : al P 86 w = some (pt w.heap.size 0, w.alloc (.cells #[(Go.Value.slice none 0 0), (Go.Value.slice none 0 0)] 86)) := Hc (z := [(Go.Value.slice none 0 0), (Go.Value.slice none 0 0)]) (by kernel_rfl) w
@[simp] theorem UC (a : Option Addr) (n c : Nat) (w : World) : Au P #[109] 3 #[.slice a n c] w = some (i64 n, w) := BH (e := 137) (s := (6, 56)) (by kernel_rfl) a n c w
@[simp] theorem UD (a : Option Addr) (n c : Nat) (w : World) : Au P #[140] 3 #[.slice a n c] w = some (i64 n, w) := BH (e := 9) (s := (1, 16)) (by kernel_rfl) a n c w
@[simp] theorem Vl (a : Option Addr) (n c : Nat) (w : World) : Au P #[22] 3 #[.slice a n c] w = some (i64 n, w) := BH (e := 5) (s := (1, 1)) (by kernel_rfl) a n c w
@[simp] theorem Vm (a : Option Addr) (n c : Nat) (w : World) : Au P #[23] 3 #[.slice a n c] w = some (i64 n, w) := BH (e := 38) (s := (5, 40)) (by kernel_rfl) a n c w
@[simp] theorem Vn (a : Option Addr) (n c : Nat) (w : World) : Au P #[30] 3 #[.slice a n c] w = some (i64 n, w) := BH (e := 36) (s := (2, 16)) (by kernel_rfl) a n c w
@[simp] theorem Vo (a : Option Addr) (n c : Nat) (w : World) : Au P #[42] 3 #[.slice a n c] w = some (i64 n, w) := BH (e := 49) (s := (6, 72)) (by kernel_rfl) a n c w
@[simp] theorem Vp (a : Option Addr) (n c : Nat) (w : World) : Au P #[64] 3 #[.slice a n c] w = some (i64 n, w) := BH (e := 3) (s := (1, 8)) (by kernel_rfl) a n c w
@[simp] theorem Vq (a : Option Addr) (n c : Nat) (w : World) : Au P #[73] 3 #[.slice a n c] w = some (i64 n, w) := BH (e := 84) (s := (6, 96)) (by kernel_rfl) a n c w
@[simp] theorem Vr (a : Option Addr) (n c : Nat) (w : World) : Au P #[74] 3 #[.slice a n c] w = some (i64 n, w) := BH (e := 129) (s := (5, 56)) (by kernel_rfl) a n c w
@[simp] theorem Vs (a : Option Addr) (n c : Nat) (w : World) : Au P #[75] 3 #[.slice a n c] w = some (i64 n, w) := BH (e := 131) (s := (9, 96)) (by kernel_rfl) a n c w
@[simp] theorem Vt (a : Option Addr) (n c : Nat) (w : World) : Au P #[79] 3 #[.slice a n c] w = some (i64 n, w) := BH (e := 86) (s := (2, 48)) (by kernel_rfl) a n c w
@[simp] theorem Vu (a : Option Addr) (n c : Nat) (w : World) : Au P #[82] 3 #[.slice a n c] w = some (i64 n, w) := BH (e := 42) (s := (1, 24)) (by kernel_rfl) a n c w
@[simp] theorem VX (s : ByteArray) (w : World) : Au P #[9] 3 #[.string s] w = some (i64 s.size, w) := Si (by kernel_rfl) s w
theorem SC : (P.fieldsOf 36).toList = [{ name := "Time", type := 3, offset := 0, embedded := false, tag := "", pkgPath := "", byteOffset := 0 }, { name := "Place", type := 3, offset := 1, embedded := false, tag := "", pkgPath := "", byteOffset := 8 }] := by kernel_rfl
@[simp] theorem TG (x y : Operand) (a0 a1 b0 b1 : Int) (w : World) : bo P .eql 36 x y (.agg #[i64 a0, i64 a1]) (.agg #[i64 b0, i64 b1]) w = some (.bool (((a0 == b0) && (a1 == b1))), w) := by
 have hg := run_eqGuard_agg (P := P) w .eql 36 x y #[i64 a0, i64 a1] #[i64 b0, i64 b1] (by kernel_rfl)
 have hs := run_equalIn_struct (P := P) w 9999 36 #[i64 a0, i64 a1] #[i64 b0, i64 b1] (by kernel_rfl) (by kernel_rfl)
 simp only [bo, Sem.run_bind, hg, Result.andThen_ok, run_eql_struct, hs, SC]
 exact Nc (by kernel_rfl) (by kernel_rfl) ⟨by simp, by simp, rfl, rfl⟩ _ _ _ _ w
@[simp] theorem T0 (x y : Operand) (a b : Bool) (w : World) : bo P .eql 4 x y (.bool a) (.bool b) w = some (.bool (a == b), w) := OH (by kernel_rfl) x y a b w
@[simp] theorem TH (x y : Operand) (a0 a1 b0 b1 : Int) (w : World) : bo P .neq 36 x y (.agg #[i64 a0, i64 a1]) (.agg #[i64 b0, i64 b1]) w = some (.bool (!((a0 == b0) && (a1 == b1))), w) := by
 have hg := run_eqGuard_agg (P := P) w .neq 36 x y #[i64 a0, i64 a1] #[i64 b0, i64 b1] (by kernel_rfl)
 have hs := run_equalIn_struct (P := P) w 9999 36 #[i64 a0, i64 a1] #[i64 b0, i64 b1] (by kernel_rfl) (by kernel_rfl)
 simp only [bo, Sem.run_bind, hg, Result.andThen_ok, run_neq_struct, hs, SC]
 exact Qp (by kernel_rfl) (by kernel_rfl) ⟨by simp, by simp, rfl, rfl⟩ _ _ _ _ w
@[simp] theorem T6 (x y : Operand) (a b : Bool) (w : World) : bo P .neq 4 x y (.bool a) (.bool b) w = some (.bool (!(a == b)), w) := OI (by kernel_rfl) x y a b w
@[simp] theorem T7 (b o : Nat) (w : World) : fa P 129 (pt b o) 0 w = some (pt b (o + 0), w) := Bk (n := 0) (g := some false) (by kernel_rfl) b o w
@[simp] theorem T8 (b o : Nat) (w : World) : fa P 129 (pt b o) 1 w = some (pt b (o + 1), w) := Bk (n := 0) (g := some true) (by kernel_rfl) b o w
@[simp] theorem T9 (b o : Nat) (w : World) : fa P 129 (pt b o) 2 w = some (pt b (o + 2), w) := Bk (n := 1) (g := some true) (by kernel_rfl) b o w
@[simp] theorem Ua (b o : Nat) (w : World) : fa P 129 (pt b o) 3 w = some (pt b (o + 4), w) := Bk (n := 0) (g := some false) (by kernel_rfl) b o w
@[simp] theorem Ub (b o : Nat) (w : World) : fa P 131 (pt b o) 0 w = some (pt b (o + 0), w) := Bk (n := 0) (g := some false) (by kernel_rfl) b o w
@[simp] theorem Uc (b o : Nat) (w : World) : fa P 131 (pt b o) 1 w = some (pt b (o + 1), w) := Bk (n := 0) (g := some false) (by kernel_rfl) b o w
@[simp] theorem Ud (b o : Nat) (w : World) : fa P 131 (pt b o) 2 w = some (pt b (o + 2), w) := Bk (n := 0) (g := some false) (by kernel_rfl) b o w
@[simp] theorem Ue (b o : Nat) (w : World) : fa P 131 (pt b o) 3 w = some (pt b (o + 3), w) := Bk (n := 5) (g := some true) (by kernel_rfl) b o w
@[simp] theorem Uf (b o : Nat) (w : World) : fa P 137 (pt b o) 0 w = some (pt b (o + 0), w) := Bk (n := 0) (g := some false) (by kernel_rfl) b o w
@[simp] theorem Ug (b o : Nat) (w : World) : fa P 137 (pt b o) 1 w = some (pt b (o + 1), w) := Bk (n := 0) (g := some false) (by kernel_rfl) b o w
@[simp] theorem Uh (b o : Nat) (w : World) : fa P 137 (pt b o) 2 w = some (pt b (o + 2), w) := Bk (n := 0) (g := some false) (by kernel_rfl) b o w
@[simp] theorem Ui (b o : Nat) (w : World) : fa P 137 (pt b o) 3 w = some (pt b (o + 3), w) := Bk (n := 0) (g := some false) (by kernel_rfl) b o w
@[simp] theorem Uj (b o : Nat) (w : World) : fa P 137 (pt b o) 4 w = some (pt b (o + 4), w) := Bk (n := 0) (g := some false) (by kernel_rfl) b o w
@[simp] theorem Uk (b o : Nat) (w : World) : fa P 137 (pt b o) 5 w = some (pt b (o + 5), w) := Bk (n := 0) (g := some false) (by kernel_rfl) b o w
@[simp] theorem UE (b o : Nat) (w : World) : fa P 32 (pt b o) 0 w = some (pt b (o + 0), w) := Bk (n := 0) (g := some false) (by kernel_rfl) b o w
@[simp] theorem UF (b o : Nat) (w : World) : fa P 36 (pt b o) 0 w = some (pt b (o + 0), w) := Bk (n := 0) (g := some false) (by kernel_rfl) b o w
@[simp] theorem UG (b o : Nat) (w : World) : fa P 36 (pt b o) 1 w = some (pt b (o + 1), w) := Bk (n := 0) (g := some false) (by kernel_rfl) b o w
@[simp] theorem UH (b o : Nat) (w : World) : fa P 44 (pt b o) 0 w = some (pt b (o + 0), w) := Bk (n := 0) (g := some false) (by kernel_rfl) b o w
@[simp] theorem UI (b o : Nat) (w : World) : fa P 49 (pt b o) 0 w = some (pt b (o + 0), w) := Bk (n := 0) (g := some false) (by kernel_rfl) b o w
@[simp] theorem UJ (b o : Nat) (w : World) : fa P 49 (pt b o) 1 w = some (pt b (o + 1), w) := Bk (n := 1) (g := some true) (by kernel_rfl) b o w
@[simp] theorem UK (b o : Nat) (w : World) : fa P 49 (pt b o) 2 w = some (pt b (o + 3), w) := Bk (n := 0) (g := some true) (by kernel_rfl) b o w
@[simp] theorem UL (b o : Nat) (w : World) : fa P 49 (pt b o) 3 w = some (pt b (o + 4), w) := Bk (n := 0) (g := some false) (by kernel_rfl) b o w
@[simp] theorem UM (b o : Nat) (w : World) : fa P 49 (pt b o) 4 w = some (pt b (o + 5), w) := Bk (n := 0) (g := some false) (by kernel_rfl) b o w
@[simp] theorem UN (b o : Nat) (w : World) : fa P 77 (pt b o) 0 w = some (pt b (o + 0), w) := Bk (n := 0) (g := some false) (by kernel_rfl) b o w
@[simp] theorem UO (b o : Nat) (w : World) : fa P 77 (pt b o) 1 w = some (pt b (o + 1), w) := Bk (n := 0) (g := some false) (by kernel_rfl) b o w
@[simp] theorem UP (b o : Nat) (w : World) : fa P 77 (pt b o) 2 w = some (pt b (o + 2), w) := Bk (n := 0) (g := some false) (by kernel_rfl) b o w
@[simp] theorem UQ (b o : Nat) (w : World) : fa P 77 (pt b o) 3 w = some (pt b (o + 3), w) := Bk (n := 0) (g := some false) (by kernel_rfl) b o w
@[simp] theorem UR (b o : Nat) (w : World) : fa P 81 (pt b o) 0 w = some (pt b (o + 0), w) := Bk (n := 0) (g := some false) (by kernel_rfl) b o w
@[simp] theorem US (b o : Nat) (w : World) : fa P 84 (pt b o) 0 w = some (pt b (o + 0), w) := Bk (n := 0) (g := some false) (by kernel_rfl) b o w
@[simp] theorem UT (b o : Nat) (w : World) : fa P 84 (pt b o) 1 w = some (pt b (o + 1), w) := Bk (n := 0) (g := some false) (by kernel_rfl) b o w
@[simp] theorem UU (b o : Nat) (w : World) : fa P 84 (pt b o) 2 w = some (pt b (o + 2), w) := Bk (n := 0) (g := some true) (by kernel_rfl) b o w
@[simp] theorem UW (b o : Nat) (w : World) : fa P 84 (pt b o) 3 w = some (pt b (o + 3), w) := Bk (n := 0) (g := some false) (by kernel_rfl) b o w
@[simp] theorem UX (b o : Nat) (w : World) : fa P 84 (pt b o) 4 w = some (pt b (o + 4), w) := Bk (n := 0) (g := some false) (by kernel_rfl) b o w
@[simp] theorem UY (b o : Nat) (w : World) : fa P 84 (pt b o) 5 w = some (pt b (o + 5), w) := Bk (n := 0) (g := some false) (by kernel_rfl) b o w
@[simp] theorem UZ (b o : Nat) (w : World) : fa P 86 (pt b o) 0 w = some (pt b (o + 0), w) := Bk (n := 0) (g := some true) (by kernel_rfl) b o w
@[simp] theorem U0 (b o : Nat) (w : World) : fa P 86 (pt b o) 1 w = some (pt b (o + 1), w) := Bk (n := 0) (g := some false) (by kernel_rfl) b o w
@[simp] theorem U4 (b o : Nat) (w : World) : fa P 93 (pt b o) 0 w = some (pt b (o + 0), w) := Bk (n := 0) (g := some false) (by kernel_rfl) b o w
@[simp] theorem U5 (b o : Nat) (w : World) : fa P 93 (pt b o) 1 w = some (pt b (o + 1), w) := Bk (n := 0) (g := some false) (by kernel_rfl) b o w
theorem Pf : Gb P 109 = some (137, 6, 56) := by kernel_rfl
theorem S8 {b o n c : Nat} {i : Int} (h0 : 0 ≤ i) (h1 : i < n) (w : World) : ia P 109 (.slice (some ⟨b, o, none⟩) n c) (i64 i) w = some (pt b (o + i.toNat * 6), w) := Hd Pf h0 h1 w
theorem S9 : Gb P 140 = some (9, 1, 16) := by kernel_rfl
theorem Ta {b o n c : Nat} {i : Int} (h0 : 0 ≤ i) (h1 : i < n) (w : World) : ia P 140 (.slice (some ⟨b, o, none⟩) n c) (i64 i) w = some (pt b (o + i.toNat * 1), w) := Hd S9 h0 h1 w
theorem SD : Gb P 22 = some (5, 1, 1) := by kernel_rfl
theorem SE {b o n c : Nat} {i : Int} (h0 : 0 ≤ i) (h1 : i < n) (w : World) : ia P 22 (.slice (some ⟨b, o, none⟩) n c) (i64 i) w = some (pt b (o + i.toNat * 1), w) := Hd SD h0 h1 w
theorem Q7 : Gb P 23 = some (38, 5, 40) := by kernel_rfl
theorem CD : Gb P 30 = some (36, 2, 16) := by kernel_rfl
theorem EJ {b o n c : Nat} {i : Int} (h0 : 0 ≤ i) (h1 : i < n) (w : World) : ia P 30 (.slice (some ⟨b, o, none⟩) n c) (i64 i) w = some (pt b (o + i.toNat * 2), w) := Hd CD h0 h1 w
theorem Cj : Gb P 42 = some (49, 6, 72) := by kernel_rfl
theorem AW {b o n c : Nat} {i : Int} (h0 : 0 ≤ i) (h1 : i < n) (w : World) : ia P 42 (.slice (some ⟨b, o, none⟩) n c) (i64 i) w = some (pt b (o + i.toNat * 6), w) := Hd Cj h0 h1 w
theorem Ul : Gb P 64 = some (3, 1, 8) := by kernel_rfl
theorem Q8 {b o n c : Nat} {i : Int} (h0 : 0 ≤ i) (h1 : i < n) (w : World) : ia P 64 (.slice (some ⟨b, o, none⟩) n c) (i64 i) w = some (pt b (o + i.toNat * 1), w) := Hd Ul h0 h1 w
theorem Q9 : Gb P 73 = some (84, 6, 96) := by kernel_rfl
theorem CF {b o n c : Nat} {i : Int} (h0 : 0 ≤ i) (h1 : i < n) (w : World) : ia P 73 (.slice (some ⟨b, o, none⟩) n c) (i64 i) w = some (pt b (o + i.toNat * 6), w) := Hd Q9 h0 h1 w
theorem Ra : Gb P 74 = some (129, 5, 56) := by kernel_rfl
theorem DM {b o n c : Nat} {i : Int} (h0 : 0 ≤ i) (h1 : i < n) (w : World) : ia P 74 (.slice (some ⟨b, o, none⟩) n c) (i64 i) w = some (pt b (o + i.toNat * 5), w) := Hd Ra h0 h1 w
theorem MZ : Gb P 75 = some (131, 9, 96) := by kernel_rfl
theorem Rb {b o n c : Nat} {i : Int} (h0 : 0 ≤ i) (h1 : i < n) (w : World) : ia P 75 (.slice (some ⟨b, o, none⟩) n c) (i64 i) w = some (pt b (o + i.toNat * 9), w) := Hd MZ h0 h1 w
theorem LH : Gb P 79 = some (86, 2, 48) := by kernel_rfl
theorem Cr {b o n c : Nat} {i : Int} (h0 : 0 ≤ i) (h1 : i < n) (w : World) : ia P 79 (.slice (some ⟨b, o, none⟩) n c) (i64 i) w = some (pt b (o + i.toNat * 2), w) := Hd LH h0 h1 w
theorem PM : Gb P 82 = some (42, 1, 24) := by kernel_rfl
theorem HU {b o n c : Nat} {i : Int} (h0 : 0 ≤ i) (h1 : i < n) (w : World) : ia P 82 (.slice (some ⟨b, o, none⟩) n c) (i64 i) w = some (pt b (o + i.toNat * 1), w) := Hd PM h0 h1 w
@[simp] theorem Vv (b o : Nat) (w : World) : ld P 129 (pt b o) w = PO P 129 b o w (A0 w b o 5) := El (by kernel_rfl) (by kernel_rfl) b o w
@[simp] theorem Vw (b o : Nat) (w : World) : ld P 131 (pt b o) w = PO P 131 b o w (A0 w b o 9) := El (by kernel_rfl) (by kernel_rfl) b o w
@[simp] theorem Vx (b o : Nat) (w : World) : ld P 137 (pt b o) w = PO P 137 b o w (A0 w b o 6) := El (by kernel_rfl) (by kernel_rfl) b o w
@[simp] theorem VY (b o : Nat) (w : World) : ld P 22 (pt b o) w = O1 P 22 b o w (BC (hp w b) o) := DP (by kernel_rfl) b o w
@[simp] theorem VZ (b o : Nat) (w : World) : ld P 23 (pt b o) w = O1 P 23 b o w (BC (hp w b) o) := DP (by kernel_rfl) b o w
@[simp] theorem WD (b o : Nat) (w : World) : ld P 3 (pt b o) w = O1 P 3 b o w (BC (hp w b) o) := DP (by kernel_rfl) b o w
@[simp] theorem V0 (b o : Nat) (w : World) : ld P 30 (pt b o) w = O1 P 30 b o w (BC (hp w b) o) := DP (by kernel_rfl) b o w
@[simp] theorem V6 (b o : Nat) (w : World) : ld P 32 (pt b o) w = PO P 32 b o w (A0 w b o 1) := El (by kernel_rfl) (by kernel_rfl) b o w
@[simp] theorem V7 (b o : Nat) (w : World) : ld P 36 (pt b o) w = PO P 36 b o w (A0 w b o 2) := El (by kernel_rfl) (by kernel_rfl) b o w
@[simp] theorem WE (b o : Nat) (w : World) : ld P 4 (pt b o) w = O1 P 4 b o w (BC (hp w b) o) := DP (by kernel_rfl) b o w
@[simp] theorem V8 (b o : Nat) (w : World) : ld P 42 (pt b o) w = O1 P 42 b o w (BC (hp w b) o) := DP (by kernel_rfl) b o w
@[simp] theorem V9 (b o : Nat) (w : World) : ld P 44 (pt b o) w = PO P 44 b o w (A0 w b o 1) := El (by kernel_rfl) (by kernel_rfl) b o w
@[simp] theorem LI (b o : Nat) (w : World) : ld P 49 (pt b o) w = PO P 49 b o w (A0 w b o 6) := El (by kernel_rfl) (by kernel_rfl) b o w
@[simp] theorem WG (b o : Nat) (w : World) : ld P 5 (pt b o) w = O1 P 5 b o w (BC (hp w b) o) := DP (by kernel_rfl) b o w
@[simp] theorem Wb (b o : Nat) (w : World) : ld P 73 (pt b o) w = O1 P 73 b o w (BC (hp w b) o) := DP (by kernel_rfl) b o w
@[simp] theorem Wc (b o : Nat) (w : World) : ld P 74 (pt b o) w = O1 P 74 b o w (BC (hp w b) o) := DP (by kernel_rfl) b o w
@[simp] theorem Wd (b o : Nat) (w : World) : ld P 75 (pt b o) w = O1 P 75 b o w (BC (hp w b) o) := DP (by kernel_rfl) b o w
@[simp] theorem We (b o : Nat) (w : World) : ld P 77 (pt b o) w = PO P 77 b o w (A0 w b o 4) := El (by kernel_rfl) (by kernel_rfl) b o w
@[simp] theorem Wf (b o : Nat) (w : World) : ld P 79 (pt b o) w = O1 P 79 b o w (BC (hp w b) o) := DP (by kernel_rfl) b o w
@[simp] theorem Wg (b o : Nat) (w : World) : ld P 81 (pt b o) w = PO P 81 b o w (A0 w b o 1) := El (by kernel_rfl) (by kernel_rfl) b o w
@[simp] theorem Wh (b o : Nat) (w : World) : ld P 82 (pt b o) w = O1 P 82 b o w (BC (hp w b) o) := DP (by kernel_rfl) b o w
@[simp] theorem Wi (b o : Nat) (w : World) : ld P 84 (pt b o) w = PO P 84 b o w (A0 w b o 6) := El (by kernel_rfl) (by kernel_rfl) b o w
@[simp] theorem Wj (b o : Nat) (w : World) : ld P 86 (pt b o) w = PO P 86 b o w (A0 w b o 2) := El (by kernel_rfl) (by kernel_rfl) b o w
@[simp] theorem WH (b o : Nat) (w : World) : ld P 9 (pt b o) w = O1 P 9 b o w (BC (hp w b) o) := DP (by kernel_rfl) b o w
@[simp] theorem Vy (b o : Nat) (v : Value) (w : World) : st P 129 (pt b o) v w = Hn P 129 5 b o v w (hp w b) := CH (by kernel_rfl) b o v w
@[simp] theorem Vz (b o : Nat) (v : Value) (w : World) : st P 131 (pt b o) v w = Hn P 131 9 b o v w (hp w b) := CH (by kernel_rfl) b o v w
@[simp] theorem VA (b o : Nat) (v : Value) (w : World) : st P 137 (pt b o) v w = Hn P 137 6 b o v w (hp w b) := CH (by kernel_rfl) b o v w
@[simp] theorem Wk (b o : Nat) (v : Value) (w : World) : st P 23 (pt b o) v w = Hn P 23 1 b o v w (hp w b) := CH (by kernel_rfl) b o v w
@[simp] theorem WI (b o : Nat) (v : Value) (w : World) : st P 3 (pt b o) v w = Hn P 3 1 b o v w (hp w b) := CH (by kernel_rfl) b o v w
@[simp] theorem Wl (b o : Nat) (v : Value) (w : World) : st P 30 (pt b o) v w = Hn P 30 1 b o v w (hp w b) := CH (by kernel_rfl) b o v w
@[simp] theorem Wm (b o : Nat) (v : Value) (w : World) : st P 32 (pt b o) v w = Hn P 32 1 b o v w (hp w b) := CH (by kernel_rfl) b o v w
@[simp] theorem Wn (b o : Nat) (v : Value) (w : World) : st P 36 (pt b o) v w = Hn P 36 2 b o v w (hp w b) := CH (by kernel_rfl) b o v w
@[simp] theorem WJ (b o : Nat) (v : Value) (w : World) : st P 4 (pt b o) v w = Hn P 4 1 b o v w (hp w b) := CH (by kernel_rfl) b o v w
@[simp] theorem Wo (b o : Nat) (v : Value) (w : World) : st P 42 (pt b o) v w = Hn P 42 1 b o v w (hp w b) := CH (by kernel_rfl) b o v w
@[simp] theorem Wp (b o : Nat) (v : Value) (w : World) : st P 44 (pt b o) v w = Hn P 44 1 b o v w (hp w b) := CH (by kernel_rfl) b o v w
@[simp] theorem Wq (b o : Nat) (v : Value) (w : World) : st P 49 (pt b o) v w = Hn P 49 6 b o v w (hp w b) := CH (by kernel_rfl) b o v w
@[simp] theorem Ws (b o : Nat) (v : Value) (w : World) : st P 73 (pt b o) v w = Hn P 73 1 b o v w (hp w b) := CH (by kernel_rfl) b o v w
@[simp] theorem Wt (b o : Nat) (v : Value) (w : World) : st P 74 (pt b o) v w = Hn P 74 1 b o v w (hp w b) := CH (by kernel_rfl) b o v w
@[simp] theorem Wu (b o : Nat) (v : Value) (w : World) : st P 75 (pt b o) v w = Hn P 75 1 b o v w (hp w b) := CH (by kernel_rfl) b o v w
@[simp] theorem Wv (b o : Nat) (v : Value) (w : World) : st P 77 (pt b o) v w = Hn P 77 4 b o v w (hp w b) := CH (by kernel_rfl) b o v w
@[simp] theorem Ww (b o : Nat) (v : Value) (w : World) : st P 79 (pt b o) v w = Hn P 79 1 b o v w (hp w b) := CH (by kernel_rfl) b o v w
@[simp] theorem Wx (b o : Nat) (v : Value) (w : World) : st P 81 (pt b o) v w = Hn P 81 1 b o v w (hp w b) := CH (by kernel_rfl) b o v w
@[simp] theorem Wy (b o : Nat) (v : Value) (w : World) : st P 82 (pt b o) v w = Hn P 82 1 b o v w (hp w b) := CH (by kernel_rfl) b o v w
@[simp] theorem Wz (b o : Nat) (v : Value) (w : World) : st P 84 (pt b o) v w = Hn P 84 6 b o v w (hp w b) := CH (by kernel_rfl) b o v w
@[simp] theorem WA (b o : Nat) (v : Value) (w : World) : st P 86 (pt b o) v w = Hn P 86 2 b o v w (hp w b) := CH (by kernel_rfl) b o v w
@[simp] theorem WK (b o : Nat) (v : Value) (w : World) : st P 9 (pt b o) v w = Hn P 9 1 b o v w (hp w b) := CH (by kernel_rfl) b o v w
theorem Rc : CG P 38 = some [(.int .i64 0), (.int .i64 0), (.int .i64 0), (.int .i64 0), (.int .i64 0)] := by kernel_rfl
theorem Gt : CG P 36 = some [(.int .i64 0), (.int .i64 0)] := by kernel_rfl
theorem Ed : CG P 49 = some [(.int .i64 0), (.int .i64 0), (.int .i64 0), (Go.Value.slice none 0 0), (Go.Value.string { data := #[] }), (.bool false)] := by kernel_rfl
theorem SF : CG P 84 = some [(.int .i64 0), (.int .i64 0), (Go.Value.slice none 0 0), (Go.Value.slice none 0 0), (Go.Value.slice none 0 0), (.bool false)] := by kernel_rfl
theorem Re : CG P 129 = some [(.int .i64 0), (Go.Value.slice none 0 0), (.int .i64 0), (.int .i64 0), (.int .i64 0)] := by kernel_rfl
theorem NN : CG P 131 = some [(.int .i64 0), (.int .i64 0), (.int .i64 0), (.int .i64 0), (.int .i64 0), (.int .i64 0), (Go.Value.slice none 0 0), (Go.Value.string { data := #[] }), (.bool false)] := by kernel_rfl
theorem OB : CG P 86 = some [(Go.Value.slice none 0 0), (Go.Value.slice none 0 0)] := by kernel_rfl
theorem Rf : CG P 42 = some [(Go.Value.slice none 0 0)] := by kernel_rfl
theorem Rg : CG P 137 = some [(.int .i64 0), (.int .i64 0), (.int .i64 0), (.int .i64 0), (Go.Value.string { data := #[] }), (.bool false)] := by kernel_rfl
@[simp] theorem Tb (n1 : Int) (a2 : Option Addr) (l2 c2 : Nat) (w : World) : bd P 129 #[(0, (.int .i64 n1)), (1, (.agg #[.slice a2 l2 c2]))] w = some (.agg #[.int .i64 n1, .slice a2 l2 c2, (.int .i64 0), (.int .i64 0), (.int .i64 0)], w) := Ca (by kernel_rfl)
@[simp] theorem Rh (n1 : Int) (n2 : Int) (n3 : Int) (n4 : Int) (n5 : Int) (n6 : Int) (a7 : Option Addr) (l7 c7 : Nat) (s8 : ByteArray) (b9 : Bool) (w : World) : bd P 131 #[(0, (.int .i64 n1)), (1, (.int .i64 n2)), (2, (.int .i64 n3)), (3, (.agg #[.int .i64 n4, .int .i64 n5, .int .i64 n6, .slice a7 l7 c7, .string s8, .bool b9]))] w = some (.agg #[.int .i64 n1, .int .i64 n2, .int .i64 n3, .int .i64 n4, .int .i64 n5, .int .i64 n6, .slice a7 l7 c7, .string s8, .bool b9], w) := Ca (by kernel_rfl)
@[simp] theorem Tc (n1 : Int) (n2 : Int) (w : World) : bd P 137 #[(0, (.int .i64 n1)), (1, (.int .i64 n2))] w = some (.agg #[.int .i64 n1, .int .i64 n2, (.int .i64 0), (.int .i64 0), (Go.Value.string { data := #[] }), (.bool false)], w) := Ca (by kernel_rfl)
@[simp] theorem Sd (n1 : Int) (n2 : Int) (n3 : Int) (w : World) : bd P 137 #[(0, (.int .i64 n1)), (1, (.int .i64 n2)), (2, (.int .i64 n3))] w = some (.agg #[.int .i64 n1, .int .i64 n2, .int .i64 n3, (.int .i64 0), (Go.Value.string { data := #[] }), (.bool false)], w) := Ca (by kernel_rfl)
@[simp] theorem Ri (n1 : Int) (n2 : Int) (n3 : Int) (n4 : Int) (w : World) : bd P 137 #[(0, (.int .i64 n1)), (1, (.int .i64 n2)), (2, (.int .i64 n3)), (3, (.int .i64 n4))] w = some (.agg #[.int .i64 n1, .int .i64 n2, .int .i64 n3, .int .i64 n4, (Go.Value.string { data := #[] }), (.bool false)], w) := Ca (by kernel_rfl)
@[simp] theorem Rj (n1 : Int) (n2 : Int) (n3 : Int) (s4 : ByteArray) (w : World) : bd P 137 #[(0, (.int .i64 n1)), (1, (.int .i64 n2)), (3, (.int .i64 n3)), (4, (.string s4))] w = some (.agg #[.int .i64 n1, .int .i64 n2, (.int .i64 0), .int .i64 n3, .string s4, (.bool false)], w) := Ca (by kernel_rfl)
@[simp] theorem Rk (n1 : Int) (n2 : Int) (n3 : Int) (b4 : Bool) (w : World) : bd P 137 #[(0, (.int .i64 n1)), (1, (.int .i64 n2)), (3, (.int .i64 n3)), (5, (.bool b4))] w = some (.agg #[.int .i64 n1, .int .i64 n2, (.int .i64 0), .int .i64 n3, (Go.Value.string { data := #[] }), .bool b4], w) := Ca (by kernel_rfl)
@[simp] theorem VB  (w : World) : bd P 32 #[] w = some (.agg #[(Go.Value.slice none 0 0)], w) := Ca (by kernel_rfl)
@[simp] theorem U6 (a1 : Option Addr) (l1 c1 : Nat) (w : World) : bd P 32 #[(0, (.slice a1 l1 c1))] w = some (.agg #[.slice a1 l1 c1], w) := Ca (by kernel_rfl)
@[simp] theorem VC  (w : World) : bd P 36 #[] w = some (.agg #[(.int .i64 0), (.int .i64 0)], w) := Ca (by kernel_rfl)
@[simp] theorem TI (n1 : Int) (n2 : Int) (w : World) : bd P 36 #[(0, (.int .i64 n1)), (1, (.int .i64 n2))] w = some (.agg #[.int .i64 n1, .int .i64 n2], w) := Ca (by kernel_rfl)
@[simp] theorem RL (n1 : Int) (n2 : Int) (n3 : Int) (n4 : Int) (n5 : Int) (w : World) : bd P 38 #[(0, (.int .i64 n1)), (1, (.int .i64 n2)), (2, (.int .i64 n3)), (3, (.agg #[.int .i64 n4, .int .i64 n5]))] w = some (.agg #[.int .i64 n1, .int .i64 n2, .int .i64 n3, .int .i64 n4, .int .i64 n5], w) := Ca (by kernel_rfl)
@[simp] theorem VD  (w : World) : bd P 44 #[] w = some (.agg #[(Go.Value.slice none 0 0)], w) := Ca (by kernel_rfl)
@[simp] theorem U7 (a1 : Option Addr) (l1 c1 : Nat) (w : World) : bd P 44 #[(0, (.slice a1 l1 c1))] w = some (.agg #[.slice a1 l1 c1], w) := Ca (by kernel_rfl)
@[simp] theorem VE  (w : World) : bd P 49 #[] w = some (.agg #[(.int .i64 0), (.int .i64 0), (.int .i64 0), (Go.Value.slice none 0 0), (Go.Value.string { data := #[] }), (.bool false)], w) := Ca (by kernel_rfl)
@[simp] theorem Qx (n1 : Int) (n2 : Int) (n3 : Int) (a4 : Option Addr) (l4 c4 : Nat) (s5 : ByteArray) (b6 : Bool) (w : World) : bd P 49 #[(0, (.int .i64 n1)), (1, (.agg #[.int .i64 n2, .int .i64 n3])), (2, (.agg #[.slice a4 l4 c4])), (3, (.string s5)), (4, (.bool b6))] w = some (.agg #[.int .i64 n1, .int .i64 n2, .int .i64 n3, .slice a4 l4 c4, .string s5, .bool b6], w) := Ca (by kernel_rfl)
@[simp] theorem SG (n1 : Int) (a2 : Option Addr) (l2 c2 : Nat) (s3 : ByteArray) (w : World) : bd P 49 #[(0, (.int .i64 n1)), (2, (.agg #[.slice a2 l2 c2])), (3, (.string s3))] w = some (.agg #[.int .i64 n1, (.int .i64 0), (.int .i64 0), .slice a2 l2 c2, .string s3, (.bool false)], w) := Ca (by kernel_rfl)
@[simp] theorem U8 (s1 : ByteArray) (w : World) : bd P 49 #[(3, (.string s1))] w = some (.agg #[(.int .i64 0), (.int .i64 0), (.int .i64 0), (Go.Value.slice none 0 0), .string s1, (.bool false)], w) := Ca (by kernel_rfl)
@[simp] theorem VF  (w : World) : bd P 77 #[] w = some (.agg #[(Go.Value.slice none 0 0), (Go.Value.slice none 0 0), (Go.Value.slice none 0 0), (Go.Value.slice none 0 0)], w) := Ca (by kernel_rfl)
@[simp] theorem U9 (a1 : Option Addr) (l1 c1 : Nat) (w : World) : bd P 77 #[(3, (.slice a1 l1 c1))] w = some (.agg #[(Go.Value.slice none 0 0), (Go.Value.slice none 0 0), (Go.Value.slice none 0 0), .slice a1 l1 c1], w) := Ca (by kernel_rfl)
@[simp] theorem VG  (w : World) : bd P 81 #[] w = some (.agg #[(Go.Value.slice none 0 0)], w) := Ca (by kernel_rfl)
@[simp] theorem Qy (n1 : Int) (n2 : Int) (b3 : Bool) (a4 : Option Addr) (l4 c4 : Nat) (a5 : Option Addr) (l5 c5 : Nat) (w : World) : bd P 84 #[(0, (.int .i64 n1)), (1, (.int .i64 n2)), (5, (.bool b3)), (2, (.agg #[.slice a4 l4 c4])), (3, (.slice a5 l5 c5))] w = some (.agg #[.int .i64 n1, .int .i64 n2, .slice a4 l4 c4, .slice a5 l5 c5, (Go.Value.slice none 0 0), .bool b3], w) := Ca (by kernel_rfl)
@[simp] theorem SH (n1 : Int) (a2 : Option Addr) (l2 c2 : Nat) (a3 : Option Addr) (l3 c3 : Nat) (w : World) : bd P 84 #[(0, (.int .i64 n1)), (2, (.agg #[.slice a2 l2 c2])), (4, (.slice a3 l3 c3))] w = some (.agg #[.int .i64 n1, (.int .i64 0), .slice a2 l2 c2, (Go.Value.slice none 0 0), .slice a3 l3 c3, (.bool false)], w) := Ca (by kernel_rfl)
@[simp] theorem Va (a1 : Option Addr) (l1 c1 : Nat) (w : World) : bd P 86 #[(0, (.agg #[.slice a1 l1 c1]))] w = some (.agg #[.slice a1 l1 c1, (Go.Value.slice none 0 0)], w) := Ca (by kernel_rfl)
@[simp] theorem Vb (a1 : Option Addr) (l1 c1 : Nat) (w : World) : bd P 93 #[(0, (.slice a1 l1 c1))] w = some (.agg #[.slice a1 l1 c1, (.int .i64 0)], w) := Ca (by kernel_rfl)
@[simp] theorem Vc (w : World) : bs P 23 0 #[] w = some (.slice (some ⟨w.heap.size, 0, none⟩) 0 0, w.alloc (.cells #[] 38)) := Hm (n := 5) (by kernel_rfl) (by kernel_rfl) w
@[simp] theorem TJ (n1 : Int) (n2 : Int) (n3 : Int) (n4 : Int) (n5 : Int) (w : World) : bs P 23 1 #[(0, (.agg #[.int .i64 n1, .int .i64 n2, .int .i64 n3, .int .i64 n4, .int .i64 n5]))] w = some (.slice (some ⟨w.heap.size, 0, none⟩) 1 1, w.alloc (.cells #[.int .i64 n1, .int .i64 n2, .int .i64 n3, .int .i64 n4, .int .i64 n5] 38)) := FD (by kernel_rfl)
@[simp] theorem Vd (w : World) : bs P 30 0 #[] w = some (.slice (some ⟨w.heap.size, 0, none⟩) 0 0, w.alloc (.cells #[] 36)) := Hm (n := 2) (by kernel_rfl) (by kernel_rfl) w
@[simp] theorem TK (n1 : Int) (n2 : Int) (w : World) : bs P 30 1 #[(0, (.agg #[.int .i64 n1, .int .i64 n2]))] w = some (.slice (some ⟨w.heap.size, 0, none⟩) 1 1, w.alloc (.cells #[.int .i64 n1, .int .i64 n2] 36)) := FD (by kernel_rfl)
@[simp] theorem Ve (w : World) : bs P 42 0 #[] w = some (.slice (some ⟨w.heap.size, 0, none⟩) 0 0, w.alloc (.cells #[] 49)) := Hm (n := 6) (by kernel_rfl) (by kernel_rfl) w
@[simp] theorem TL (n1 : Int) (n2 : Int) (n3 : Int) (a4 : Option Addr) (l4 c4 : Nat) (s5 : ByteArray) (b6 : Bool) (w : World) : bs P 42 1 #[(0, (.agg #[.int .i64 n1, .int .i64 n2, .int .i64 n3, .slice a4 l4 c4, .string s5, .bool b6]))] w = some (.slice (some ⟨w.heap.size, 0, none⟩) 1 1, w.alloc (.cells #[.int .i64 n1, .int .i64 n2, .int .i64 n3, .slice a4 l4 c4, .string s5, .bool b6] 49)) := FD (by kernel_rfl)
@[simp] theorem SI (n1 : Int) (n2 : Int) (w : World) : bs P 64 2 #[(0, (.int .i64 n1)), (1, (.int .i64 n2))] w = some (.slice (some ⟨w.heap.size, 0, none⟩) 2 2, w.alloc (.cells #[.int .i64 n1, .int .i64 n2] 3)) := FD (by kernel_rfl)
@[simp] theorem Qz (n1 : Int) (n2 : Int) (n3 : Int) (n4 : Int) (w : World) : bs P 64 4 #[(0, (.int .i64 n1)), (1, (.int .i64 n2)), (2, (.int .i64 n3)), (3, (.int .i64 n4))] w = some (.slice (some ⟨w.heap.size, 0, none⟩) 4 4, w.alloc (.cells #[.int .i64 n1, .int .i64 n2, .int .i64 n3, .int .i64 n4] 3)) := FD (by kernel_rfl)
@[simp] theorem NZ (n1 : Int) (n2 : Int) (n3 : Int) (n4 : Int) (n5 : Int) (n6 : Int) (n7 : Int) (w : World) : bs P 64 7 #[(0, (.int .i64 n1)), (1, (.int .i64 n2)), (2, (.int .i64 n3)), (3, (.int .i64 n4)), (4, (.int .i64 n5)), (5, (.int .i64 n6)), (6, (.int .i64 n7))] w = some (.slice (some ⟨w.heap.size, 0, none⟩) 7 7, w.alloc (.cells #[.int .i64 n1, .int .i64 n2, .int .i64 n3, .int .i64 n4, .int .i64 n5, .int .i64 n6, .int .i64 n7] 3)) := FD (by kernel_rfl)
@[simp] theorem TM (n1 : Int) (n2 : Int) (a3 : Option Addr) (l3 c3 : Nat) (a4 : Option Addr) (l4 c4 : Nat) (a5 : Option Addr) (l5 c5 : Nat) (b6 : Bool) (w : World) : bs P 73 1 #[(0, (.agg #[.int .i64 n1, .int .i64 n2, .slice a3 l3 c3, .slice a4 l4 c4, .slice a5 l5 c5, .bool b6]))] w = some (.slice (some ⟨w.heap.size, 0, none⟩) 1 1, w.alloc (.cells #[.int .i64 n1, .int .i64 n2, .slice a3 l3 c3, .slice a4 l4 c4, .slice a5 l5 c5, .bool b6] 84)) := FD (by kernel_rfl)
@[simp] theorem TN (n1 : Int) (a2 : Option Addr) (l2 c2 : Nat) (n3 : Int) (n4 : Int) (n5 : Int) (w : World) : bs P 74 1 #[(0, (.agg #[.int .i64 n1, .slice a2 l2 c2, .int .i64 n3, .int .i64 n4, .int .i64 n5]))] w = some (.slice (some ⟨w.heap.size, 0, none⟩) 1 1, w.alloc (.cells #[.int .i64 n1, .slice a2 l2 c2, .int .i64 n3, .int .i64 n4, .int .i64 n5] 129)) := FD (by kernel_rfl)
@[simp] theorem Vf (w : World) : bs P 75 0 #[] w = some (.slice (some ⟨w.heap.size, 0, none⟩) 0 0, w.alloc (.cells #[] 131)) := Hm (n := 9) (by kernel_rfl) (by kernel_rfl) w
@[simp] theorem TO (n1 : Int) (n2 : Int) (n3 : Int) (n4 : Int) (n5 : Int) (n6 : Int) (a7 : Option Addr) (l7 c7 : Nat) (s8 : ByteArray) (b9 : Bool) (w : World) : bs P 75 1 #[(0, (.agg #[.int .i64 n1, .int .i64 n2, .int .i64 n3, .int .i64 n4, .int .i64 n5, .int .i64 n6, .slice a7 l7 c7, .string s8, .bool b9]))] w = some (.slice (some ⟨w.heap.size, 0, none⟩) 1 1, w.alloc (.cells #[.int .i64 n1, .int .i64 n2, .int .i64 n3, .int .i64 n4, .int .i64 n5, .int .i64 n6, .slice a7 l7 c7, .string s8, .bool b9] 131)) := FD (by kernel_rfl)
@[simp] theorem Vg (w : World) : bs P 79 0 #[] w = some (.slice (some ⟨w.heap.size, 0, none⟩) 0 0, w.alloc (.cells #[] 86)) := Hm (n := 2) (by kernel_rfl) (by kernel_rfl) w
@[simp] theorem TP (a1 : Option Addr) (l1 c1 : Nat) (a2 : Option Addr) (l2 c2 : Nat) (w : World) : bs P 79 1 #[(0, (.agg #[.slice a1 l1 c1, .slice a2 l2 c2]))] w = some (.slice (some ⟨w.heap.size, 0, none⟩) 1 1, w.alloc (.cells #[.slice a1 l1 c1, .slice a2 l2 c2] 86)) := FD (by kernel_rfl)
@[simp] theorem TQ (a1 : Option Addr) (l1 c1 : Nat) (w : World) : bs P 82 1 #[(0, (.slice a1 l1 c1))] w = some (.slice (some ⟨w.heap.size, 0, none⟩) 1 1, w.alloc (.cells #[.slice a1 l1 c1] 42)) := FD (by kernel_rfl)
@[simp] theorem Um (w : World) : bs P 109 0 #[] w = some (.slice (some ⟨w.heap.size, 0, none⟩) 0 0, w.alloc (.cells #[] 137)) := Hm (n := 6) (by kernel_rfl) (by kernel_rfl) w
@[simp] theorem Td (n1 : Int) (n2 : Int) (n3 : Int) (n4 : Int) (s5 : ByteArray) (b6 : Bool) (w : World) : bs P 109 1 #[(0, (.agg #[.int .i64 n1, .int .i64 n2, .int .i64 n3, .int .i64 n4, .string s5, .bool b6]))] w = some (.slice (some ⟨w.heap.size, 0, none⟩) 1 1, w.alloc (.cells #[.int .i64 n1, .int .i64 n2, .int .i64 n3, .int .i64 n4, .string s5, .bool b6] 137)) := FD (by kernel_rfl)
@[simp] theorem Rl (s1 : ByteArray) (s2 : ByteArray) (s3 : ByteArray) (w : World) : bs P 140 3 #[(0, (.string s1)), (1, (.string s2)), (2, (.string s3))] w = some (.slice (some ⟨w.heap.size, 0, none⟩) 3 3, w.alloc (.cells #[.string s1, .string s2, .string s3] 9)) := FD (by kernel_rfl)
@[simp] theorem MG (s1 : ByteArray) (s2 : ByteArray) (s3 : ByteArray) (s4 : ByteArray) (s5 : ByteArray) (s6 : ByteArray) (s7 : ByteArray) (s8 : ByteArray) (w : World) : bs P 140 8 #[(0, (.string s1)), (1, (.string s2)), (2, (.string s3)), (3, (.string s4)), (4, (.string s5)), (5, (.string s6)), (6, (.string s7)), (7, (.string s8))] w = some (.slice (some ⟨w.heap.size, 0, none⟩) 8 8, w.alloc (.cells #[.string s1, .string s2, .string s3, .string s4, .string s5, .string s6, .string s7, .string s8] 9)) := FD (by kernel_rfl)
@[simp] theorem VH (n : Int) (w : World) : cv P 5 3 (.int .u8 n) w = some (.int .i64 (IntKind.wrap .i64 n), w) := Ty (by kernel_rfl) (by kernel_rfl) _ n w
attribute [simp ↓] VI Uq Ur Ry Ts Tt Tu Tv Us Tw Tx
attribute [simp] Uo Th Ti Tj Tk Tl Tm Tn To Tp Pg Ph Tq Tr Rt World.size_alloc size_setRow J8 Qr Pk NU OL MO Qs LO Pl Ut Ac Bg Rr Rs Ab Aa NS NT Pj Bt Sj Ru Rv Qq DQ Value.oneCell'
end Go.Proofs.YtjhhommnkaemlaaGreat.X
