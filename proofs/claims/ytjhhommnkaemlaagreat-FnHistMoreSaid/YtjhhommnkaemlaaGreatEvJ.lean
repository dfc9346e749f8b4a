/- A part of the proof, without conditions. -/
import Derived.Test.YtjhhommnkaemlaaGreatEvI
set_option linter.unusedVariables false
set_option linter.unusedSimpArgs false
set_option linter.deprecated false
namespace Go.Ev
open Go Go.RowKit
def Xf (l : List UInt8) : ByteArray := ⟨l.toArray⟩
theorem OO (l : List UInt8) : (Xf l).size = l.length := by simp [Xf, ByteArray.size]
theorem GR (a b : Nat) : (a : Int).tmod (b : Int) = ((a % b : Nat) : Int) := by
 rw [Int.tmod_eq_emod_of_nonneg (by omega)]; rfl
theorem KZ (a b : Nat) : (a : Int).tdiv (b : Int) = ((a / b : Nat) : Int) := by
 rw [Int.tdiv_eq_ediv_of_nonneg (by omega)]; rfl
theorem OP {v : Value} [One v] : v.oneCell' = true := One.h.2
theorem qz : type_of% (And.intro @World.size_alloc (And.intro @size_setRow (And.intro @Ad (And.intro @List.length_set.{0} (And.intro @Array.length_toList.{0} (And.intro @List.length_cons.{0} (And.intro @List.length_nil.{0} (And.intro @List.length_append.{0} (And.intro @OO (And.intro @List.all_cons.{0} (And.intro @List.all_nil.{0} (And.intro @OP (And.intro @Bool.and_self @Bool.and_true))))))))))))) := And.intro @World.size_alloc (And.intro @size_setRow (And.intro @Ad (And.intro @List.length_set.{0} (And.intro @Array.length_toList.{0} (And.intro @List.length_cons.{0} (And.intro @List.length_nil.{0} (And.intro @List.length_append.{0} (And.intro @OO (And.intro @List.all_cons.{0} (And.intro @List.all_nil.{0} (And.intro @OP (And.intro @Bool.and_self @Bool.and_true))))))))))))
theorem qs : type_of% (And.intro @Ag (And.intro @An (And.intro @Ac (And.intro @wrap_small (And.intro @JZ (And.intro @LS (And.intro @O8 (And.intro @NA (And.intro @O9 (And.intro @Pa (And.intro @VD (And.intro @VE (And.intro @VF @LB))))))))))))) := And.intro @Ag (And.intro @An (And.intro @Ac (And.intro @wrap_small (And.intro @JZ (And.intro @LS (And.intro @O8 (And.intro @NA (And.intro @O9 (And.intro @Pa (And.intro @VD (And.intro @VE (And.intro @VF @LB))))))))))))
theorem qm : type_of% (And.intro @Qp (And.intro @Pe (And.intro @Ky (And.intro @Pf (And.intro @Pg (And.intro @LV (And.intro @NG (And.intro @CR (And.intro @Ja (And.intro @Jb (And.intro @Pb (And.intro @Pc (And.intro @Pd (And.intro @Hc (And.intro @NC (And.intro @ND @Gh)))))))))))))))) := And.intro @Qp (And.intro @Pe (And.intro @Ky (And.intro @Pf (And.intro @Pg (And.intro @LV (And.intro @NG (And.intro @CR (And.intro @Ja (And.intro @Jb (And.intro @Pb (And.intro @Pc (And.intro @Pd (And.intro @Hc (And.intro @NC (And.intro @ND @Gh)))))))))))))))
theorem qk : type_of% (And.intro @Ag (And.intro @Ac @BB)) := And.intro @Ag (And.intro @Ac @BB)
theorem xD {p : Prop} (h : p := by first | assumption | ((try simp only [qz]) <;> omega) | fail) : p := h
theorem xF {p : Prop} (h : p := by first | assumption | ((try simp only [qz, In]) <;> omega) | fail) : p := h
theorem xE {w w' : World} (h : Ext w w' := by (repeat (first | exact Ext.rfl | assumption | (refine Ext.al ?_ _) | (refine Ext.dw ?_) | (refine Ext.set ?_ (by (try simp only [qz]); omega) _) | (refine Ext.tr ?_ (by assumption))))) : Ext w w' := h
theorem xM {S : Nat → Prop} {w w' : World} (h : Mod S w w' := by (repeat (first | exact Mod.rfl | assumption | (refine Mod.al ?_ _) | (refine Mod.SN ?_) | (refine Mod.AL ?_ (by first | (left; (try simp only [qz]); omega) | (right; assumption) | (right; simp; done)) _) | (refine Mod.ex ?_ (by assumption))))) : Mod S w w' := h
theorem xA {p : Prop} (h : p := by first | omega | assumption | rfl | exact congrArg i64 (by omega) | (simp; done) | (simp; omega)) : p := h
theorem xB {p : Prop} (h : p := by (try simp only [qz]); omega) : p := h
theorem xN {p : Prop} (h : p := by (try simp only [In, qz] at *); omega) : p := h
theorem xI {p : Prop} (h : p := by intro x hx h; (try dsimp only at h); (try simp only [In, qz] at *); omega) : p := h
theorem xV {p : Prop} (h : p := by intro b h1 h2; (try dsimp only at h1); (try simp only [In, qz] at *); omega) : p := h
end Go.Ev
