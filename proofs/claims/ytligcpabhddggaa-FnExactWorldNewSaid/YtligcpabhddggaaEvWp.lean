/- A part of the proof: an evaluator of the model, its laws, and contracts of functions; no condition. -/
import Derived.Test.YtligcpabhddggaaEvWo
import Derived.Test.YtligcpabhddggaaEvLv
import Derived.Test.YtligcpabhddggaaEvV
import Derived.Test.YtligcpabhddggaaEvI
set_option linter.unusedVariables false
set_option linter.unusedSimpArgs false
namespace Go.Ev
open Go Go.RowKit
theorem At.nw {w : World} {cs : List Value} {E : TypeId} {n : Nat} (h : n = w.heap.size) : At (w.alloc (.cells cs.toArray E)) n 0 cs := by
  subst h
  exact At.new
section
variable {α : Type} {L : Lay α} {S : Nat → Prop} {w : World} {cs : List Value} {E mx : Nat} {P : Program}
end
/-! ### A world's elements taken out and put back -/
section
variable {E F N G A B C H : TypeId} {S : Nat → Prop} {w : World} {cs : List Value} {x : WorldD}
theorem Parts.keep {s t u v : Value} {S1 S2 S3 S4 : Nat → Prop} {w' : World} (P : Parts E F N G A B C H w x s t u v S1 S2 S3 S4) (hl : ∀ b, (S1 b ∨ S2 b ∨ S3 b ∨ S4 b) → b < w.heap.size) (k : ∀ b, (S1 b ∨ S2 b ∨ S3 b ∨ S4 b) → hp w' b = hp w b) : Parts E F N G A B C H w' x s t u v S1 S2 S3 S4 :=
  ⟨P.o1.keep fun b hb _ => k b (.inl hb), P.o2.keep fun b hb _ => k b (.inr (.inl hb)), P.o3.keep fun b hb _ => k b (.inr (.inr (.inl hb))), P.o4.keep fun b hb _ => k b (.inr (.inr (.inr hb))),
    fun b _ q q' => P.d12 b (hl b (.inl q)) q q', fun b _ q q' => P.d13 b (hl b (.inl q)) q q', fun b _ q q' => P.d14 b (hl b (.inl q)) q q', fun b _ q q' => P.d23 b (hl b (.inr (.inl q))) q q', fun b _ q q' => P.d24 b (hl b (.inr (.inl q))) q q', fun b _ q q' => P.d34 b (hl b (.inr (.inr (.inl q)))) q q'⟩
end
/-! ### Events -/
structure EventD where
  kind : Int
  at' : Int
  num : Int
  key : Int
  text : ByteArray
  gone : Bool
section
variable {S : Nat → Prop} {w : World} {cs : List Value} {x : EventD}
end
end Go.Ev
