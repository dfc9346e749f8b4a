/- A part of the proof: an evaluator of the model, its laws, and contracts of functions; no condition. -/
import Derived.Test.YthicfemhpnnaaaaGreatEvR
import Derived.Test.YthicfemhpnnaaaaGreatEvT
set_option linter.unusedVariables false
set_option linter.unusedSimpArgs false
set_option maxRecDepth 100000
namespace Go.Proofs.YthicfemhpnnaaaaGreat.X
open Go Go.Ev Go.RowKit
theorem rdTag : Rd P 52 fun _ cs x => cs = tagC x :=
  rd_map (rd_struct Tryz.underlying52 (by kernel_rfl) rfl (rd_cons (n := 1) rfl (by kernel_rfl) (rd_int (k := .i64) Tryz.underlying3) (rd_one (n := 1) rfl (by kernel_rfl) (rd_int (k := .i64) Tryz.underlying3))))
    fun W cs p ⟨c, d, h1, h2, h3⟩ => ⟨⟨p.1, p.2⟩, by rw [h1, h2.1, h3.1]; rfl⟩
theorem rdTagS : Rd P 53 fun W cs ts => ∃ s, cs = [s] ∧ rTags W s ts := rd_tags Tryz.underlying53 (by kernel_rfl) (by kernel_rfl) rdTag
theorem rdPast : Rd P 55 fun W cs ts => ∃ s, cs = [s] ∧ rTags W s ts := rd_struct Tryz.underlying55 (by kernel_rfl) rfl (rd_one (n := 1) rfl (by kernel_rfl) rdTagS)
theorem rdVer : Rd P 57 rVer :=
  rd_map (rd_struct Tryz.underlying57 (by kernel_rfl) rfl (rd_cons (n := 1) rfl (by kernel_rfl) (rd_int (k := .i64) Tryz.underlying3) (rd_cons (n := 2) rfl (by kernel_rfl) rdTag (rd_cons (n := 1) rfl (by kernel_rfl) rdPast
    (rd_cons (n := 1) rfl (by kernel_rfl) (rd_string Tryz.underlying9) (rd_one (n := 1) rfl (by kernel_rfl) (rd_bool Tryz.underlying4)))))))
    fun W cs p ⟨c1, d1, h1, ⟨h2, _⟩, c2, d2, h3, h4, c3, d3, h5, ⟨s, h6, h7⟩, c4, d4, h8, ⟨h9, h10⟩, h11⟩ => ⟨⟨p.1, p.2.1, p.2.2.1, p.2.2.2.1, p.2.2.2.2⟩, s, by rw [h1, h2, h3, h4, h5, h6, h8, h9, h11]; rfl, h7, h10⟩
theorem rdVerS : Rd P 117 fun W cs vs => ∃ s, cs = [s] ∧ rVers W s vs := rd_vers Tryz.underlying117 (by kernel_rfl) (by kernel_rfl) rdVer
theorem rdStore : Rd P 119 fun W cs vs => ∃ s, cs = [s] ∧ rVers W s vs := rd_struct Tryz.underlying119 (by kernel_rfl) rfl (rd_one (n := 1) rfl (by kernel_rfl) rdVerS)
end Go.Proofs.YthicfemhpnnaaaaGreat.X
