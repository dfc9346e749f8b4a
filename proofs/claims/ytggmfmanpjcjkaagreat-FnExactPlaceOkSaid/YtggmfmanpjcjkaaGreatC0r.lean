/- A part of the proof: an evaluator of the model, its laws, and contracts of functions; no condition. -/
import Derived.Test.YtggmfmanpjcjkaaGreatEvR
import Derived.Test.YtggmfmanpjcjkaaGreatEvT
set_option linter.unusedVariables false
set_option linter.unusedSimpArgs false
set_option maxRecDepth 100000
namespace Go.Proofs.YtggmfmanpjcjkaaGreat.X
open Go Go.Ev Go.RowKit
theorem rdTag : Rd P 120 fun _ cs x => cs = tagC x :=
  rd_map (rd_struct Tryz.underlying120 (by kernel_rfl) rfl (rd_cons (n := 1) rfl (by kernel_rfl) (rd_int (k := .i64) Tryz.underlying3) (rd_one (n := 1) rfl (by kernel_rfl) (rd_int (k := .i64) Tryz.underlying3))))
    fun W cs p ⟨c, d, h1, h2, h3⟩ => ⟨⟨p.1, p.2⟩, by rw [h1, h2.1, h3.1]; rfl⟩
theorem rdTagS : Rd P 121 fun W cs ts => ∃ s, cs = [s] ∧ rTags W s ts := rd_tags Tryz.underlying121 (by kernel_rfl) (by kernel_rfl) rdTag
theorem rdPast : Rd P 123 fun W cs ts => ∃ s, cs = [s] ∧ rTags W s ts := rd_struct Tryz.underlying123 (by kernel_rfl) rfl (rd_one (n := 1) rfl (by kernel_rfl) rdTagS)
theorem rdVer : Rd P 125 rVer :=
  rd_map (rd_struct Tryz.underlying125 (by kernel_rfl) rfl (rd_cons (n := 1) rfl (by kernel_rfl) (rd_int (k := .i64) Tryz.underlying3) (rd_cons (n := 2) rfl (by kernel_rfl) rdTag (rd_cons (n := 1) rfl (by kernel_rfl) rdPast
    (rd_cons (n := 1) rfl (by kernel_rfl) (rd_string Tryz.underlying9) (rd_one (n := 1) rfl (by kernel_rfl) (rd_bool Tryz.underlying4)))))))
    fun W cs p ⟨c1, d1, h1, ⟨h2, _⟩, c2, d2, h3, h4, c3, d3, h5, ⟨s, h6, h7⟩, c4, d4, h8, ⟨h9, h10⟩, h11⟩ => ⟨⟨p.1, p.2.1, p.2.2.1, p.2.2.2.1, p.2.2.2.2⟩, s, by rw [h1, h2, h3, h4, h5, h6, h8, h9, h11]; rfl, h7, h10⟩
theorem rdVerS : Rd P 38 fun W cs vs => ∃ s, cs = [s] ∧ rVers W s vs := rd_vers Tryz.underlying38 (by kernel_rfl) (by kernel_rfl) rdVer
theorem rdStore : Rd P 146 fun W cs vs => ∃ s, cs = [s] ∧ rVers W s vs := rd_struct Tryz.underlying146 (by kernel_rfl) rfl (rd_one (n := 1) rfl (by kernel_rfl) rdVerS)
end Go.Proofs.YtggmfmanpjcjkaaGreat.X
