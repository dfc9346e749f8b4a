/- A part of the proof: an evaluator of the model, its laws, and contracts of functions; no condition. -/
import Derived.Test.YtligcpabhddggaaEvI
set_option linter.unusedVariables false
set_option linter.unusedSimpArgs false
namespace Go.Ev
open Go Go.RowKit
/-! ### Texts -/
def bts (l : List UInt8) : ByteArray := ⟨l.toArray⟩
theorem bts_size (l : List UInt8) : (bts l).size = l.length := by simp [bts, ByteArray.size]
/-! ### Short names: many laws in one (simp takes each part) -/
theorem one_cell {v : Value} [One v] : v.oneCell' = true := One.h.2
theorem qz : type_of% (And.intro @World.size_alloc (And.intro @size_setRow (And.intro @dw_size (And.intro @List.length_set.{0} (And.intro @Array.length_toList.{0} (And.intro @List.length_cons.{0} (And.intro @List.length_nil.{0} (And.intro @List.length_append.{0} (And.intro @bts_size (And.intro @List.all_cons.{0} (And.intro @List.all_nil.{0} (And.intro @one_cell (And.intro @Bool.and_self @Bool.and_true))))))))))))) := And.intro @World.size_alloc (And.intro @size_setRow (And.intro @dw_size (And.intro @List.length_set.{0} (And.intro @Array.length_toList.{0} (And.intro @List.length_cons.{0} (And.intro @List.length_nil.{0} (And.intro @List.length_append.{0} (And.intro @bts_size (And.intro @List.all_cons.{0} (And.intro @List.all_nil.{0} (And.intro @one_cell (And.intro @Bool.and_self @Bool.and_true))))))))))))
theorem qs : type_of% (And.intro @hp_alloc_lt (And.intro @hp_alloc_eq (And.intro @hp_set_ne (And.intro @wrap_small (And.intro @ups_ap_cons (And.intro @ups_ap_nil (And.intro @upd_same (And.intro @upd_other (And.intro @env0_ap0 (And.intro @env0_aps (And.intro @xt_a (And.intro @xt_b (And.intro @xt_c @nk_ptr))))))))))))) := And.intro @hp_alloc_lt (And.intro @hp_alloc_eq (And.intro @hp_set_ne (And.intro @wrap_small (And.intro @ups_ap_cons (And.intro @ups_ap_nil (And.intro @upd_same (And.intro @upd_other (And.intro @env0_ap0 (And.intro @env0_aps (And.intro @xt_a (And.intro @xt_b (And.intro @xt_c @nk_ptr))))))))))))
theorem qm : type_of% (And.intro @stR_box (And.intro @stR_boxA (And.intro @stR_row (And.intro @stR_row0 (And.intro @stR_row1 (And.intro @stR_rowA (And.intro @stR_rowA0 (And.intro @splice_rowv (And.intro @splice_rowv0 (And.intro @splice_rowv1 (And.intro @splice_z (And.intro @splice_n (And.intro @splice_s (And.intro @nth_rowv (And.intro @nth_rowv0 (And.intro @nth_rowv1 @rowv_len)))))))))))))))) := And.intro @stR_box (And.intro @stR_boxA (And.intro @stR_row (And.intro @stR_row0 (And.intro @stR_row1 (And.intro @stR_rowA (And.intro @stR_rowA0 (And.intro @splice_rowv (And.intro @splice_rowv0 (And.intro @splice_rowv1 (And.intro @splice_z (And.intro @splice_n (And.intro @splice_s (And.intro @nth_rowv (And.intro @nth_rowv0 (And.intro @nth_rowv1 @rowv_len)))))))))))))))
theorem qk : type_of% (And.intro @hp_alloc_lt (And.intro @hp_set_ne @hp_dw)) := And.intro @hp_alloc_lt (And.intro @hp_set_ne @hp_dw)
end Go.Ev
