/- The pure statement of the law MapsDecodes: for all arguments as Go can hand them in, the printed law answers true. -/
import Derived.Test.YtjhijdkliepkpaaMapEMap
import Derived.Test.YtjhijdkliepkpaaPMapx5
set_option linter.unusedVariables false
set_option linter.unusedSimpArgs false
namespace Go.Proofs.Ytjhijdkliepkpaa.Pure
open Go.RowKit Go.Proofs.Ytjhijdkliepkpaa.PMap Go.Proofs.Ytjhijdkliepkpaa.Base Go.Proofs.Ytjhijdkliepkpaa.MapEMap Go.Proofs.YtjhijdkliepkpaaW.PrintWords Go.Proofs.YtjhijdkliepkpaaW.PrintLast
theorem MapsDecodes : fettlelaw09_MapsDecodes.Pure := by
  intro v hv
  have hv := wf_u64.1 hv
  refine ⟨20, ?_⟩
  unfold fettlelaw09_MapsDecodes.f fettlelaw09_of.f
  rw [Decode_eq 16 v hv.1 hv.2, rDecode_eq v hv.1 hv.2]
  simp only [obind]
  unfold rdecv
  by_cases h : (decv v).2.2.2 = 0
  · rw [h]
    simp only [decide_true, beq_self_eq_true, bne_self_eq_false, Bool.not_true, Bool.or_false, Bool.false_eq_true, if_false, if_true]
    rw [fettlelaw09_MapsDecodes.j0, if_neg (by simp), Encode_eq 16, enc_dec hv.1 hv.2 h]
    simp only [obind]
    rw [coded_eq 9]
    simp
  · rw [decv_bad h]
    simp only [show ((11 : Int) == 0) = false from rfl, show decide ((11 : Int) = 0) = false from rfl, show ((11 : Int) != 11) = false from rfl, beq_self_eq_true, bne_self_eq_false, Bool.not_true, Bool.or_false, Bool.false_eq_true, if_false, if_true]
    rw [fettlelaw09_MapsDecodes.j0, if_neg (by simp), Encode_eq 16]
    simp only [obind]
    rw [coded_eq 9]
    simp
end Go.Proofs.Ytjhijdkliepkpaa.Pure
