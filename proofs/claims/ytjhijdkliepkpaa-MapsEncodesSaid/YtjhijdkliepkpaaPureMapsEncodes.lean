/- The pure statement of the law MapsEncodes: for all arguments as Go can hand them in, the printed law answers true. -/
import Derived.Test.YtjhijdkliepkpaaMapEMap
import Derived.Test.YtjhijdkliepkpaaPMapx4
set_option linter.unusedVariables false
set_option linter.unusedSimpArgs false
namespace Go.Proofs.Ytjhijdkliepkpaa.Pure
open Go.RowKit Go.Proofs.Ytjhijdkliepkpaa.PMap Go.Proofs.Ytjhijdkliepkpaa.Base Go.Proofs.Ytjhijdkliepkpaa.MapEMap Go.Proofs.YtjhijdkliepkpaaW.PrintWords Go.Proofs.YtjhijdkliepkpaaW.PrintLast
theorem MapsEncodes : fettlelaw09_MapsEncodes.Pure := by
  intro a b c _ _
  refine ⟨20, ?_⟩
  unfold fettlelaw09_MapsEncodes.f fettlelaw09_of.f
  rw [Encode_eq 17]
  simp only [obind]
  rw [rEncode_eq 17]
  simp only [obind]
  have hr := encv_range a b c
  by_cases h : (encv a b c).2 = 0
  · have ho := rencv_ok.2 h
    rw [h, ho]
    simp only [beq_self_eq_true, bne_self_eq_false, Bool.false_eq_true, if_false, if_true]
    rw [fettlelaw09_MapsEncodes.j0, if_neg (by simp), Decode_eq 15 _ hr.1 hr.2, dec_enc h]
    simp only [obind]
    rw [coded_eq 9]
    simp only [obind, if_true]
    rw [rencv_val h]
    simp
  · have ho : (rencv a b c).2 = false := by
      cases e : (rencv a b c).2 with
      | false => rfl
      | true => exact absurd (rencv_ok.1 e) h
    rw [ho, encv_bad h]
    simp only [show ((11 : Int) == 0) = false from rfl, bne_self_eq_false, Bool.false_eq_true, if_false, if_true]
    rw [fettlelaw09_MapsEncodes.j0, if_neg (by simp), Decode_eq 15 _ (by omega) (by omega)]
    simp only [obind]
    rw [coded_eq 9]
    simp
end Go.Proofs.Ytjhijdkliepkpaa.Pure
