/- The pure statement of the law HeaderDecodes: for all arguments as Go can hand them in, the printed law answers true. -/
import Derived.Test.YtpmhlomilobgaaaHCodeHdr
import Derived.Test.YtpmhlomilobgaaaPHdrx11
set_option linter.unusedVariables false
set_option linter.unusedSimpArgs false
namespace Go.Proofs.Ytpmhlomilobgaaa.Pure
open Go.RowKit Go.Proofs.Ytpmhlomilobgaaa.PHdr Go.Proofs.Ytpmhlomilobgaaa.Base Go.Proofs.Ytpmhlomilobgaaa.HeadP Go.Proofs.Ytpmhlomilobgaaa.HeadHdr Go.Proofs.Ytpmhlomilobgaaa.HCodeHdr Go.Proofs.YtpmhlomilobgaaaW.PrintWords Go.Proofs.YtpmhlomilobgaaaW.PrintLast
theorem laid_eq (k : Nat) : fettlelaw07_laid.f (k + 10) = some true := at_rounds fettlelaw07_laid.mono (by omega) laid10
theorem HeaderDecodes : fettlelaw07_HeaderDecodes.Pure := by
  intro l hm hy hw
  have hb := B8.of_wf hw
  refine ⟨150000, ?_⟩
  unfold fettlelaw07_HeaderDecodes.f
  rw [laid_eq 149990]
  by_cases h : (l.length : Int) > 5000
  · rw [if_pos h]; rfl
  · rw [if_neg h, Decode_eq 0 l hb (by omega), rDecode_eq 0 l hb (by omega)]
    simp only [obind, if_true]
    unfold fettlelaw07_of.f
    simp only [obind]
    simp
end Go.Proofs.Ytpmhlomilobgaaa.Pure
