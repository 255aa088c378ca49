/- The pure statement of the law HeaderChecks: for all arguments as Go can hand them in, the printed law answers true. -/
import Derived.Test.YtjhijdkliepkpaaHeadHdr
import Derived.Test.YtjhijdkliepkpaaWLast
import Derived.Test.YtjhijdkliepkpaaPHdrx7
set_option linter.unusedVariables false
namespace Go.Proofs.Ytjhijdkliepkpaa.Pure
open Go.RowKit Go.Proofs.Ytjhijdkliepkpaa.PHdr Go.Proofs.Ytjhijdkliepkpaa.Base Go.Proofs.Ytjhijdkliepkpaa.HeadHdr Go.Proofs.YtjhijdkliepkpaaW.PrintWords Go.Proofs.YtjhijdkliepkpaaW.PrintLast
theorem laid_eq (k : Nat) : fettlelaw07_laid.f (k + 10) = some true := at_rounds fettlelaw07_laid.mono (by omega) laid10
theorem HeaderChecks : fettlelaw07_HeaderChecks.Pure := by
  intro b s h j k hb hs hh hj
  have hs := wf_i64.1 hs
  refine ⟨40, ?_⟩
  unfold fettlelaw07_HeaderChecks.f fettlelaw07_of.f
  rw [laid_eq 30]
  simp only [obind, if_true]
  rw [Check_eq b s h j k hs.1 hs.2 36, rCheck_eq b s h j k hs.1 hs.2 20]
  simp only [obind]
  simp
end Go.Proofs.Ytjhijdkliepkpaa.Pure
