/- The pure statement of the law HeaderPlaces: for all arguments as Go can hand them in, the printed law answers true. -/
import Derived.Test.YtjhijdkliepkpaaHeadPlc
import Derived.Test.YtjhijdkliepkpaaPPlcx7
set_option linter.unusedVariables false
set_option linter.unusedSimpArgs false
namespace Go.Proofs.Ytjhijdkliepkpaa.Pure
open Go.RowKit Go.Proofs.Ytjhijdkliepkpaa.PPlc Go.Proofs.Ytjhijdkliepkpaa.Base Go.Proofs.Ytjhijdkliepkpaa.HeadP Go.Proofs.Ytjhijdkliepkpaa.HeadPlc Go.Proofs.YtjhijdkliepkpaaW.PrintWords Go.Proofs.YtjhijdkliepkpaaW.PrintLast
theorem laid_eq (k : Nat) : fettlelaw07_laid.f (k + 10) = some true := at_rounds fettlelaw07_laid.mono (by omega) laid10
theorem wmul (b x : Int) (h0 : 0 ≤ x) (h1 : x ≤ 100000) : wrap64 (csz b * x) = csz b * x := by
  rcases csz_cases b with e | e | e | e <;> rw [e] <;> unfold wrap64 <;> omega
theorem wdiv8 (b : Int) : wrap64 (Int.tdiv (csz b) 8) = csz b / 8 := by
  rcases csz_cases b with e | e | e | e <;> rw [e] <;> decide +kernel
theorem HeaderPlaces : fettlelaw07_HeaderPlaces.Pure := by
  intro b s h j k hb hs hh hj
  refine ⟨40, ?_⟩
  have hr := at_range b h j
  have A1 : fettleref07_Head_At.f 39 b s h j k 1 = some 1 := by rw [rAt_eq b s h j k 29 1 (by omega)]; simp [atn]
  have A2 : fettleref07_Head_At.f 39 b s h j k 2 = some (at2 j) := by rw [rAt_eq b s h j k 29 2 (by omega)]; simp [atn]
  have A3 : fettleref07_Head_At.f 39 b s h j k 3 = some (at3 b h j) := by rw [rAt_eq b s h j k 29 3 (by omega)]; simp [atn]
  have A4 : fettleref07_Head_At.f 39 b s h j k 4 = some (at3 b h j + 1) := by rw [rAt_eq b s h j k 29 4 (by omega)]; simp [atn]
  have A5 : fettleref07_Head_At.f 39 b s h j k 5 = some (at5 b h j) := by rw [rAt_eq b s h j k 29 5 (by omega)]; simp [atn]
  have A6 : fettleref07_Head_At.f 40 b s h j k 5 = some (at5 b h j) := by rw [rAt_eq b s h j k 30 5 (by omega)]; simp [atn]
  have h5 : 0 ≤ at5 b h j ∧ at5 b h j ≤ 100000 := by unfold at5; omega
  unfold fettlelaw07_HeaderPlaces.f fettlelaw07_of.f
  simp only [obind]
  rw [rCluster_eq b s h j k 34, JournalAt_eq, RefsAt_eq, SnapsAt_eq, TopAt_eq, laid_eq 30, Cluster_eq, Entries_eq, Guest_eq, rGuest_eq b s h j k 34, First_eq, A6, Least_eq, rLeast_eq b s h j k 34]
  simp only [obind, if_true, wdiv8]
  rw [show (40 : Nat) = 39 + 1 from rfl, fettlelaw07_HeaderPlaces.j0, if_neg (show ¬ ((leastn b h != leastn b h) = true) by simp)]
  rw [A1, A2, A3, A4, A5]
  simp only [obind]
  rw [wmul b 1 (by omega) (by omega), wmul b (at2 j) (by omega) (by omega), wmul b (at3 b h j) (by omega) (by omega), wmul b (at3 b h j + 1) (by omega) (by omega), wmul b (at5 b h j) h5.1 h5.2]
  simp
end Go.Proofs.Ytjhijdkliepkpaa.Pure
