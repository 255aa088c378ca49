/- The pure statement of the law HeaderLeasts: for all arguments as Go can hand them in, the printed law answers true. -/
import Derived.Test.YtjhijdkliepkpaaHeadLst
import Derived.Test.YtjhijdkliepkpaaPLstx5
set_option linter.unusedVariables false
set_option linter.unusedSimpArgs false
namespace Go.Proofs.Ytjhijdkliepkpaa.Pure
open Go.RowKit Go.Proofs.Ytjhijdkliepkpaa.PLst Go.Proofs.Ytjhijdkliepkpaa.Base Go.Proofs.Ytjhijdkliepkpaa.HeadP Go.Proofs.Ytjhijdkliepkpaa.HeadLst Go.Proofs.YtjhijdkliepkpaaW.PrintWords Go.Proofs.YtjhijdkliepkpaaW.PrintLast
theorem laid_eq (k : Nat) : fettlelaw07_laid.f (k + 10) = some true := at_rounds fettlelaw07_laid.mono (by omega) laid10
theorem clp_id {x m : Int} (h0 : 0 ≤ x) (h1 : x ≤ m) : clp x m = x := by unfold clp; rw [if_neg (show ¬ x < 0 by omega), if_neg (show ¬ x > m by omega)]
theorem leasts_key (B S H : Int) (hB : 9 ≤ B ∧ B ≤ 12) (hS : 512 ≤ S ∧ S ≤ 1024000) (hS2 : S % 512 = 0) (hH : 200 ≤ H ∧ H ≤ 699) (hF : at5 B H (leastn B H) ≤ H) :
    checkn B S H (leastn B H) = 0 ∧ checkn B S H (leastn B H - 1) = 11 ∧ (leastn B (at5 B H (leastn B H) - 1) = leastn B H → checkn B S (at5 B H (leastn B H) - 1) (leastn B H) = 11) := by
  have hL := leastn_range B H
  have hR := refsn_range B H
  have hG : guestn B S ≤ csz B / 8 * (csz B / 8) := by
    unfold guestn upn
    rw [clp_id (by omega) (by omega)]
    rcases csz_cases B with e | e | e | e <;> rw [e] <;> omega
  have hF5 : at5 B H (leastn B H) = leastn B H + refsn B H + 3 := by unfold at5 at3 at2; rw [clp_id hL.1 (by omega)]; omega
  have hls : ∀ H', leastn B H' = refsn B H' + leastn B 0 := by
    intro H'
    have h0 : refsn B 0 = 0 := by unfold refsn upn; rcases csz_cases B with e | e | e | e <;> rw [e] <;> decide
    unfold leastn upn
    rw [h0]
    rcases csz_cases B with e | e | e | e <;> rw [e] <;> omega
  have hm : ∀ x, x ≤ 699 → ¬ (4194304 < x * csz B) := by
    intro x hx
    rcases csz_cases B with e | e | e | e <;> rw [e] <;> omega
  refine ⟨?_, ?_, fun hq => ?_⟩
  · unfold checkn
    rw [if_neg (show ¬ (B < 9 ∨ 12 < B) by omega), if_neg (show ¬ (S < 512 ∨ 16777216 < S ∨ S % 512 ≠ 0) by omega), if_neg (show ¬ (csz B / 8 * (csz B / 8) < guestn B S) by omega), if_neg (show ¬ (H < 1 ∨ 8192 < H ∨ 4194304 < H * csz B) from fun h => by have := hm H hH.2; omega), if_neg (show ¬ (leastn B H < leastn B H ∨ 8192 < leastn B H ∨ H < at5 B H (leastn B H)) by omega)]
  · unfold checkn
    rw [if_neg (show ¬ (B < 9 ∨ 12 < B) by omega), if_neg (show ¬ (S < 512 ∨ 16777216 < S ∨ S % 512 ≠ 0) by omega), if_neg (show ¬ (csz B / 8 * (csz B / 8) < guestn B S) by omega), if_neg (show ¬ (H < 1 ∨ 8192 < H ∨ 4194304 < H * csz B) from fun h => by have := hm H hH.2; omega), if_pos (show (leastn B H - 1 < leastn B H ∨ 8192 < leastn B H - 1 ∨ H < at5 B H (leastn B H - 1)) by omega)]
  · have hF' : at5 B (at5 B H (leastn B H) - 1) (leastn B H) = leastn B H + refsn B (at5 B H (leastn B H) - 1) + 3 := by
      generalize at5 B H (leastn B H) - 1 = H'
      unfold at5 at3 at2; rw [clp_id hL.1 (by omega)]; omega
    have h1 := hls H
    have h2 := hls (at5 B H (leastn B H) - 1)
    have h4 := hm (at5 B H (leastn B H) - 1) (by omega)
    unfold checkn
    rw [if_neg (show ¬ (B < 9 ∨ 12 < B) by omega), if_neg (show ¬ (S < 512 ∨ 16777216 < S ∨ S % 512 ≠ 0) by omega), if_neg (show ¬ (csz B / 8 * (csz B / 8) < guestn B S) by omega)]
    split
    · rename_i h; omega
    · rw [if_pos (by omega)]
theorem HeaderLeasts : fettlelaw07_HeaderLeasts.Pure := by
  intro x0 x1 x2 h0 h1 h2
  refine ⟨30, ?_⟩
  have e0 : wrap64 (9 + wrap64 (Int.tmod (IntKind.u64.wrap x0) 4)) = 9 + x0 % 18446744073709551616 % 4 := by
    rw [wu64, Int.tmod_eq_emod_of_nonneg (by omega), w64 (x := x0 % 18446744073709551616 % 4) (by omega) (by omega), w64 (by omega) (by omega)]
  have e1 : wrap64 (512 * wrap64 (1 + wrap64 (Int.tmod (IntKind.u64.wrap x1) 2000))) = 512 * (1 + x1 % 18446744073709551616 % 2000) := by
    rw [wu64, Int.tmod_eq_emod_of_nonneg (by omega), w64 (x := x1 % 18446744073709551616 % 2000) (by omega) (by omega), w64 (x := 1 + x1 % 18446744073709551616 % 2000) (by omega) (by omega), w64 (by omega) (by omega)]
  have e2 : wrap64 (200 + wrap64 (Int.tmod (IntKind.u64.wrap x2) 500)) = 200 + x2 % 18446744073709551616 % 500 := by
    rw [wu64, Int.tmod_eq_emod_of_nonneg (by omega), w64 (x := x2 % 18446744073709551616 % 500) (by omega) (by omega), w64 (by omega) (by omega)]
  unfold fettlelaw07_HeaderLeasts.f
  rw [e0, e1, e2, laid_eq 20]
  simp only [obind, if_true]
  have hB : 9 ≤ 9 + x0 % 18446744073709551616 % 4 ∧ 9 + x0 % 18446744073709551616 % 4 ≤ 12 := by omega
  have hS : 512 ≤ 512 * (1 + x1 % 18446744073709551616 % 2000) ∧ 512 * (1 + x1 % 18446744073709551616 % 2000) ≤ 1024000 := by omega
  have hS2 : 512 * (1 + x1 % 18446744073709551616 % 2000) % 512 = 0 := by omega
  have hH : 200 ≤ 200 + x2 % 18446744073709551616 % 500 ∧ 200 + x2 % 18446744073709551616 % 500 ≤ 699 := by omega
  generalize 9 + x0 % 18446744073709551616 % 4 = B at *
  generalize 512 * (1 + x1 % 18446744073709551616 % 2000) = S at *
  generalize 200 + x2 % 18446744073709551616 % 500 = H at *
  rw [Least_eq B S H 0 false]
  simp only [obind]
  rw [First_eq B S H (leastn B H) false]
  simp only [obind]
  by_cases hF : at5 B H (leastn B H) > H
  · rw [if_pos hF]
  · rw [if_neg hF]
    obtain ⟨k1, k2, k3⟩ := leasts_key B S H hB hS hS2 hH (by omega)
    have hL := leastn_range B H
    have hR := refsn_range B H
    have h5 : 0 ≤ at5 B H (leastn B H) := by have := at_range B H (leastn B H); unfold at5; omega
    rw [w64 (x := at5 B H (leastn B H) - 1) (by omega) (by omega), w64 (x := leastn B H - 1) (by omega) (by omega)]
    simp only [First_eq, Least_eq, obind]
    have E1 := Check_eq B S H (leastn B H) false (by omega) (by omega) 26
    have E2 := Check_eq B S H (leastn B H - 1) false (by omega) (by omega) 26
    have E3 := Check_eq B S (at5 B H (leastn B H) - 1) (leastn B H) false (by omega) (by omega) 26
    rw [show (26 : Nat) + 4 = 30 from rfl] at E1 E2 E3
    rw [E1, E2, E3, k1, k2]
    simp only [obind, if_true]
    split
    · rename_i hq
      rw [k3 hq]
      rfl
    · rfl
end Go.Proofs.Ytjhijdkliepkpaa.Pure
