/- The pure statement of the law HeaderEncodes: for all arguments as Go can hand them in, the printed law answers true. -/
import Derived.Test.YtpmhlomilobgaaaHCodeHdr
import Derived.Test.YtpmhlomilobgaaaPHdrx13
set_option linter.unusedVariables false
set_option linter.unusedSimpArgs false
namespace Go.Proofs.Ytpmhlomilobgaaa.Pure
open Go.RowKit Go.Proofs.Ytpmhlomilobgaaa.PHdr Go.Proofs.Ytpmhlomilobgaaa.Base Go.Proofs.Ytpmhlomilobgaaa.HeadP Go.Proofs.Ytpmhlomilobgaaa.HeadHdr Go.Proofs.Ytpmhlomilobgaaa.HCodeHdr Go.Proofs.Ytpmhlomilobgaaa.OctRHdr Go.Proofs.YtpmhlomilobgaaaW.PrintWords Go.Proofs.YtpmhlomilobgaaaW.PrintLast
theorem laid_eq (k : Nat) : fettlelaw07_laid.f (k + 10) = some true := at_rounds fettlelaw07_laid.mono (by omega) laid10
theorem HeaderEncodes : fettlelaw07_HeaderEncodes.Pure := by
  intro b s h j k m hb hs hh hj hm hw
  have hs := wf_i64.1 hs
  have hmb : B8 m := B8.of_wf hw
  refine ⟨150000, ?_⟩
  unfold fettlelaw07_HeaderEncodes.f fettlelaw07_of.f
  rw [laid_eq 149990]
  by_cases hl : (m.length : Int) > 500
  · rw [if_pos hl]; rfl
  · rw [if_neg hl, Encode_eq 149980 b s h j k hs.1 hs.2]
    simp only [obind]
    rw [rCheck_eq b s h j k hs.1 hs.2 149980]
    simp only [obind]
    by_cases hc : checkn b s h j = 0
    · have hcs : csz b ≤ 4096 := by rcases csz_cases b with e | e | e | e <;> omega
      have hel := encl_length b s h j k
      rw [if_pos hc, hc]
      simp only [if_true]
      rw [Part_all (by omega)]
      simp only [obind]
      rw [if_pos (by omega), Decode_eq 0 _ ((encl_b8 b s h j k).append hmb) (by rw [List.length_append]; omega), dec_enc hc m]
      simp only [obind, if_true]
      rw [rEncode_eq 149980 b s h j k hc]
      simp only [obind]
      rw [Same_eq (encl_b8 b s h j k) (encl_b8 b s h j k)]
      simp
    · rw [if_neg hc]
      simp [hc]
end Go.Proofs.Ytpmhlomilobgaaa.Pure
