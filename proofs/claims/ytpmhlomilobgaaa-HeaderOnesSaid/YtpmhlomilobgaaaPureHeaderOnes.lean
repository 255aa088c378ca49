/- The pure statement of the law HeaderOnes: for all arguments as Go can hand them in, the printed law answers true. -/
import Derived.Test.YtpmhlomilobgaaaHCodeHdr
import Derived.Test.YtpmhlomilobgaaaPHdrx13
set_option linter.unusedVariables false
set_option linter.unusedSimpArgs false
namespace Go.Proofs.Ytpmhlomilobgaaa.Pure
open Go.RowKit Go.Proofs.Ytpmhlomilobgaaa.PHdr Go.Proofs.Ytpmhlomilobgaaa.Base Go.Proofs.Ytpmhlomilobgaaa.HeadP Go.Proofs.Ytpmhlomilobgaaa.HeadHdr Go.Proofs.Ytpmhlomilobgaaa.HCodeHdr Go.Proofs.Ytpmhlomilobgaaa.OctRHdr Go.Proofs.YtpmhlomilobgaaaW.PrintWords Go.Proofs.YtpmhlomilobgaaaW.PrintLast
theorem laid_eq (k : Nat) : fettlelaw07_laid.f (k + 10) = some true := at_rounds fettlelaw07_laid.mono (by omega) laid10
theorem decn_err (l : List Int) (h : (decn l).2.2.2.2.2 ≠ 0) : decn l = herr (decn l).2.2.2.2.2 := by
  unfold decn herr at *
  split
  · rfl
  · rename_i h1; rw [if_neg h1] at h
    split
    · rfl
    · rename_i h2; rw [if_neg h2] at h
      split
      · rfl
      · rename_i h3; rw [if_neg h3] at h
        split
        · rfl
        · rename_i h4; rw [if_neg h4] at h
          split
          · rfl
          · rename_i h5; rw [if_neg h5] at h
            split
            · rename_i h6; rw [if_pos h6] at h; exact absurd rfl h
            · rfl
theorem HeaderOnes : fettlelaw07_HeaderOnes.Pure := by
  intro l hm hy hw
  have hb := B8.of_wf hw
  refine ⟨150001, ?_⟩
  unfold fettlelaw07_HeaderOnes.f
  rw [laid_eq 149991]
  simp only [obind, if_true]
  rw [fettlelaw07_HeaderOnes.j0]
  by_cases h : (l.length : Int) > 5000
  · rw [decide_eq_true h, if_pos rfl, laid_eq 149990]; rfl
  · rw [decide_eq_false h, if_neg (by simp), Decode_eq 0 l hb (by omega)]
    simp only [obind]
    by_cases he : (decn l).2.2.2.2.2 = 0
    · rcases hd : decn l with ⟨b, s, h1, j, k, e⟩
      rw [hd] at he
      have he' : e = 0 := he
      subst he'
      obtain ⟨hc, hl, ht⟩ := enc_dec hb hd
      have ho := checkn_ok hc
      have hcs : 512 ≤ csz b := by rcases csz_cases b with e | e | e | e <;> omega
      have hel := encl_length b s h1 j k
      simp only [if_true]
      rw [Encode_eq 149980 b s h1 j k (by omega) (by omega), if_pos hc]
      simp only [obind, if_true]
      rw [Cluster_eq]
      simp only [obind]
      rw [if_pos hel, if_pos (by omega), if_pos (by omega), hel, ht, Same_eq (hb.take _) (hb.take _)]
      simp
    · rw [if_neg he, decn_err l he]
      simp [herr]
end Go.Proofs.Ytpmhlomilobgaaa.Pure
