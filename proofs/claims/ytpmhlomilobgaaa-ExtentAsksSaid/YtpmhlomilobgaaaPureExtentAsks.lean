/- Whether a byte, or a part, is in a set is what the chapter says. -/
import Derived.Test.YtpmhlomilobgaaaExtV
set_option linter.unusedVariables false
set_option linter.unusedSimpArgs false
namespace Go.Proofs.Ytpmhlomilobgaaa.Pure
open Go.RowKit Go.Proofs.Ytpmhlomilobgaaa.PExt Go.Proofs.YtpmhlomilobgaaaW.PrintWords Go.Proofs.YtpmhlomilobgaaaW.PrintLast Go.Proofs.Ytpmhlomilobgaaa.ExtM Go.Proofs.Ytpmhlomilobgaaa.ExtP Go.Proofs.Ytpmhlomilobgaaa.Base
theorem asks_j0 (k : Nat) (s : List S65) (a1 x0 x1 : Int) (b : Bool) (hk : 2000 < k) (hb : b = false → s.length ≤ 30) : fettlelaw03_ExtentAsks.j0 k s a1 b x0 x1 = some true := by
  obtain ⟨k, rfl⟩ : ∃ m, k = m + 1 := ⟨k - 1, by omega⟩
  simp only [fettlelaw03_ExtentAsks.j0]
  cases b with
  | true => rw [if_pos rfl, joined_true (by omega), obind]
  | false =>
    have hs := hb rfl
    rw [if_neg (by simp), joined_true (by omega), obind, if_pos rfl, phas_ok _ (by omega) (by omega), obind, has_ok _ (by omega) (by omega), obind, if_pos (by simp)]
    obtain ⟨L, h1, h2, h3⟩ := covers_ok (s := s) (k := k) ⟨x0, x1⟩ (by omega) (by omega)
    obtain ⟨M, g1, g2, g3⟩ := both_ok (a := [⟨x0, x1⟩]) (b := s) (k := k) 1 (by simp) (by simp) (by omega) (by simp; omega)
    have hLM : L = M := len_iff h2 g2 fun q => by
      rw [h3 q, g3 q, bothP1, mem_cons]
      simp
    subst hLM
    rw [h1, obind, g1, obind]
    congr 1
    rcases L with _ | ⟨y, r⟩
    · rfl
    · simp
      omega
theorem ExtentAsks : fettlelaw03_ExtentAsks.Pure := by
  intro s a1 x0 x1 hl _ _ _ _
  have hl2 : s.length < 9223372036854775808 := by simp only [maxLen] at hl; omega
  refine ⟨s.length + 5000, ?_⟩
  unfold fettlelaw03_ExtentAsks.f
  obtain ⟨b, h1, h2⟩ := light_ok (k := s.length + 5000) hl2 (by omega)
  rw [h1, obind]
  cases b with
  | false =>
    rw [if_neg (by simp)]
    exact asks_j0 _ s a1 x0 x1 true (by omega) (fun h => by cases h)
  | true =>
    rw [if_pos rfl]
    obtain ⟨c, g1, g2⟩ := light_ok (l := [⟨x0, x1⟩, ⟨a1, 0⟩]) (k := s.length + 5000) (by simp) (by simp)
    rw [g1, obind]
    exact asks_j0 _ s a1 x0 x1 (!c) (by omega) (fun _ => (h2 rfl).1)
end Go.Proofs.Ytpmhlomilobgaaa.Pure
