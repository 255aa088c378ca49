import Derived.Test.YtjccknmgmommcaaSxP1
set_option linter.unusedVariables false
set_option linter.unusedSimpArgs false
set_option maxRecDepth 10000
namespace Go.Proofs.Ytjccknmgmommcaa.Sx
/-! ### What a file's bytes become -/
/-- Bytes at a place that isn't behind the end. -/
def putG (b : List Int) (p : Nat) (xs : List Int) : List Int := b.take p ++ (xs ++ b.drop (p + xs.length))
theorem putG_length {b : List Int} {p : Nat} {xs : List Int} (h : p ≤ b.length) : (putG b p xs).length = max b.length (p + xs.length) := by
  simp only [putG, List.length_append, List.length_take, List.length_drop]; omega
theorem putG_get {b : List Int} {p : Nat} {xs : List Int} (h : p ≤ b.length) (i : Nat) : (putG b p xs).getD i 0 = if p ≤ i ∧ i < p + xs.length then xs.getD (i - p) 0 else b.getD i 0 := by
  have hl : (b.take p).length = p := by simp only [List.length_take]; omega
  unfold putG
  simp only [List.getD_eq_getElem?_getD]
  by_cases h1 : i < p
  · rw [if_neg (by omega), List.getElem?_append_left (by omega), List.getElem?_take, if_pos h1]
  · rw [List.getElem?_append_right (by omega), hl]
    by_cases h2 : i < p + xs.length
    · rw [if_pos ⟨by omega, h2⟩, List.getElem?_append_left (by omega)]
    · rw [if_neg (by omega), List.getElem?_append_right (by omega), List.getElem?_drop]
      congr 2; omega
end Go.Proofs.Ytjccknmgmommcaa.Sx

