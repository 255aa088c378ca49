import Derived.Test.YtjccknmgmommcaaSxP8
set_option linter.unusedVariables false
set_option linter.unusedSimpArgs false
set_option maxRecDepth 10000
namespace Go.Proofs.Ytjccknmgmommcaa.Sx
/-! ### A replay, cut off anywhere -/
theorem Cr.len {j : JR} {b : List Int} {rs : List RecR} {C : List Int} (hc : JCase j b rs) (h : Cr j b rs C) : b.length ≤ C.length ∧ C.length ≤ endL rs b.length := by
  have := endL_ge rs b.length
  rcases h.2 with ⟨h, _⟩ | ⟨h, _⟩ | ⟨h, _⟩
  · rw [h.1]; exact ⟨Nat.le_refl _, this⟩
  · exact ⟨h.lo, h.hi⟩
  · rw [h.1, doneL_length rs b hc.at_]; exact ⟨this, Nat.le_refl _⟩
end Go.Proofs.Ytjccknmgmommcaa.Sx

