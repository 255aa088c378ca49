import Derived.Test.YtjccknmgmommcaaSxP8
set_option linter.unusedVariables false
set_option linter.unusedSimpArgs false
set_option maxRecDepth 10000
namespace Go.Proofs.Ytjccknmgmommcaa.Sx
/-! ### A replay, cut off anywhere -/
theorem Cr.len {j : JR} {b : List Int} {rs : List RecR} {C : List Int} (hc : JCase j b rs) (h : Cr j b rs C) : b.length ≤ C.length ∧ C.length ≤ endL rs b.length := by
  have := endL_ge rs b.length
  rcases h.2 with ⟨h, _⟩ | ⟨h, _⟩ | ⟨h, _⟩
  · rw [h.1]; exact ⟨Nat.le_refl _, this⟩
  · exact ⟨h.lo, h.hi⟩
  · rw [h.1, doneL_length rs b hc.at_]; exact ⟨this, Nat.le_refl _⟩
theorem replay_cr {j : JR} {b : List Int} {rs : List RecR} {C z : List Int} {s : DF} (hc : JCase j b rs) (hz : z = List.replicate 512 0) (h : Cr j b rs C) (h1 : s.safe = C) (h2 : s.now = C) (h3 : s.items = []) :
    CrS j b rs (s.replay j z).2.2.2 := by
  have cs : CrS j b rs s.asked := fun ks => by
    show Cr j b rs (crashL s.safe s.items ks)
    rw [h1, h3]; exact h
  have hp : j.part s = j.partL C := by unfold JR.part JR.partL; rw [h2]
  unfold DF.replay
  cases hq : (s.pend j).2.1 with
  | none => exact cs
  | some ss =>
    obtain ⟨q1, -, -, -⟩ := DF.pend_ok (by rw [h2]; exact h.1) hq
    rw [hp] at q1
    rcases h.2 with ⟨_, g⟩ | ⟨g1, g2⟩ | ⟨_, g⟩
    · rw [g] at q1; cases q1
    · rw [g2] at q1
      cases q1
      exact (apply_cr (s := s.asked) hc hz g1 g2 h1 h2 h3).1
    · rw [g] at q1; cases q1
end Go.Proofs.Ytjccknmgmommcaa.Sx

