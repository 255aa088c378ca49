import Derived.Test.YtjccknmgmommcaaSxP5
set_option linter.unusedVariables false
set_option linter.unusedSimpArgs false
set_option maxRecDepth 10000
namespace Go.Proofs.Ytjccknmgmommcaa.Sx
/-! ### What a crash may leave -/
/-- What a crash may leave, between a commit and its end. -/
def Cr (j : JR) (b : List Int) (rs : List RecR) (C : List Int) : Prop :=
  B8 C ∧ (j.eqJ C b ∧ pendB j (j.partL C) = none ∨ Mid j b rs C ∧ pendB j (j.partL C) = some rs ∨ j.eqJ C (doneL rs b) ∧ pendB j (j.partL C) = none)
theorem JR.eqJ.refl {j : JR} (C : List Int) : j.eqJ C C := ⟨rfl, fun _ _ => rfl⟩
theorem JR.eqJ.trans {j : JR} {C D E : List Int} (h : j.eqJ C D) (g : j.eqJ D E) : j.eqJ C E := ⟨h.1.trans g.1, fun i hi => (h.2 i hi).trans (g.2 i hi)⟩
/-- Whatever a crash keeps of a file. -/
def CrS (j : JR) (b : List Int) (rs : List RecR) (s : DF) : Prop := ∀ ks, Cr j b rs (crashL s.safe s.items ks)
theorem CrS.asked {j : JR} {b : List Int} {rs : List RecR} {s : DF} (h : CrS j b rs s) : CrS j b rs s.asked := h
end Go.Proofs.Ytjccknmgmommcaa.Sx

