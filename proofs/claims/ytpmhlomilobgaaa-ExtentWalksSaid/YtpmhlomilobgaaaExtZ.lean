/- A row that came in, as one that may be shared. -/
import Derived.Test.YtpmhlomilobgaaaPExtx0
set_option linter.unusedVariables false
namespace Go.Proofs.Ytpmhlomilobgaaa.ExtZ
open Go.RowKit Go.Proofs.Ytpmhlomilobgaaa.PExt Go.Proofs.YtpmhlomilobgaaaW.PrintWords Go.Proofs.YtpmhlomilobgaaaW.PrintMore
theorem V_of_C {w : World} {base : Nat} {A : Option Addr} {c : Nat} {l : List S65} (h : Kd.C k65 w A l.length l) (hc : l.length ≤ c) : Kd.V k65 65 w base (fun _ => True) (.slice A l.length c) l := by
  refine ⟨A, c, rfl, hc, fun W' hW => ⟨h.1, h.2.1, fun hn => ?_⟩⟩
  obtain ⟨ad, e, hcells⟩ := h.2.2 hn
  refine ⟨ad, e, fun j p hj => ?_⟩
  obtain ⟨cs, h1, h2, h3⟩ := hcells j p hj
  refine ⟨cs, h1, ?_, fun i u hu => ?_⟩
  · rw [k65_open h2]
    exact k65_mk W' p
  · have h4 := h3 i u hu
    have h5 := hW _ trivial (World.block_lt_of_cell? _ _ h4)
    simp only [World.cell?] at h4 ⊢
    rw [h5]
    exact h4
end Go.Proofs.Ytpmhlomilobgaaa.ExtZ
