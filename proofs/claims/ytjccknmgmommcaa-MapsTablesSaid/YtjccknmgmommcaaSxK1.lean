import Derived.Test.YtjccknmgmommcaaSxP10
import Derived.Test.YtjccknmgmommcaaSxJ9
set_option linter.unusedVariables false
set_option linter.unusedSimpArgs false
set_option maxRecDepth 10000
namespace Go.Proofs.Ytjccknmgmommcaa.Sx
open Go.RowKit Go.Proofs.Ytjccknmgmommcaa.Sx.Tb
/-! ### The functions of the law JournalCrashes -/
theorem recsC_noF (rs : List RecR) : (recsC true rs).noF := fun j hj => ⟨trivial, ⟨rfl, trivial⟩, trivial⟩
theorem Fin.vl {u : Value} {H : List Chunk} {k : K} (hk : k (.v u) []) : Fin 0 (.v u) H k := Fin.ren [] [] (.v u) [] rfl rfl trivial trivial (VC.mk rfl) hk
end Go.Proofs.Ytjccknmgmommcaa.Sx

