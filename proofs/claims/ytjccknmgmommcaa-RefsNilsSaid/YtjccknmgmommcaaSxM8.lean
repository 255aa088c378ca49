import Derived.Test.YtjccknmgmommcaaSxM7
set_option linter.unusedVariables false
set_option linter.unusedSimpArgs false
set_option maxRecDepth 10000
namespace Go.Proofs.Ytjccknmgmommcaa.Sx
open Go.RowKit Go.Proofs.Ytjccknmgmommcaa.Sx.Tb
/-! ### List, All -/
attribute [local simp] entsC_noF entsC_ren
end Go.Proofs.Ytjccknmgmommcaa.Sx

