import Derived.Test.YtjccknmgmommcaaSxP9
set_option linter.unusedVariables false
set_option linter.unusedSimpArgs false
set_option maxRecDepth 10000
namespace Go.Proofs.Ytjccknmgmommcaa.Sx
/-! ### The end -/
end Go.Proofs.Ytjccknmgmommcaa.Sx

