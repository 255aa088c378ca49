import Derived.Test.YtjccknmgmommcaaSxP7
set_option linter.unusedVariables false
set_option linter.unusedSimpArgs false
set_option maxRecDepth 10000
namespace Go.Proofs.Ytjccknmgmommcaa.Sx
/-! ### Commit, cut off anywhere -/
end Go.Proofs.Ytjccknmgmommcaa.Sx

