import Derived.Test.YtjccknmgmommcaaSxL3
set_option linter.unusedVariables false
set_option linter.unusedSimpArgs false
set_option maxRecDepth 10000
namespace Go.Proofs.Ytjccknmgmommcaa.Sx
open Go.RowKit Go.Proofs.Ytjccknmgmommcaa.Sx.Tb
end Go.Proofs.Ytjccknmgmommcaa.Sx

