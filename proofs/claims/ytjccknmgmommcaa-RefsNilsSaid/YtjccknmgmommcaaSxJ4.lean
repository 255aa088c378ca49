import Derived.Test.YtjccknmgmommcaaSxJ3
set_option linter.unusedVariables false
set_option linter.unusedSimpArgs false
set_option maxRecDepth 10000
namespace Go.Proofs.Ytjccknmgmommcaa.Sx
open Go.RowKit Go.Proofs.Ytjccknmgmommcaa.Sx.Tb
/-! ### Commit -/
def JR.next (j : JR) : JR := { j with seq := (j.seq + 1) % 18446744073709551616 }
end Go.Proofs.Ytjccknmgmommcaa.Sx

