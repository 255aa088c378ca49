import Derived.Test.YtjccknmgmommcaaSxJ8
set_option linter.unusedVariables false
set_option linter.unusedSimpArgs false
set_option maxRecDepth 10000
namespace Go.Proofs.Ytjccknmgmommcaa.Sx
/-! ### What is signed is pending -/
def recP (r : RecR) : Prop := 0 ≤ r.1 ∧ r.1 ≤ 4194304 ∧ r.2.length < 4294967296
end Go.Proofs.Ytjccknmgmommcaa.Sx

