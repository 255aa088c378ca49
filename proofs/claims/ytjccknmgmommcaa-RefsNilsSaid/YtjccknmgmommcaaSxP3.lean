import Derived.Test.YtjccknmgmommcaaSxP2
set_option linter.unusedVariables false
set_option linter.unusedSimpArgs false
set_option maxRecDepth 10000
namespace Go.Proofs.Ytjccknmgmommcaa.Sx
theorem DF.live.refB {s : DF} (h : s.live) : ¬ s.refB = true := fun e => h.not ((DF.refB_iff s).1 e)
end Go.Proofs.Ytjccknmgmommcaa.Sx

