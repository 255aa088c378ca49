import Derived.Test.YtjccknmgmommcaaSxO2
set_option linter.unusedVariables false
set_option linter.unusedSimpArgs false
set_option maxRecDepth 10000
namespace Go.Proofs.Ytjccknmgmommcaa.Sx
open Go.RowKit Go.Proofs.Ytjccknmgmommcaa.Sx.Tb
/-! ### Records -/
abbrev RecR := Int × List Int
def recAV (g : Bool) (r : RecR) : List AV := [.v (.int .i64 r.1), .im g 1 r.2.length (.ints .u8 r.2)]
def recsC (g : Bool) (rs : List RecR) : Cont := .recs 2 rs.length (fun i => recAV g (rs.getD i (0, [])))
def enc1 (r : RecR) : List Int := leB 8 r.1 ++ leB 4 (r.2.length : Int) ++ r.2
def encL (rs : List RecR) : List Int := rs.flatMap enc1
end Go.Proofs.Ytjccknmgmommcaa.Sx

