import Derived.Test.YtjccknmgmommcaaSxH1
import Derived.Test.YtjccknmgmommcaaSxX3
import Derived.Laws.BitsAllLaws
set_option linter.unusedVariables false
set_option linter.unusedSimpArgs false
set_option maxRecDepth 10000
namespace Go.Proofs.Ytjccknmgmommcaa.Sx
open Go.RowKit Go.Proofs.Ytjccknmgmommcaa.Sx.Tb
/-! ### Entries -/
structure ER where
  kind : Int
  cl : Int
  own : Bool
  deriving DecidableEq
theorem Fin.tp2 {u v : Value} {H : List Chunk} {k : K} (hk : k (.tup [.v u, .v v]) []) : Fin 0 (.tup [.v u, .v v]) H k := Fin.ren [] [] (.tup [.v u, .v v]) [] rfl rfl trivial trivial ⟨VC.mk rfl, VC.mk rfl, trivial⟩ hk
end Go.Proofs.Ytjccknmgmommcaa.Sx

