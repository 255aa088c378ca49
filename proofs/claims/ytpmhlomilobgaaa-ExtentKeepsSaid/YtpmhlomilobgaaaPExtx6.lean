/- What the Go functions of this text come to, laid by a program of this session (wip/tools/pp.py) out of the translation: for every input. -/
import Derived.Test.YtpmhlomilobgaaaExtW
import Derived.Test.YtpmhlomilobgaaaPExtx0
import Derived.Test.YtpmhlomilobgaaaPExtx3
import Derived.Test.YtpmhlomilobgaaaPExtx5
namespace Go.Proofs.Ytpmhlomilobgaaa.PExt
open Go.RowKit Go.Proofs.YtpmhlomilobgaaaW.PrintWords Go.Proofs.YtpmhlomilobgaaaW.PrintLast Go.Proofs.YtpmhlomilobgaaaW.PrintMore
attribute [local go_sem] max2_int min2_int max_two min_two max_three min_three max_four min_four
set_option linter.unusedVariables false
set_option linter.unusedSimpArgs false
def fettlelaw03_near.l0 : Nat → List (S65) → Int → Option (Bool)
 | 0, _, _ => none
 | k + 1, x0, x3 => if x3 < (x0.length : Int) then (if 0 ≤ x3 then (if ((rd_T65 x0 x3).f0) < (-1125899906842624) then (some false) else (if ((rd_T65 x0 x3).f0) > 1125899906842624 then (some false) else (if ((rd_T65 x0 x3).f1) < (-1125899906842624) then (some false) else (if ((rd_T65 x0 x3).f1) > 1125899906842624 then (some false) else (fettlelaw03_near.l0 k x0 (wrap64 (x3 + 1))))))) else (none)) else ((fettlelaw03_light.f k x0).bind fun t221 => (some t221))
def fettlelaw03_near.f (k : Nat) (l0 : List (S65)) : Option (Bool) := fettlelaw03_near.l0 k l0 0
end Go.Proofs.Ytpmhlomilobgaaa.PExt
