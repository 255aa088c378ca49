/- What the Go functions of this text come to, laid by a program of this session (wip/tools/pp.py) out of the translation: for every input. -/
import Derived.Test.YtpmhlomilobgaaaExtU
import Derived.Test.YtpmhlomilobgaaaPExtx0
import Derived.Test.YtpmhlomilobgaaaPExtx2
import Derived.Test.YtpmhlomilobgaaaPExtx3
import Derived.Test.YtpmhlomilobgaaaPExtx4
import Derived.Test.YtpmhlomilobgaaaPExtx6
import Derived.Test.YtpmhlomilobgaaaPExtx9
namespace Go.Proofs.Ytpmhlomilobgaaa.PExt
open Go.RowKit Go.Proofs.YtpmhlomilobgaaaW.PrintWords Go.Proofs.YtpmhlomilobgaaaW.PrintLast Go.Proofs.YtpmhlomilobgaaaW.PrintMore
attribute [local go_sem] max2_int min2_int max_two min_two max_three min_three max_four min_four
set_option linter.unusedVariables false
set_option linter.unusedSimpArgs false
def extent_Union.l0 : Nat → List (S65) → List (List (S65)) → Int → Int → Option ((List (S65)))
 | 0, _, _, _, _ => none
 | k + 1, x3, x6, x7, x8 => if x8 < x7 then (if 0 ≤ x8 then (if x8 < (x6.length : Int) then (if x3.length + (rd_L2 x6 x8).length < 8796093022208 then (extent_Union.l0 k (x3 ++ (rd_L2 x6 x8)) x6 x7 (wrap64 (x8 + 1))) else (none)) else (none)) else (none)) else ((extent_Norm.f k x3).bind fun t363 => (some t363))
def extent_Union.f (k : Nat) (l0 : List (List (S65))) : Option ((List (S65))) := extent_Union.l0 k ([] : List (S65)) l0 (l0.length : Int) 0
end Go.Proofs.Ytpmhlomilobgaaa.PExt
