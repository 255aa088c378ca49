/- What the Go functions of this text come to, laid by a program of this session (wip/tools/pp.py) out of the translation: for every input. -/
import Derived.Test.YtpmhlomilobgaaaPHdrx0
import Derived.Test.YtpmhlomilobgaaaPHdrx7
namespace Go.Proofs.Ytpmhlomilobgaaa.PHdr
open Go.RowKit Go.Proofs.YtpmhlomilobgaaaW.PrintWords Go.Proofs.YtpmhlomilobgaaaW.PrintLast Go.Proofs.YtpmhlomilobgaaaW.PrintMore
attribute [local go_sem] max2_int min2_int max_two min_two max_three min_three max_four min_four
set_option linter.unusedVariables false
set_option linter.unusedSimpArgs false
mutual
def fettleref07_Head_At.j0 : Nat → Int → Int → Int → Int → Int → Int → Bool → Option (Int)
 | 0, _, _, _, _, _, _, _ => none
 | k + 1, x1, x5, x202000, x202001, x202002, x202003, x202004 => if x1 > 1 then ((fettleref07_between.f x202003 0 8192).bind fun t202 => (fettleref07_Head_At.j1 k x1 (wrap64 (x5 + t202)) x202000 x202001 x202002 x202003 x202004)) else (fettleref07_Head_At.j1 k x1 x5 x202000 x202001 x202002 x202003 x202004)
def fettleref07_Head_At.j1 : Nat → Int → Int → Int → Int → Int → Int → Bool → Option (Int)
 | 0, _, _, _, _, _, _, _ => none
 | k + 1, x1, x5, x202000, x202001, x202002, x202003, x202004 => if x1 > 2 then ((fettleref07_Head_Refs.f k x202000 x202001 x202002 x202003 x202004).bind fun t203 => (fettleref07_Head_At.j2 k x1 (wrap64 (x5 + t203)))) else (fettleref07_Head_At.j2 k x1 x5)
def fettleref07_Head_At.j2 : Nat → Int → Int → Option (Int)
 | 0, _, _ => none
 | k + 1, x1, x5 => if x1 > 3 then (if x1 > 4 then (some (wrap64 ((wrap64 (x5 + 1)) + 1))) else (some (wrap64 (x5 + 1)))) else (if x1 > 4 then (some (wrap64 (x5 + 1))) else (some x5))
end
def fettleref07_Head_At.f (k : Nat) (a0_0 : Int) (a0_1 : Int) (a0_2 : Int) (a0_3 : Int) (a0_4 : Bool) (a1 : Int) : Option (Int) := if a1 > 0 then (fettleref07_Head_At.j0 k a1 (0 + 1) a0_0 a0_1 a0_2 a0_3 a0_4) else (fettleref07_Head_At.j0 k a1 0 a0_0 a0_1 a0_2 a0_3 a0_4)
end Go.Proofs.Ytpmhlomilobgaaa.PHdr
