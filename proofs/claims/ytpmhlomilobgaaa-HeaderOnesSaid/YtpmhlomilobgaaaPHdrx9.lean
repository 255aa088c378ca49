/- What the Go functions of this text come to, laid by a program of this session (wip/tools/pp.py) out of the translation: for every input. -/
import Derived.Test.YtpmhlomilobgaaaPHdrx0
import Derived.Test.YtpmhlomilobgaaaPHdrx7
import Derived.Test.YtpmhlomilobgaaaPHdrx8
namespace Go.Proofs.Ytpmhlomilobgaaa.PHdr
open Go.RowKit Go.Proofs.YtpmhlomilobgaaaW.PrintWords Go.Proofs.YtpmhlomilobgaaaW.PrintLast Go.Proofs.YtpmhlomilobgaaaW.PrintMore
attribute [local go_sem] max2_int min2_int max_two min_two max_three min_three max_four min_four
set_option linter.unusedVariables false
set_option linter.unusedSimpArgs false
mutual
def fettleref07_Head_Check.j0 : Nat → Int → Bool → Int → Int → Int → Int → Bool → Option (Int)
 | 0, _, _, _, _, _, _, _ => none
 | k + 1, x3, x7, x205000, x205001, x205002, x205003, x205004 => if x7 = true then (some 11) else ((fettleref07_Head_Guest.f k x205000 x205001 x205002 x205003 x205004).bind fun t206 => (if t206 > (wrap64 (x3 * x3)) then (fettleref07_Head_Check.j1 k true x205000 x205001 x205002 x205003 x205004) else (if x205002 < 1 then (fettleref07_Head_Check.j1 k true x205000 x205001 x205002 x205003 x205004) else (if x205002 > 8192 then (fettleref07_Head_Check.j1 k true x205000 x205001 x205002 x205003 x205004) else ((fettleref07_Head_Cluster.f k x205000 x205001 x205002 x205003 x205004).bind fun t207 => (if t207 = 0 then (none) else (fettleref07_Head_Check.j1 k (decide (x205002 > (wrap64 ((4194304 : Int) / t207)))) x205000 x205001 x205002 x205003 x205004)))))))
def fettleref07_Head_Check.j1 : Nat → Bool → Int → Int → Int → Int → Bool → Option (Int)
 | 0, _, _, _, _, _, _ => none
 | k + 1, x32, x205000, x205001, x205002, x205003, x205004 => if x32 = true then (some 20) else ((fettleref07_Head_Least.f k x205000 x205001 x205002 x205003 x205004).bind fun t208 => (if x205003 < t208 then (some 11) else (if x205003 > 8192 then (some 11) else ((fettleref07_Head_At.f k x205000 x205001 x205002 x205003 x205004 5).bind fun t209 => (if t209 > x205002 then (some 11) else (some 0))))))
end
def fettleref07_Head_Check.f (k : Nat) (a0_0 : Int) (a0_1 : Int) (a0_2 : Int) (a0_3 : Int) (a0_4 : Bool) : Option (Int) := (fettleref07_Head_Cluster.f k a0_0 a0_1 a0_2 a0_3 a0_4).bind fun t205 => (if a0_0 < 9 then (fettleref07_Head_Check.j0 k (wrap64 (Int.tdiv t205 8)) true a0_0 a0_1 a0_2 a0_3 a0_4) else (if a0_0 > 12 then (fettleref07_Head_Check.j0 k (wrap64 (Int.tdiv t205 8)) true a0_0 a0_1 a0_2 a0_3 a0_4) else (if a0_1 < 512 then (fettleref07_Head_Check.j0 k (wrap64 (Int.tdiv t205 8)) true a0_0 a0_1 a0_2 a0_3 a0_4) else (if a0_1 > 16777216 then (fettleref07_Head_Check.j0 k (wrap64 (Int.tdiv t205 8)) true a0_0 a0_1 a0_2 a0_3 a0_4) else (fettleref07_Head_Check.j0 k (wrap64 (Int.tdiv t205 8)) ((Int.tmod a0_1 512) != 0) a0_0 a0_1 a0_2 a0_3 a0_4)))))
end Go.Proofs.Ytpmhlomilobgaaa.PHdr
