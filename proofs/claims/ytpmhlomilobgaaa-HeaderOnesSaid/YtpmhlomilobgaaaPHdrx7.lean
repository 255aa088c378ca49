/- What the Go functions of this text come to, laid by a program of this session (wip/tools/pp.py) out of the translation: for every input. -/
import Derived.Test.YtpmhlomilobgaaaPHdrx0
namespace Go.Proofs.Ytpmhlomilobgaaa.PHdr
open Go.RowKit Go.Proofs.YtpmhlomilobgaaaW.PrintWords Go.Proofs.YtpmhlomilobgaaaW.PrintLast Go.Proofs.YtpmhlomilobgaaaW.PrintMore
attribute [local go_sem] max2_int min2_int max_two min_two max_three min_three max_four min_four
set_option linter.unusedVariables false
set_option linter.unusedSimpArgs false
mutual
def fettleref07_Head_Cluster.j0 : Nat → Int → Bool → Int → Int → Int → Int → Bool → Option (Int)
 | 0, _, _, _, _, _, _, _ => none
 | k + 1, x3, x12, x188000, x188001, x188002, x188003, x188004 => if x12 = true then (some x3) else (fettleref07_Head_Cluster.l0 k x3 9 x188000 x188001 x188002 x188003 x188004)
def fettleref07_Head_Cluster.l0 : Nat → Int → Int → Int → Int → Int → Int → Bool → Option (Int)
 | 0, _, _, _, _, _, _, _ => none
 | k + 1, x3, x4, x188000, x188001, x188002, x188003, x188004 => if x4 < x188000 then (fettleref07_Head_Cluster.l0 k (wrap64 (x3 * 2)) (wrap64 (x4 + 1)) x188000 x188001 x188002 x188003 x188004) else (some x3)
end
def fettleref07_Head_Cluster.f (k : Nat) (a0_0 : Int) (a0_1 : Int) (a0_2 : Int) (a0_3 : Int) (a0_4 : Bool) : Option (Int) := if a0_0 < 9 then (fettleref07_Head_Cluster.j0 k 512 true a0_0 a0_1 a0_2 a0_3 a0_4) else (fettleref07_Head_Cluster.j0 k 512 (decide (a0_0 > 12)) a0_0 a0_1 a0_2 a0_3 a0_4)
def fettleref07_units.f (a0 : Int) (a1 : Int) : Option (Int) := if a1 = 0 then (none) else (if (Int.tmod a0 a1) > 0 then (some (wrap64 ((wrap64 (Int.tdiv a0 a1)) + 1))) else (some (wrap64 (Int.tdiv a0 a1))))
def fettleref07_between.f (a0 : Int) (a1 : Int) (a2 : Int) : Option (Int) := if a0 < a1 then (some a1) else (if a0 > a2 then (some a2) else (some a0))
def fettleref07_Head_Guest.f (k : Nat) (a0_0 : Int) (a0_1 : Int) (a0_2 : Int) (a0_3 : Int) (a0_4 : Bool) : Option (Int) := (fettleref07_between.f a0_1 0 16777216).bind fun t189 => ((fettleref07_Head_Cluster.f k a0_0 a0_1 a0_2 a0_3 a0_4).bind fun t190 => ((fettleref07_units.f t189 t190).bind fun t191 => (some t191)))
def fettleref07_Head_Refs.f (k : Nat) (a0_0 : Int) (a0_1 : Int) (a0_2 : Int) (a0_3 : Int) (a0_4 : Bool) : Option (Int) := (fettleref07_between.f a0_2 0 8192).bind fun t193 => ((fettleref07_Head_Cluster.f k a0_0 a0_1 a0_2 a0_3 a0_4).bind fun t194 => ((fettleref07_units.f (wrap64 (2 * t193)) t194).bind fun t195 => (some t195)))
def fettleref07_Head_Least.f (k : Nat) (a0_0 : Int) (a0_1 : Int) (a0_2 : Int) (a0_3 : Int) (a0_4 : Bool) : Option (Int) := (fettleref07_Head_Refs.f k a0_0 a0_1 a0_2 a0_3 a0_4).bind fun t197 => ((fettleref07_Head_Cluster.f k a0_0 a0_1 a0_2 a0_3 a0_4).bind fun t198 => ((fettleref07_Head_Cluster.f k a0_0 a0_1 a0_2 a0_3 a0_4).bind fun t199 => ((fettleref07_units.f (wrap64 (4608 + (wrap64 ((wrap64 (t197 + 18)) * t198)))) t199).bind fun t200 => (some t200))))
end Go.Proofs.Ytpmhlomilobgaaa.PHdr
