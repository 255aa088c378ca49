/- What the Go functions of this text come to, laid by a program of this session (wip/tools/pp.py) out of the translation: for every input. -/
import Derived.Test.YtpmhlomilobgaaaPHdrx0
import Derived.Test.YtpmhlomilobgaaaPHdrx7
import Derived.Test.YtpmhlomilobgaaaPHdrx9
namespace Go.Proofs.Ytpmhlomilobgaaa.PHdr
open Go.RowKit Go.Proofs.YtpmhlomilobgaaaW.PrintWords Go.Proofs.YtpmhlomilobgaaaW.PrintLast Go.Proofs.YtpmhlomilobgaaaW.PrintMore
attribute [local go_sem] max2_int min2_int max_two min_two max_three min_three max_four min_four
set_option linter.unusedVariables false
set_option linter.unusedSimpArgs false
def fettleref01_In.f (l0 : List Int) (a1 : Int) (a2 : Int) : Option (Bool) := if a1 ≥ 0 then (if a2 ≥ 0 then (if a1 ≤ (l0.length : Int) then (some (decide ((wrap64 ((l0.length : Int) - a1)) ≥ a2))) else (some false)) else (some false)) else (some false)
def fettleref01_Num.l0 : Nat → List Int → Int → Int → Int → Int → Int → Option (Int × Bool)
 | 0, _, _, _, _, _, _ => none
 | k + 1, x0, x1, x2, x8, x9, x10 => if x10 < x2 then (if 0 ≤ (wrap64 (x1 + x10)) then (if (wrap64 (x1 + x10)) < (x0.length : Int) then (fettleref01_Num.l0 k x0 x1 x2 (IntKind.u64.wrap (x8 + (IntKind.u64.wrap ((IntKind.u64.wrap (rd x0 (wrap64 (x1 + x10)))) * x9)))) (IntKind.u64.wrap (x9 * 256)) (wrap64 (x10 + 1))) else (none)) else (none)) else (some (x8, true))
def fettleref01_Num.f (k : Nat) (l0 : List Int) (a1 : Int) (a2 : Int) : Option (Int × Bool) := (fettleref01_In.f l0 a1 a2).bind fun t210 => (if t210 = true then (fettleref01_Num.l0 k l0 a1 a2 0 1 0) else (some (0, false)))
def fettleref01_Int.f (k : Nat) (l0 : List Int) (a1 : Int) (a2 : Int) : Option (Int) := (fettleref01_Num.f k l0 a1 a2).bind fun bt212 => (some (wrap64 (bt212.1)))
def fettleref01_IsZero.l0 : Nat → List Int → Int → Option (Bool)
 | 0, _, _ => none
 | k + 1, x0, x3 => if x3 < (x0.length : Int) then (if 0 ≤ x3 then (if (rd x0 x3) = 0 then (fettleref01_IsZero.l0 k x0 (wrap64 (x3 + 1))) else (some false)) else (none)) else (some true)
def fettleref01_IsZero.f (k : Nat) (l0 : List Int) : Option (Bool) := fettleref01_IsZero.l0 k l0 0
def fettleref07_Decode.j0 : Nat → List Int → Int → Bool → Option (Int × Int × Int × Int × Bool × Int)
 | 0, _, _, _ => none
 | k + 1, x0, x4, x32 => if x32 = true then (some (0, 0, 0, 0, false, 11)) else ((fettleref01_Int.f k x0 4 4).bind fun t221 => ((fettleref01_Int.f k x0 16 4).bind fun t222 => ((fettleref01_Int.f k x0 20 4).bind fun t223 => ((fettleref01_Int.f k x0 24 4).bind fun t224 => ((fettleref07_Head_Check.f k t221 (wrap64 (x4)) t222 t223 (t224 == 1)).bind fun t226 => (if t226 = 0 then ((fettleref07_Head_Cluster.f k t221 (wrap64 (x4)) t222 t223 (t224 == 1)).bind fun t227 => (if (x0.length : Int) < t227 then (some (0, 0, 0, 0, false, 4)) else ((fettleref07_Head_Cluster.f k t221 (wrap64 (x4)) t222 t223 (t224 == 1)).bind fun t228 => (if 28 ≤ t228 then (if t228 ≤ (x0.length : Int) then ((fettleref01_IsZero.f k ((x0.take (t228 : Int).toNat).drop 28)).bind fun t230 => (if t230 = true then (some (t221, wrap64 (x4), t222, t223, (t224 == 1), 0)) else (some (0, 0, 0, 0, false, 11)))) else (none)) else (none))))) else (some (0, 0, 0, 0, false, t226))))))))
def fettleref07_Decode.f (k : Nat) (l0 : List Int) : Option (Int × Int × Int × Int × Bool × Int) := if (l0.length : Int) < 28 then (some (0, 0, 0, 0, false, 4)) else ((fettleref01_Num.f k l0 8 8).bind fun bt216 => ((fettleref01_Int.f k l0 0 4).bind fun t218 => (if t218 = 1280591174 then ((fettleref01_Int.f k l0 4 4).bind fun t219 => (if t219 > 12 then (fettleref07_Decode.j0 k l0 bt216.1 true) else (if bt216.1 > 16777216 then (fettleref07_Decode.j0 k l0 bt216.1 true) else ((fettleref01_Int.f k l0 24 4).bind fun t220 => (fettleref07_Decode.j0 k l0 bt216.1 (decide (t220 > 1))))))) else (some (0, 0, 0, 0, false, 10)))))
end Go.Proofs.Ytpmhlomilobgaaa.PHdr
