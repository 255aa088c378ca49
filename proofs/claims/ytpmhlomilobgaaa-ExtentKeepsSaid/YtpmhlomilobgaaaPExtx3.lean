/- What the Go functions of this text come to, laid by a program of this session (wip/tools/pp.py) out of the translation: for every input. -/
import Derived.Test.YtpmhlomilobgaaaExtW
import Derived.Test.YtpmhlomilobgaaaPExtx0
import Derived.Test.YtpmhlomilobgaaaPExtx2
import Derived.Test.YtpmhlomilobgaaaExtN
namespace Go.Proofs.Ytpmhlomilobgaaa.PExt
open Go.RowKit Go.Proofs.YtpmhlomilobgaaaW.PrintWords Go.Proofs.YtpmhlomilobgaaaW.PrintLast Go.Proofs.YtpmhlomilobgaaaW.PrintMore
attribute [local go_sem] max2_int min2_int max_two min_two max_three min_three max_four min_four
set_option linter.unusedVariables false
set_option linter.unusedSimpArgs false
def extent_Set_Inward.f (l0 : List (S65)) (a1 : Int) : Option ((List (S65)) × Int) := ExtM.inwardF l0 a1
set_option maxHeartbeats 8000000 in
set_option maxRecDepth 100000 in
theorem extent_Set_Inward.calls (A0 : Option Addr) (c0 : Nat) (l0 : List (S65)) (a1 : Int) (r1 : List (S65)) (r2 : Int) (w : World) (hr0 : Kd.C k65 w A0 l0.length l0) (hc0 : l0.length ≤ c0) (h : extent_Set_Inward.f l0 a1 = some (r1, r2)) :
  Calls Try.prog 72 #[.slice A0 l0.length c0, .int .i64 a1] w fun e w' => ∃ v0_ : Value, e = .returned (.tuple #[v0_, .int .i64 r2]) ∧ Kd.R k65 65 w' w.heap.size (fun _ => True) v0_ r1 ∧ Below w.heap.size w w' := ExtW.inward_calls A0 c0 l0 a1 r1 r2 w hr0 hc0 h
end Go.Proofs.Ytpmhlomilobgaaa.PExt
