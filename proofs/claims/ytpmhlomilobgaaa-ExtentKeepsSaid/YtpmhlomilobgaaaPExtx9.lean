/- What the Go functions of this text come to, laid by a program of this session (wip/tools/pp.py) out of the translation: for every input. -/
import Derived.Test.YtpmhlomilobgaaaExtW
import Derived.Test.YtpmhlomilobgaaaPExtx0
import Derived.Test.YtpmhlomilobgaaaPExtx3
import Derived.Test.YtpmhlomilobgaaaPExtx4
import Derived.Test.YtpmhlomilobgaaaPExtx5
import Derived.Test.YtpmhlomilobgaaaPExtx7
namespace Go.Proofs.Ytpmhlomilobgaaa.PExt
open Go.RowKit Go.Proofs.YtpmhlomilobgaaaW.PrintWords Go.Proofs.YtpmhlomilobgaaaW.PrintLast Go.Proofs.YtpmhlomilobgaaaW.PrintMore
attribute [local go_sem] max2_int min2_int max_two min_two max_three min_three max_four min_four
set_option linter.unusedVariables false
set_option linter.unusedSimpArgs false
def extent_Set_Has.l0 : Nat → Int → List (S65) → Int → Int → Option (Bool)
 | 0, _, _, _, _ => none
 | k + 1, x1, x7, x8, x9 => if x9 < x8 then (if 0 ≤ x9 then (if x9 < (x7.length : Int) then (if x1 ≥ ((rd_T65 x7 x9).f0) then (if x1 < ((rd_T65 x7 x9).f1) then (some true) else (extent_Set_Has.l0 k x1 x7 x8 (wrap64 (x9 + 1)))) else (extent_Set_Has.l0 k x1 x7 x8 (wrap64 (x9 + 1)))) else (none)) else (none)) else (some false)
def extent_Set_Has.f (k : Nat) (l0 : List (S65)) (a1 : Int) : Option (Bool) := extent_Set_Has.l0 k a1 l0 (l0.length : Int) 0
def extent_Set_Minus.f (l0 : List (S65)) (l1 : List (S65)) : Option ((List (S65))) := ExtM.minusF l0 l1
set_option maxHeartbeats 8000000 in
set_option maxRecDepth 100000 in
theorem extent_Set_Minus.calls (A0 : Option Addr) (c0 : Nat) (l0 : List (S65)) (A1 : Option Addr) (c1 : Nat) (l1 : List (S65)) (r : List (S65)) (w : World) (hr0 : Kd.C k65 w A0 l0.length l0) (hc0 : l0.length ≤ c0) (hr1 : Kd.C k65 w A1 l1.length l1) (hc1 : l1.length ≤ c1) (h : extent_Set_Minus.f l0 l1 = some r) :
  Calls Try.prog 48 #[.slice A0 l0.length c0, .slice A1 l1.length c1] w fun e w' => ∃ v0_ : Value, e = .returned (v0_) ∧ Kd.R k65 65 w' w.heap.size (fun _ => True) v0_ r ∧ Below w.heap.size w w' := ExtW.minus_calls A0 c0 l0 A1 c1 l1 r w hr0 hc0 hr1 hc1 h
def extent_Set_Covers.f (k : Nat) (l0 : List (S65)) (a1_0 : Int) (a1_1 : Int) : Option (Bool) := if a1_1 ≤ a1_0 then (some true) else ((extent_Norm.f k (([(⟨a1_0, a1_1⟩ : S65)] : List (S65)))).bind fun t333 => ((extent_Set_Minus.f t333 l0).bind fun t336 => (some ((t336.length : Int) == 0))))
def extent_Set_Meet.f (l0 : List (S65)) (l1 : List (S65)) : Option ((List (S65))) := ExtM.meetF l0 l1
set_option maxHeartbeats 8000000 in
set_option maxRecDepth 100000 in
theorem extent_Set_Meet.calls (A0 : Option Addr) (c0 : Nat) (l0 : List (S65)) (A1 : Option Addr) (c1 : Nat) (l1 : List (S65)) (r : List (S65)) (w : World) (hr0 : Kd.C k65 w A0 l0.length l0) (hc0 : l0.length ≤ c0) (hr1 : Kd.C k65 w A1 l1.length l1) (hc1 : l1.length ≤ c1) (h : extent_Set_Meet.f l0 l1 = some r) :
  Calls Try.prog 46 #[.slice A0 l0.length c0, .slice A1 l1.length c1] w fun e w' => ∃ v0_ : Value, e = .returned (v0_) ∧ Kd.R k65 65 w' w.heap.size (fun _ => True) v0_ r ∧ Below w.heap.size w w' := ExtW.meet_calls A0 c0 l0 A1 c1 l1 r w hr0 hc0 hr1 hc1 h
end Go.Proofs.Ytpmhlomilobgaaa.PExt
