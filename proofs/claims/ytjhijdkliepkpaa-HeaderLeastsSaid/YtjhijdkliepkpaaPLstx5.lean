/- What the Go functions of this text come to, laid by a program of this session (wip/tools/pp.py) out of the translation: for every input. -/
import Derived.Test.YtjhijdkliepkpaaPLstx0
import Derived.Test.YtjhijdkliepkpaaPLstx2
import Derived.Test.YtjhijdkliepkpaaPLstx3
import Derived.Test.YtjhijdkliepkpaaPLstx4
namespace Go.Proofs.Ytjhijdkliepkpaa.PLst
open Go.RowKit Go.Proofs.YtjhijdkliepkpaaW.PrintWords Go.Proofs.YtjhijdkliepkpaaW.PrintLast Go.Proofs.YtjhijdkliepkpaaW.PrintMore
attribute [local go_sem] max2_int min2_int max_two min_two max_three min_three max_four min_four   -- for this text's walks alone
set_option linter.unusedVariables false
set_option linter.unusedSimpArgs false

/-! ### fettlelaw07_HeaderLeasts: function 13 -/
def fettlelaw07_HeaderLeasts.f (k : Nat) (a0 : Int) (a1 : Int) (a2 : Int) : Option (Bool) := (fettlelaw07_laid.f k).bind fun t152 => (if t152 = true then ((header_Header_Least.f (wrap64 (9 + (wrap64 (Int.tmod (IntKind.u64.wrap (a0)) 4)))) (wrap64 (512 * (wrap64 (1 + (wrap64 (Int.tmod (IntKind.u64.wrap (a1)) 2000)))))) (wrap64 (200 + (wrap64 (Int.tmod (IntKind.u64.wrap (a2)) 500)))) 0 false).bind fun t154 => ((header_Header_First.f (wrap64 (9 + (wrap64 (Int.tmod (IntKind.u64.wrap (a0)) 4)))) (wrap64 (512 * (wrap64 (1 + (wrap64 (Int.tmod (IntKind.u64.wrap (a1)) 2000)))))) (wrap64 (200 + (wrap64 (Int.tmod (IntKind.u64.wrap (a2)) 500)))) t154 false).bind fun t155 => (if t155 > (wrap64 (200 + (wrap64 (Int.tmod (IntKind.u64.wrap (a2)) 500)))) then (some true) else ((header_Header_First.f (wrap64 (9 + (wrap64 (Int.tmod (IntKind.u64.wrap (a0)) 4)))) (wrap64 (512 * (wrap64 (1 + (wrap64 (Int.tmod (IntKind.u64.wrap (a1)) 2000)))))) (wrap64 (200 + (wrap64 (Int.tmod (IntKind.u64.wrap (a2)) 500)))) t154 false).bind fun t158 => ((header_Header_Least.f (wrap64 (9 + (wrap64 (Int.tmod (IntKind.u64.wrap (a0)) 4)))) (wrap64 (512 * (wrap64 (1 + (wrap64 (Int.tmod (IntKind.u64.wrap (a1)) 2000)))))) (wrap64 (t158 - 1)) t154 false).bind fun t159 => ((header_Header_Least.f (wrap64 (9 + (wrap64 (Int.tmod (IntKind.u64.wrap (a0)) 4)))) (wrap64 (512 * (wrap64 (1 + (wrap64 (Int.tmod (IntKind.u64.wrap (a1)) 2000)))))) (wrap64 (200 + (wrap64 (Int.tmod (IntKind.u64.wrap (a2)) 500)))) t154 false).bind fun t160 => (if t159 = t160 then ((header_Header_Check.f k (wrap64 (9 + (wrap64 (Int.tmod (IntKind.u64.wrap (a0)) 4)))) (wrap64 (512 * (wrap64 (1 + (wrap64 (Int.tmod (IntKind.u64.wrap (a1)) 2000)))))) (wrap64 (200 + (wrap64 (Int.tmod (IntKind.u64.wrap (a2)) 500)))) t154 false).bind fun t161 => (if t161 = 0 then ((header_Header_Check.f k (wrap64 (9 + (wrap64 (Int.tmod (IntKind.u64.wrap (a0)) 4)))) (wrap64 (512 * (wrap64 (1 + (wrap64 (Int.tmod (IntKind.u64.wrap (a1)) 2000)))))) (wrap64 (200 + (wrap64 (Int.tmod (IntKind.u64.wrap (a2)) 500)))) (wrap64 (t154 - 1)) false).bind fun t162 => (if t162 = 11 then ((header_Header_Check.f k (wrap64 (9 + (wrap64 (Int.tmod (IntKind.u64.wrap (a0)) 4)))) (wrap64 (512 * (wrap64 (1 + (wrap64 (Int.tmod (IntKind.u64.wrap (a1)) 2000)))))) (wrap64 (t158 - 1)) t154 false).bind fun t163 => (some (t163 == 11))) else (none))) else (none))) else ((header_Header_Check.f k (wrap64 (9 + (wrap64 (Int.tmod (IntKind.u64.wrap (a0)) 4)))) (wrap64 (512 * (wrap64 (1 + (wrap64 (Int.tmod (IntKind.u64.wrap (a1)) 2000)))))) (wrap64 (200 + (wrap64 (Int.tmod (IntKind.u64.wrap (a2)) 500)))) t154 false).bind fun t164 => (if t164 = 0 then ((header_Header_Check.f k (wrap64 (9 + (wrap64 (Int.tmod (IntKind.u64.wrap (a0)) 4)))) (wrap64 (512 * (wrap64 (1 + (wrap64 (Int.tmod (IntKind.u64.wrap (a1)) 2000)))))) (wrap64 (200 + (wrap64 (Int.tmod (IntKind.u64.wrap (a2)) 500)))) (wrap64 (t154 - 1)) false).bind fun t165 => (some (t165 == 11))) else (none)))))))))) else (none))
theorem fettlelaw07_HeaderLeasts.mono : ∀ a0 a1 a2 k, LeO (fettlelaw07_HeaderLeasts.f k a0 a1 a2) (fettlelaw07_HeaderLeasts.f (k + 1) a0 a1 a2) := by
  intro a0 a1 a2 k
  unfold fettlelaw07_HeaderLeasts.f
  repeat' first
      | (with_reducible exact fettlelaw07_laid.mono _)
      | (with_reducible exact header_Header_Check.mono _ _ _ _ _ _)
      | (with_reducible exact LeO.refl _)
      | (with_reducible exact LeO.none _)
      | (with_reducible refine LeO.ite ?_ ?_)
      | (with_reducible refine LeO.bind ?_ (fun _ => ?_))
      | exact fettlelaw07_laid.mono _
      | exact header_Header_Check.mono _ _ _ _ _ _
      | exact LeO.none _
      | refine LeO.ite ?_ ?_
      | refine LeO.bind ?_ (fun _ => ?_)
def fettlelaw07_HeaderLeasts.T7 : Bool × List (List Nat × List Nat) := (true, [([], []), ([], []), ([], []), ([], []), ([2, 0, 0, 2, 3], [0, 2]), ([3, 1, 4, 0, 1, 2, 3, 4], [1, 3])])
def fettlelaw07_HeaderLeasts.B7 : List Nat := [0, 0, 0, 0, 13, 31]
theorem fettlelaw07_HeaderLeasts.tab7 : rtab .any (opsOf Try.f13 7) = fettlelaw07_HeaderLeasts.T7 := by kernel_rfl
theorem fettlelaw07_HeaderLeasts.bits7 : waitsOk fettlelaw07_HeaderLeasts.T7.2 fettlelaw07_HeaderLeasts.B7 = true := by kernel_rfl
set_option maxHeartbeats 8000000 in
set_option maxRecDepth 100000 in
theorem fettlelaw07_HeaderLeasts.calls (k : Nat) (a0 : Int) (a1 : Int) (a2 : Int) (r : Bool) (w : World) (h : fettlelaw07_HeaderLeasts.f k a0 a1 a2 = some r) :
    Calls Try.prog 13 #[.int .i64 a0, .int .i64 a1, .int .i64 a2] w fun e w' => e = .returned (.bool r) ∧ Below w.heap.size w w' := by
  have hu69 := Try.underlying69
  have HB := Aside0.mk (Below.refl w.heap.size w)
  have H : ((fettlelaw07_laid.f k).bind fun t152 => (if t152 = true then ((header_Header_Least.f (wrap64 (9 + (wrap64 (Int.tmod (IntKind.u64.wrap (a0)) 4)))) (wrap64 (512 * (wrap64 (1 + (wrap64 (Int.tmod (IntKind.u64.wrap (a1)) 2000)))))) (wrap64 (200 + (wrap64 (Int.tmod (IntKind.u64.wrap (a2)) 500)))) 0 false).bind fun t154 => ((header_Header_First.f (wrap64 (9 + (wrap64 (Int.tmod (IntKind.u64.wrap (a0)) 4)))) (wrap64 (512 * (wrap64 (1 + (wrap64 (Int.tmod (IntKind.u64.wrap (a1)) 2000)))))) (wrap64 (200 + (wrap64 (Int.tmod (IntKind.u64.wrap (a2)) 500)))) t154 false).bind fun t155 => (if t155 > (wrap64 (200 + (wrap64 (Int.tmod (IntKind.u64.wrap (a2)) 500)))) then (some true) else ((header_Header_First.f (wrap64 (9 + (wrap64 (Int.tmod (IntKind.u64.wrap (a0)) 4)))) (wrap64 (512 * (wrap64 (1 + (wrap64 (Int.tmod (IntKind.u64.wrap (a1)) 2000)))))) (wrap64 (200 + (wrap64 (Int.tmod (IntKind.u64.wrap (a2)) 500)))) t154 false).bind fun t158 => ((header_Header_Least.f (wrap64 (9 + (wrap64 (Int.tmod (IntKind.u64.wrap (a0)) 4)))) (wrap64 (512 * (wrap64 (1 + (wrap64 (Int.tmod (IntKind.u64.wrap (a1)) 2000)))))) (wrap64 (t158 - 1)) t154 false).bind fun t159 => ((header_Header_Least.f (wrap64 (9 + (wrap64 (Int.tmod (IntKind.u64.wrap (a0)) 4)))) (wrap64 (512 * (wrap64 (1 + (wrap64 (Int.tmod (IntKind.u64.wrap (a1)) 2000)))))) (wrap64 (200 + (wrap64 (Int.tmod (IntKind.u64.wrap (a2)) 500)))) t154 false).bind fun t160 => (if t159 = t160 then ((header_Header_Check.f k (wrap64 (9 + (wrap64 (Int.tmod (IntKind.u64.wrap (a0)) 4)))) (wrap64 (512 * (wrap64 (1 + (wrap64 (Int.tmod (IntKind.u64.wrap (a1)) 2000)))))) (wrap64 (200 + (wrap64 (Int.tmod (IntKind.u64.wrap (a2)) 500)))) t154 false).bind fun t161 => (if t161 = 0 then ((header_Header_Check.f k (wrap64 (9 + (wrap64 (Int.tmod (IntKind.u64.wrap (a0)) 4)))) (wrap64 (512 * (wrap64 (1 + (wrap64 (Int.tmod (IntKind.u64.wrap (a1)) 2000)))))) (wrap64 (200 + (wrap64 (Int.tmod (IntKind.u64.wrap (a2)) 500)))) (wrap64 (t154 - 1)) false).bind fun t162 => (if t162 = 11 then ((header_Header_Check.f k (wrap64 (9 + (wrap64 (Int.tmod (IntKind.u64.wrap (a0)) 4)))) (wrap64 (512 * (wrap64 (1 + (wrap64 (Int.tmod (IntKind.u64.wrap (a1)) 2000)))))) (wrap64 (t158 - 1)) t154 false).bind fun t163 => (some (t163 == 11))) else (none))) else (none))) else ((header_Header_Check.f k (wrap64 (9 + (wrap64 (Int.tmod (IntKind.u64.wrap (a0)) 4)))) (wrap64 (512 * (wrap64 (1 + (wrap64 (Int.tmod (IntKind.u64.wrap (a1)) 2000)))))) (wrap64 (200 + (wrap64 (Int.tmod (IntKind.u64.wrap (a2)) 500)))) t154 false).bind fun t164 => (if t164 = 0 then ((header_Header_Check.f k (wrap64 (9 + (wrap64 (Int.tmod (IntKind.u64.wrap (a0)) 4)))) (wrap64 (512 * (wrap64 (1 + (wrap64 (Int.tmod (IntKind.u64.wrap (a1)) 2000)))))) (wrap64 (200 + (wrap64 (Int.tmod (IntKind.u64.wrap (a2)) 500)))) (wrap64 (t154 - 1)) false).bind fun t165 => (some (t165 == 11))) else (none)))))))))) else (none))) = some r := h
  clear h
  replace H := Option.bind_eq_some_iff.mp H
  obtain ⟨t152, A40, H⟩ := H
  replace H : (if t152 = true then ((header_Header_Least.f (wrap64 (9 + (wrap64 (Int.tmod (IntKind.u64.wrap (a0)) 4)))) (wrap64 (512 * (wrap64 (1 + (wrap64 (Int.tmod (IntKind.u64.wrap (a1)) 2000)))))) (wrap64 (200 + (wrap64 (Int.tmod (IntKind.u64.wrap (a2)) 500)))) 0 false).bind fun t154 => ((header_Header_First.f (wrap64 (9 + (wrap64 (Int.tmod (IntKind.u64.wrap (a0)) 4)))) (wrap64 (512 * (wrap64 (1 + (wrap64 (Int.tmod (IntKind.u64.wrap (a1)) 2000)))))) (wrap64 (200 + (wrap64 (Int.tmod (IntKind.u64.wrap (a2)) 500)))) t154 false).bind fun t155 => (if t155 > (wrap64 (200 + (wrap64 (Int.tmod (IntKind.u64.wrap (a2)) 500)))) then (some true) else ((header_Header_First.f (wrap64 (9 + (wrap64 (Int.tmod (IntKind.u64.wrap (a0)) 4)))) (wrap64 (512 * (wrap64 (1 + (wrap64 (Int.tmod (IntKind.u64.wrap (a1)) 2000)))))) (wrap64 (200 + (wrap64 (Int.tmod (IntKind.u64.wrap (a2)) 500)))) t154 false).bind fun t158 => ((header_Header_Least.f (wrap64 (9 + (wrap64 (Int.tmod (IntKind.u64.wrap (a0)) 4)))) (wrap64 (512 * (wrap64 (1 + (wrap64 (Int.tmod (IntKind.u64.wrap (a1)) 2000)))))) (wrap64 (t158 - 1)) t154 false).bind fun t159 => ((header_Header_Least.f (wrap64 (9 + (wrap64 (Int.tmod (IntKind.u64.wrap (a0)) 4)))) (wrap64 (512 * (wrap64 (1 + (wrap64 (Int.tmod (IntKind.u64.wrap (a1)) 2000)))))) (wrap64 (200 + (wrap64 (Int.tmod (IntKind.u64.wrap (a2)) 500)))) t154 false).bind fun t160 => (if t159 = t160 then ((header_Header_Check.f k (wrap64 (9 + (wrap64 (Int.tmod (IntKind.u64.wrap (a0)) 4)))) (wrap64 (512 * (wrap64 (1 + (wrap64 (Int.tmod (IntKind.u64.wrap (a1)) 2000)))))) (wrap64 (200 + (wrap64 (Int.tmod (IntKind.u64.wrap (a2)) 500)))) t154 false).bind fun t161 => (if t161 = 0 then ((header_Header_Check.f k (wrap64 (9 + (wrap64 (Int.tmod (IntKind.u64.wrap (a0)) 4)))) (wrap64 (512 * (wrap64 (1 + (wrap64 (Int.tmod (IntKind.u64.wrap (a1)) 2000)))))) (wrap64 (200 + (wrap64 (Int.tmod (IntKind.u64.wrap (a2)) 500)))) (wrap64 (t154 - 1)) false).bind fun t162 => (if t162 = 11 then ((header_Header_Check.f k (wrap64 (9 + (wrap64 (Int.tmod (IntKind.u64.wrap (a0)) 4)))) (wrap64 (512 * (wrap64 (1 + (wrap64 (Int.tmod (IntKind.u64.wrap (a1)) 2000)))))) (wrap64 (t158 - 1)) t154 false).bind fun t163 => (some (t163 == 11))) else (none))) else (none))) else ((header_Header_Check.f k (wrap64 (9 + (wrap64 (Int.tmod (IntKind.u64.wrap (a0)) 4)))) (wrap64 (512 * (wrap64 (1 + (wrap64 (Int.tmod (IntKind.u64.wrap (a1)) 2000)))))) (wrap64 (200 + (wrap64 (Int.tmod (IntKind.u64.wrap (a2)) 500)))) t154 false).bind fun t164 => (if t164 = 0 then ((header_Header_Check.f k (wrap64 (9 + (wrap64 (Int.tmod (IntKind.u64.wrap (a0)) 4)))) (wrap64 (512 * (wrap64 (1 + (wrap64 (Int.tmod (IntKind.u64.wrap (a1)) 2000)))))) (wrap64 (200 + (wrap64 (Int.tmod (IntKind.u64.wrap (a2)) 500)))) (wrap64 (t154 - 1)) false).bind fun t165 => (some (t165 == 11))) else (none)))))))))) else (none)) = some r := H
  have A4 := Aside0.mk A40
  clear A40
  by_cases c5 : t152 = true
  · subst c5
    have H1 : ((header_Header_Least.f (wrap64 (9 + (wrap64 (Int.tmod (IntKind.u64.wrap (a0)) 4)))) (wrap64 (512 * (wrap64 (1 + (wrap64 (Int.tmod (IntKind.u64.wrap (a1)) 2000)))))) (wrap64 (200 + (wrap64 (Int.tmod (IntKind.u64.wrap (a2)) 500)))) 0 false).bind fun t154 => ((header_Header_First.f (wrap64 (9 + (wrap64 (Int.tmod (IntKind.u64.wrap (a0)) 4)))) (wrap64 (512 * (wrap64 (1 + (wrap64 (Int.tmod (IntKind.u64.wrap (a1)) 2000)))))) (wrap64 (200 + (wrap64 (Int.tmod (IntKind.u64.wrap (a2)) 500)))) t154 false).bind fun t155 => (if t155 > (wrap64 (200 + (wrap64 (Int.tmod (IntKind.u64.wrap (a2)) 500)))) then (some true) else ((header_Header_First.f (wrap64 (9 + (wrap64 (Int.tmod (IntKind.u64.wrap (a0)) 4)))) (wrap64 (512 * (wrap64 (1 + (wrap64 (Int.tmod (IntKind.u64.wrap (a1)) 2000)))))) (wrap64 (200 + (wrap64 (Int.tmod (IntKind.u64.wrap (a2)) 500)))) t154 false).bind fun t158 => ((header_Header_Least.f (wrap64 (9 + (wrap64 (Int.tmod (IntKind.u64.wrap (a0)) 4)))) (wrap64 (512 * (wrap64 (1 + (wrap64 (Int.tmod (IntKind.u64.wrap (a1)) 2000)))))) (wrap64 (t158 - 1)) t154 false).bind fun t159 => ((header_Header_Least.f (wrap64 (9 + (wrap64 (Int.tmod (IntKind.u64.wrap (a0)) 4)))) (wrap64 (512 * (wrap64 (1 + (wrap64 (Int.tmod (IntKind.u64.wrap (a1)) 2000)))))) (wrap64 (200 + (wrap64 (Int.tmod (IntKind.u64.wrap (a2)) 500)))) t154 false).bind fun t160 => (if t159 = t160 then ((header_Header_Check.f k (wrap64 (9 + (wrap64 (Int.tmod (IntKind.u64.wrap (a0)) 4)))) (wrap64 (512 * (wrap64 (1 + (wrap64 (Int.tmod (IntKind.u64.wrap (a1)) 2000)))))) (wrap64 (200 + (wrap64 (Int.tmod (IntKind.u64.wrap (a2)) 500)))) t154 false).bind fun t161 => (if t161 = 0 then ((header_Header_Check.f k (wrap64 (9 + (wrap64 (Int.tmod (IntKind.u64.wrap (a0)) 4)))) (wrap64 (512 * (wrap64 (1 + (wrap64 (Int.tmod (IntKind.u64.wrap (a1)) 2000)))))) (wrap64 (200 + (wrap64 (Int.tmod (IntKind.u64.wrap (a2)) 500)))) (wrap64 (t154 - 1)) false).bind fun t162 => (if t162 = 11 then ((header_Header_Check.f k (wrap64 (9 + (wrap64 (Int.tmod (IntKind.u64.wrap (a0)) 4)))) (wrap64 (512 * (wrap64 (1 + (wrap64 (Int.tmod (IntKind.u64.wrap (a1)) 2000)))))) (wrap64 (t158 - 1)) t154 false).bind fun t163 => (some (t163 == 11))) else (none))) else (none))) else ((header_Header_Check.f k (wrap64 (9 + (wrap64 (Int.tmod (IntKind.u64.wrap (a0)) 4)))) (wrap64 (512 * (wrap64 (1 + (wrap64 (Int.tmod (IntKind.u64.wrap (a1)) 2000)))))) (wrap64 (200 + (wrap64 (Int.tmod (IntKind.u64.wrap (a2)) 500)))) t154 false).bind fun t164 => (if t164 = 0 then ((header_Header_Check.f k (wrap64 (9 + (wrap64 (Int.tmod (IntKind.u64.wrap (a0)) 4)))) (wrap64 (512 * (wrap64 (1 + (wrap64 (Int.tmod (IntKind.u64.wrap (a1)) 2000)))))) (wrap64 (200 + (wrap64 (Int.tmod (IntKind.u64.wrap (a2)) 500)))) (wrap64 (t154 - 1)) false).bind fun t165 => (some (t165 == 11))) else (none)))))))))) = some r := by rw [if_pos rfl] at H; exact H
    clear H
    have H := H1
    clear H1
    replace H := Option.bind_eq_some_iff.mp H
    obtain ⟨t154, A60, H⟩ := H
    replace H : ((header_Header_First.f (wrap64 (9 + (wrap64 (Int.tmod (IntKind.u64.wrap (a0)) 4)))) (wrap64 (512 * (wrap64 (1 + (wrap64 (Int.tmod (IntKind.u64.wrap (a1)) 2000)))))) (wrap64 (200 + (wrap64 (Int.tmod (IntKind.u64.wrap (a2)) 500)))) t154 false).bind fun t155 => (if t155 > (wrap64 (200 + (wrap64 (Int.tmod (IntKind.u64.wrap (a2)) 500)))) then (some true) else ((header_Header_First.f (wrap64 (9 + (wrap64 (Int.tmod (IntKind.u64.wrap (a0)) 4)))) (wrap64 (512 * (wrap64 (1 + (wrap64 (Int.tmod (IntKind.u64.wrap (a1)) 2000)))))) (wrap64 (200 + (wrap64 (Int.tmod (IntKind.u64.wrap (a2)) 500)))) t154 false).bind fun t158 => ((header_Header_Least.f (wrap64 (9 + (wrap64 (Int.tmod (IntKind.u64.wrap (a0)) 4)))) (wrap64 (512 * (wrap64 (1 + (wrap64 (Int.tmod (IntKind.u64.wrap (a1)) 2000)))))) (wrap64 (t158 - 1)) t154 false).bind fun t159 => ((header_Header_Least.f (wrap64 (9 + (wrap64 (Int.tmod (IntKind.u64.wrap (a0)) 4)))) (wrap64 (512 * (wrap64 (1 + (wrap64 (Int.tmod (IntKind.u64.wrap (a1)) 2000)))))) (wrap64 (200 + (wrap64 (Int.tmod (IntKind.u64.wrap (a2)) 500)))) t154 false).bind fun t160 => (if t159 = t160 then ((header_Header_Check.f k (wrap64 (9 + (wrap64 (Int.tmod (IntKind.u64.wrap (a0)) 4)))) (wrap64 (512 * (wrap64 (1 + (wrap64 (Int.tmod (IntKind.u64.wrap (a1)) 2000)))))) (wrap64 (200 + (wrap64 (Int.tmod (IntKind.u64.wrap (a2)) 500)))) t154 false).bind fun t161 => (if t161 = 0 then ((header_Header_Check.f k (wrap64 (9 + (wrap64 (Int.tmod (IntKind.u64.wrap (a0)) 4)))) (wrap64 (512 * (wrap64 (1 + (wrap64 (Int.tmod (IntKind.u64.wrap (a1)) 2000)))))) (wrap64 (200 + (wrap64 (Int.tmod (IntKind.u64.wrap (a2)) 500)))) (wrap64 (t154 - 1)) false).bind fun t162 => (if t162 = 11 then ((header_Header_Check.f k (wrap64 (9 + (wrap64 (Int.tmod (IntKind.u64.wrap (a0)) 4)))) (wrap64 (512 * (wrap64 (1 + (wrap64 (Int.tmod (IntKind.u64.wrap (a1)) 2000)))))) (wrap64 (t158 - 1)) t154 false).bind fun t163 => (some (t163 == 11))) else (none))) else (none))) else ((header_Header_Check.f k (wrap64 (9 + (wrap64 (Int.tmod (IntKind.u64.wrap (a0)) 4)))) (wrap64 (512 * (wrap64 (1 + (wrap64 (Int.tmod (IntKind.u64.wrap (a1)) 2000)))))) (wrap64 (200 + (wrap64 (Int.tmod (IntKind.u64.wrap (a2)) 500)))) t154 false).bind fun t164 => (if t164 = 0 then ((header_Header_Check.f k (wrap64 (9 + (wrap64 (Int.tmod (IntKind.u64.wrap (a0)) 4)))) (wrap64 (512 * (wrap64 (1 + (wrap64 (Int.tmod (IntKind.u64.wrap (a1)) 2000)))))) (wrap64 (200 + (wrap64 (Int.tmod (IntKind.u64.wrap (a2)) 500)))) (wrap64 (t154 - 1)) false).bind fun t165 => (some (t165 == 11))) else (none))))))))) = some r := H
    have A6 := Aside0.mk A60
    clear A60
    replace H := Option.bind_eq_some_iff.mp H
    obtain ⟨t155, A70, H⟩ := H
    replace H : (if t155 > (wrap64 (200 + (wrap64 (Int.tmod (IntKind.u64.wrap (a2)) 500)))) then (some true) else ((header_Header_First.f (wrap64 (9 + (wrap64 (Int.tmod (IntKind.u64.wrap (a0)) 4)))) (wrap64 (512 * (wrap64 (1 + (wrap64 (Int.tmod (IntKind.u64.wrap (a1)) 2000)))))) (wrap64 (200 + (wrap64 (Int.tmod (IntKind.u64.wrap (a2)) 500)))) t154 false).bind fun t158 => ((header_Header_Least.f (wrap64 (9 + (wrap64 (Int.tmod (IntKind.u64.wrap (a0)) 4)))) (wrap64 (512 * (wrap64 (1 + (wrap64 (Int.tmod (IntKind.u64.wrap (a1)) 2000)))))) (wrap64 (t158 - 1)) t154 false).bind fun t159 => ((header_Header_Least.f (wrap64 (9 + (wrap64 (Int.tmod (IntKind.u64.wrap (a0)) 4)))) (wrap64 (512 * (wrap64 (1 + (wrap64 (Int.tmod (IntKind.u64.wrap (a1)) 2000)))))) (wrap64 (200 + (wrap64 (Int.tmod (IntKind.u64.wrap (a2)) 500)))) t154 false).bind fun t160 => (if t159 = t160 then ((header_Header_Check.f k (wrap64 (9 + (wrap64 (Int.tmod (IntKind.u64.wrap (a0)) 4)))) (wrap64 (512 * (wrap64 (1 + (wrap64 (Int.tmod (IntKind.u64.wrap (a1)) 2000)))))) (wrap64 (200 + (wrap64 (Int.tmod (IntKind.u64.wrap (a2)) 500)))) t154 false).bind fun t161 => (if t161 = 0 then ((header_Header_Check.f k (wrap64 (9 + (wrap64 (Int.tmod (IntKind.u64.wrap (a0)) 4)))) (wrap64 (512 * (wrap64 (1 + (wrap64 (Int.tmod (IntKind.u64.wrap (a1)) 2000)))))) (wrap64 (200 + (wrap64 (Int.tmod (IntKind.u64.wrap (a2)) 500)))) (wrap64 (t154 - 1)) false).bind fun t162 => (if t162 = 11 then ((header_Header_Check.f k (wrap64 (9 + (wrap64 (Int.tmod (IntKind.u64.wrap (a0)) 4)))) (wrap64 (512 * (wrap64 (1 + (wrap64 (Int.tmod (IntKind.u64.wrap (a1)) 2000)))))) (wrap64 (t158 - 1)) t154 false).bind fun t163 => (some (t163 == 11))) else (none))) else (none))) else ((header_Header_Check.f k (wrap64 (9 + (wrap64 (Int.tmod (IntKind.u64.wrap (a0)) 4)))) (wrap64 (512 * (wrap64 (1 + (wrap64 (Int.tmod (IntKind.u64.wrap (a1)) 2000)))))) (wrap64 (200 + (wrap64 (Int.tmod (IntKind.u64.wrap (a2)) 500)))) t154 false).bind fun t164 => (if t164 = 0 then ((header_Header_Check.f k (wrap64 (9 + (wrap64 (Int.tmod (IntKind.u64.wrap (a0)) 4)))) (wrap64 (512 * (wrap64 (1 + (wrap64 (Int.tmod (IntKind.u64.wrap (a1)) 2000)))))) (wrap64 (200 + (wrap64 (Int.tmod (IntKind.u64.wrap (a2)) 500)))) (wrap64 (t154 - 1)) false).bind fun t165 => (some (t165 == 11))) else (none)))))))) = some r := H
    have A7 := Aside0.mk A70
    clear A70
    by_cases c8 : t155 > (wrap64 (200 + (wrap64 (Int.tmod (IntKind.u64.wrap (a2)) 500))))
    · rw [if_pos c8] at H
      have c8b0 : decide ((wrap64 (200 + (wrap64 (Int.tmod (IntKind.u64.wrap (a2)) 500)))) < t155) = true := decide_eq_true c8
      clear c8
      obtain rfl := Option.some.inj H
      go_enter Try.func13, Try.ntmps13
      try go_wp2_with (first | ((with_reducible refine gate_callee (f := 49) rfl ?_); refine goesL_ (some 10) rfl rfl Try.func49 (by kernel_rfl) rfl #[] rfl (by (try simp only [List.map_toArray, List.map_cons, List.map_nil]); first | done | rfl | (simp only [List.length_drop, List.length_take]; rfl)) ?_; (with_reducible refine (fettlelaw07_laid.calls k  true _ A4.out).mono ?_); rintro e w9 ⟨rfl, hb⟩; refine ⟨_, rfl, ?_⟩; have n0_ := Aside0.mk (below_step (by repeat (first | (with_reducible first | exact HB.out | apply below_alloc | apply pw_below_drewN | apply below_drew1) | exact HB.out)) hb); clear HB; have HB := n0_; clear n0_; (try clear hb); (try clear hb2); (try clear hk); (try clear hi)) | ((with_reducible refine gate_dst (N := 7) rfl ?_); refine box_event ?hg (N := 7) ?hd (cs := #[.int .i64 0, .int .i64 0, .int .i64 0, .int .i64 0, .bool false]) (t := 69) ?hr ?_; (case hd => rfl); (case hg => rfl); (case hr => first | (go_simp; done) | (go_simp; rfl)); intro gb153 hg w10 hbox hb; have n0_ := Aside0.mk (below_step (by repeat (first | (with_reducible first | exact HB.out | apply below_alloc | apply pw_below_drewN | apply below_drew1) | exact HB.out)) hb); have n1_ := Aside0.mk (hbox); have n2_ := Aside0.mk ((by rw [hg]; exact (below_size (by repeat (first | (with_reducible first | exact HB.out | apply below_alloc | apply pw_below_drewN | apply below_drew1) | exact HB.out))) : w.heap.size ≤ gb153)); have n3_ := Aside0.mk ((by rw [hg]; exact (below_size (by repeat (first | (with_reducible first | exact HB.out | apply below_alloc | apply pw_below_drewN | apply below_drew1) | exact HB.out))) : w.heap.size ≤ gb153)); clear HB; have HB := n0_; have BK153 := n1_; have GW153 := n2_; have GE153 := n3_; clear n0_ n1_ n2_ n3_; clear hb hbox hg; have hcz11_0 : w10.cell? ⟨gb153, 0, none⟩ = some (.int .i64 0) := (blk_cell BK153.out 0).trans rfl; have hcz11_1 : w10.cell? ⟨gb153, 1, none⟩ = some (.int .i64 0) := (blk_cell BK153.out 1).trans rfl; have hcz11_2 : w10.cell? ⟨gb153, 2, none⟩ = some (.int .i64 0) := (blk_cell BK153.out 2).trans rfl; have hcz11_3 : w10.cell? ⟨gb153, 3, none⟩ = some (.int .i64 0) := (blk_cell BK153.out 3).trans rfl; have hcz11_4 : w10.cell? ⟨gb153, 4, none⟩ = some (.bool false) := (blk_cell BK153.out 4).trans rfl; have hfz11_0 := blk_frozen BK153.out 0; have hfz11_1 := blk_frozen BK153.out 1; have hfz11_2 := blk_frozen BK153.out 2; have hfz11_3 := blk_frozen BK153.out 3; have hfz11_4 := blk_frozen BK153.out 4) | ((with_reducible refine gate_callee (f := 56) rfl ?_); refine goesL_ (some 30) rfl rfl Try.func56 (by kernel_rfl) rfl #[.agg #[.int .i64 (wrap64 (9 + (wrap64 (Int.tmod (IntKind.u64.wrap (a0)) 4)))), .int .i64 (wrap64 (512 * (wrap64 (1 + (wrap64 (Int.tmod (IntKind.u64.wrap (a1)) 2000)))))), .int .i64 (wrap64 (200 + (wrap64 (Int.tmod (IntKind.u64.wrap (a2)) 500)))), .int .i64 0, .bool false]] rfl (by (try simp only [List.map_toArray, List.map_cons, List.map_nil]); first | done | rfl | (simp only [List.length_drop, List.length_take]; rfl)) ?_; (with_reducible refine (header_Header_Least.calls (wrap64 (9 + (wrap64 (Int.tmod (IntKind.u64.wrap (a0)) 4)))) (wrap64 (512 * (wrap64 (1 + (wrap64 (Int.tmod (IntKind.u64.wrap (a1)) 2000)))))) (wrap64 (200 + (wrap64 (Int.tmod (IntKind.u64.wrap (a2)) 500)))) 0 false t154 _ A6.out).mono ?_); rintro e w12 ⟨rfl, hb⟩; refine ⟨_, rfl, ?_⟩; have n0_ := Aside0.mk (blk_below (g := gb153) (o := .cells #[.int .i64 (wrap64 (9 + (wrap64 (Int.tmod (IntKind.u64.wrap (a0)) 4)))), .int .i64 (wrap64 (512 * (wrap64 (1 + (wrap64 (Int.tmod (IntKind.u64.wrap (a1)) 2000)))))), .int .i64 (wrap64 (200 + (wrap64 (Int.tmod (IntKind.u64.wrap (a2)) 500)))), .int .i64 0, .bool false] 69 (0, 0)) (by (with_reducible repeat (first | refine blk_drewN ?_ _ | refine blk_drew ?_ | refine blk_alloc ?_ _)); refine blk_put (cs := #[.int .i64 (wrap64 (9 + (wrap64 (Int.tmod (IntKind.u64.wrap (a0)) 4)))), .int .i64 (wrap64 (512 * (wrap64 (1 + (wrap64 (Int.tmod (IntKind.u64.wrap (a1)) 2000)))))), .int .i64 (wrap64 (200 + (wrap64 (Int.tmod (IntKind.u64.wrap (a2)) 500)))), .int .i64 0, .bool false]) ?_ 4 _ (by first | rfl | (simp [*]; done)); (with_reducible repeat (first | refine blk_drewN ?_ _ | refine blk_drew ?_ | refine blk_alloc ?_ _)); refine blk_put (cs := #[.int .i64 (wrap64 (9 + (wrap64 (Int.tmod (IntKind.u64.wrap (a0)) 4)))), .int .i64 (wrap64 (512 * (wrap64 (1 + (wrap64 (Int.tmod (IntKind.u64.wrap (a1)) 2000)))))), .int .i64 (wrap64 (200 + (wrap64 (Int.tmod (IntKind.u64.wrap (a2)) 500)))), .int .i64 0, .bool false]) ?_ 3 _ (by first | rfl | (simp [*]; done)); (with_reducible repeat (first | refine blk_drewN ?_ _ | refine blk_drew ?_ | refine blk_alloc ?_ _)); refine blk_put (cs := #[.int .i64 (wrap64 (9 + (wrap64 (Int.tmod (IntKind.u64.wrap (a0)) 4)))), .int .i64 (wrap64 (512 * (wrap64 (1 + (wrap64 (Int.tmod (IntKind.u64.wrap (a1)) 2000)))))), .int .i64 0, .int .i64 0, .bool false]) ?_ 2 _ (by first | rfl | (simp [*]; done)); (with_reducible repeat (first | refine blk_drewN ?_ _ | refine blk_drew ?_ | refine blk_alloc ?_ _)); refine blk_put (cs := #[.int .i64 (wrap64 (9 + (wrap64 (Int.tmod (IntKind.u64.wrap (a0)) 4)))), .int .i64 0, .int .i64 0, .int .i64 0, .bool false]) ?_ 1 _ (by first | rfl | (simp [*]; done)); (with_reducible repeat (first | refine blk_drewN ?_ _ | refine blk_drew ?_ | refine blk_alloc ?_ _)); refine blk_put (cs := #[.int .i64 0, .int .i64 0, .int .i64 0, .int .i64 0, .bool false]) ?_ 0 _ (by first | rfl | (simp [*]; done)); (with_reducible repeat (first | refine blk_drewN ?_ _ | refine blk_drew ?_ | refine blk_alloc ?_ _)); exact BK153.out) hb); have n1_ := Aside0.mk (below_step (by repeat (first | (with_reducible first | exact HB.out | apply below_alloc | apply pw_below_drewN | apply below_drew1 | refine below_set ?_ GE153.out) | exact HB.out)) hb); clear BK153; clear HB; have BK153 := n0_; have HB := n1_; clear n0_ n1_; (try clear hb); (try clear hb2); (try clear hk); (try clear hi); have hcz13_0 : w12.cell? ⟨gb153, 0, none⟩ = some (.int .i64 (wrap64 (9 + (wrap64 (Int.tmod (IntKind.u64.wrap (a0)) 4))))) := (blk_cell BK153.out 0).trans rfl; have hcz13_1 : w12.cell? ⟨gb153, 1, none⟩ = some (.int .i64 (wrap64 (512 * (wrap64 (1 + (wrap64 (Int.tmod (IntKind.u64.wrap (a1)) 2000))))))) := (blk_cell BK153.out 1).trans rfl; have hcz13_2 : w12.cell? ⟨gb153, 2, none⟩ = some (.int .i64 (wrap64 (200 + (wrap64 (Int.tmod (IntKind.u64.wrap (a2)) 500))))) := (blk_cell BK153.out 2).trans rfl; have hcz13_3 : w12.cell? ⟨gb153, 3, none⟩ = some (.int .i64 0) := (blk_cell BK153.out 3).trans rfl; have hcz13_4 : w12.cell? ⟨gb153, 4, none⟩ = some (.bool false) := (blk_cell BK153.out 4).trans rfl; have hfz13_0 := blk_frozen BK153.out 0; have hfz13_1 := blk_frozen BK153.out 1; have hfz13_2 := blk_frozen BK153.out 2; have hfz13_3 := blk_frozen BK153.out 3; have hfz13_4 := blk_frozen BK153.out 4))
      have n0_ : Aside0 ((w12.setCell ⟨gb153, 3, none⟩ (.int .i64 t154)).heap[gb153]? = some (.cells #[.int .i64 (wrap64 (9 + (wrap64 (Int.tmod (IntKind.u64.wrap (a0)) 4)))), .int .i64 (wrap64 (512 * (wrap64 (1 + (wrap64 (Int.tmod (IntKind.u64.wrap (a1)) 2000)))))), .int .i64 (wrap64 (200 + (wrap64 (Int.tmod (IntKind.u64.wrap (a2)) 500)))), .int .i64 t154, .bool false] 69 (0, 0))) := ⟨by (with_reducible repeat (first | refine blk_drewN ?_ _ | refine blk_drew ?_ | refine blk_alloc ?_ _)); refine blk_put (cs := #[.int .i64 (wrap64 (9 + (wrap64 (Int.tmod (IntKind.u64.wrap (a0)) 4)))), .int .i64 (wrap64 (512 * (wrap64 (1 + (wrap64 (Int.tmod (IntKind.u64.wrap (a1)) 2000)))))), .int .i64 (wrap64 (200 + (wrap64 (Int.tmod (IntKind.u64.wrap (a2)) 500)))), .int .i64 0, .bool false]) ?_ 3 _ (by first | rfl | (simp [*]; done)); (with_reducible repeat (first | refine blk_drewN ?_ _ | refine blk_drew ?_ | refine blk_alloc ?_ _)); exact BK153.out⟩
      have n1_ : Aside0 (Below w.heap.size w (w12.setCell ⟨gb153, 3, none⟩ (.int .i64 t154))) := ⟨by repeat (first | (with_reducible first | exact HB.out | apply below_alloc | apply pw_below_drewN | apply below_drew1 | refine below_set ?_ GE153.out) | exact HB.out)⟩
      (try clear BK153)
      (try clear HB)
      generalize (w12.setCell ⟨gb153, 3, none⟩ (.int .i64 t154)) = w14 at n0_ n1_ ⊢
      have BK153 := n0_
      have HB := n1_
      clear n0_ n1_
      have n0_ := Aside0.mk (blk_drew BK153.out)
      have n1_ := Aside0.mk (below_drew1 HB.out)
      clear BK153
      clear HB
      have BK153 := n0_
      have HB := n1_
      clear n0_ n1_
      refine start_ (n := 5) (S := fun w' => w'.cell? ⟨gb153, 0, none⟩ = some (.int .i64 (wrap64 (9 + (wrap64 (Int.tmod (IntKind.u64.wrap (a0)) 4))))) ∧ w'.cell? ⟨gb153, 1, none⟩ = some (.int .i64 (wrap64 (512 * (wrap64 (1 + (wrap64 (Int.tmod (IntKind.u64.wrap (a1)) 2000))))))) ∧ w'.cell? ⟨gb153, 2, none⟩ = some (.int .i64 (wrap64 (200 + (wrap64 (Int.tmod (IntKind.u64.wrap (a2)) 500))))) ∧ w'.cell? ⟨gb153, 3, none⟩ = some (.int .i64 t154) ∧ w'.cell? ⟨gb153, 4, none⟩ = some (.bool false)) (ds := []) #[false, false, false, false, false] (by kernel_rfl) rfl rfl ⟨(blk_cell BK153.out 0).trans rfl, (blk_cell BK153.out 1).trans rfl, (blk_cell BK153.out 2).trans rfl, (blk_cell BK153.out 3).trans rfl, (blk_cell BK153.out 4).trans rfl⟩ (fun hHeld => ?_)
      generalize w14.drew = w15 at BK153 HB hHeld ⊢
      refine pure_ (i := 2) (N := some 34) (v := ?_) (a' := ?_) #[false, false, true, false, false] rfl rfl (by kernel_rfl) (fun _ _ _ h => h) (Or.inl ⟨by rfl, ?_⟩) ?_ ?_
      rotate_left
      · intro w'
        go_simp
        with_reducible rfl
      rotate_left
      · simp only [Act.put, List.setIfInBounds_toArray, List.set_cons_zero, List.set_cons_succ, i64_w, i32_w]
        rfl
      refine take_ (i := 0) (N := some 32) (v := ?_) (a' := ?_) #[true, false, true, false, false] rfl rfl (by kernel_rfl) (fun _ _ _ h => h) (Or.inl ⟨by rfl, ?_⟩) hHeld ?_ ?_
      rotate_left
      · rintro w' ⟨s0, s1, s2, s3, s4⟩
        go_simp
        with_reducible rfl
      rotate_left
      · simp only [Act.put, List.setIfInBounds_toArray, List.set_cons_zero, List.set_cons_succ, i64_w, i32_w]
        rfl
      refine take_ (i := 3) (N := some 35) (v := ?_) (a' := ?_) #[true, false, true, true, false] rfl rfl (by kernel_rfl) (fun _ _ _ h => h) (Or.inl ⟨by rfl, ?_⟩) hHeld ?_ ?_
      rotate_left
      · rintro w' ⟨s0, s1, s2, s3, s4⟩
        go_simp
        with_reducible rfl
      rotate_left
      · simp only [Act.put, List.setIfInBounds_toArray, List.set_cons_zero, List.set_cons_succ, i64_w, i32_w]
        rfl
      refine one_ (i := 1) (N := some 33) #[true, true, true, true, false] rfl rfl (by kernel_rfl) (by decide) (fun K hK => ?_)
      refine goes_ Try.func54 (by kernel_rfl) rfl #[.agg #[.int .i64 (wrap64 (9 + (wrap64 (Int.tmod (IntKind.u64.wrap (a0)) 4)))), .int .i64 (wrap64 (512 * (wrap64 (1 + (wrap64 (Int.tmod (IntKind.u64.wrap (a1)) 2000)))))), .int .i64 (wrap64 (200 + (wrap64 (Int.tmod (IntKind.u64.wrap (a2)) 500)))), .int .i64 t154, .bool false]] (by rfl) rfl rfl (by (try simp only [List.map_toArray, List.map_cons, List.map_nil]); first | done | rfl | (simp only [List.length_drop, List.length_take]; rfl)) ?_
      with_reducible refine (header_Header_First.calls (wrap64 (9 + (wrap64 (Int.tmod (IntKind.u64.wrap (a0)) 4)))) (wrap64 (512 * (wrap64 (1 + (wrap64 (Int.tmod (IntKind.u64.wrap (a1)) 2000)))))) (wrap64 (200 + (wrap64 (Int.tmod (IntKind.u64.wrap (a2)) 500)))) t154 false t155 _ A7.out).mono ?_
      rintro e w16 ⟨rfl, hb⟩
      refine ⟨_, rfl, ?_⟩
      have n0_ := Aside0.mk (blk_below (g := gb153) (o := .cells #[.int .i64 (wrap64 (9 + (wrap64 (Int.tmod (IntKind.u64.wrap (a0)) 4)))), .int .i64 (wrap64 (512 * (wrap64 (1 + (wrap64 (Int.tmod (IntKind.u64.wrap (a1)) 2000)))))), .int .i64 (wrap64 (200 + (wrap64 (Int.tmod (IntKind.u64.wrap (a2)) 500)))), .int .i64 t154, .bool false] 69 (0, 0)) (by (with_reducible repeat (first | refine blk_drewN ?_ _ | refine blk_drew ?_ | refine blk_alloc ?_ _)); exact BK153.out) hb)
      have n1_ := Aside0.mk (below_step (by repeat (first | (with_reducible first | exact HB.out | apply below_alloc | apply pw_below_drewN | apply below_drew1 | refine below_set ?_ GE153.out) | exact HB.out)) hb)
      clear BK153
      clear HB
      have BK153 := n0_
      have HB := n1_
      clear n0_ n1_
      (try clear hb)
      (try clear hb2)
      (try clear hk)
      (try clear hi)
      refine hK.out _ _ ⟨(blk_cell BK153.out 0).trans rfl, (blk_cell BK153.out 1).trans rfl, (blk_cell BK153.out 2).trans rfl, (blk_cell BK153.out 3).trans rfl, (blk_cell BK153.out 4).trans rfl⟩ (fun hHeld => ?_)
      clear hK K
      refine norm_ (a' := ?_) ?_ ?_
      rotate_left
      · show Act.put _ (some 33) _ = _
        simp only [Act.put, List.setIfInBounds_toArray, List.set_cons_zero, List.set_cons_succ, i64_w, i32_w]
        rfl
      refine pure_ (i := 4) (N := some 36) (v := ?_) (a' := ?_) #[true, true, true, true, true] rfl rfl (by kernel_rfl) (fun _ _ _ h => h) (Or.inl ⟨by rfl, ?_⟩) ?_ ?_
      rotate_left
      · intro w'
        go_simp
        with_reducible rfl
      rotate_left
      · simp only [Act.put, List.setIfInBounds_toArray, List.set_cons_zero, List.set_cons_succ, i64_w, i32_w]
        rfl
      refine done_ (by kernel_rfl) ?_
      try go_wp2
      go_ret
      exact ⟨by first | rfl | (simp [errW_none, errW_some] <;> rfl) | (simp [*, errW_none, errW_some] <;> rfl), by repeat (first | (with_reducible first | exact HB.out | apply below_alloc | apply pw_below_drewN | apply below_drew1 | refine below_set ?_ GE153.out) | exact HB.out)⟩
    · rw [if_neg c8] at H
      have c8b0 : decide ((wrap64 (200 + (wrap64 (Int.tmod (IntKind.u64.wrap (a2)) 500)))) < t155) = false := decide_eq_false c8
      clear c8
      replace H := Option.bind_eq_some_iff.mp H
      obtain ⟨t158, A170, H⟩ := H
      replace H : ((header_Header_Least.f (wrap64 (9 + (wrap64 (Int.tmod (IntKind.u64.wrap (a0)) 4)))) (wrap64 (512 * (wrap64 (1 + (wrap64 (Int.tmod (IntKind.u64.wrap (a1)) 2000)))))) (wrap64 (t158 - 1)) t154 false).bind fun t159 => ((header_Header_Least.f (wrap64 (9 + (wrap64 (Int.tmod (IntKind.u64.wrap (a0)) 4)))) (wrap64 (512 * (wrap64 (1 + (wrap64 (Int.tmod (IntKind.u64.wrap (a1)) 2000)))))) (wrap64 (200 + (wrap64 (Int.tmod (IntKind.u64.wrap (a2)) 500)))) t154 false).bind fun t160 => (if t159 = t160 then ((header_Header_Check.f k (wrap64 (9 + (wrap64 (Int.tmod (IntKind.u64.wrap (a0)) 4)))) (wrap64 (512 * (wrap64 (1 + (wrap64 (Int.tmod (IntKind.u64.wrap (a1)) 2000)))))) (wrap64 (200 + (wrap64 (Int.tmod (IntKind.u64.wrap (a2)) 500)))) t154 false).bind fun t161 => (if t161 = 0 then ((header_Header_Check.f k (wrap64 (9 + (wrap64 (Int.tmod (IntKind.u64.wrap (a0)) 4)))) (wrap64 (512 * (wrap64 (1 + (wrap64 (Int.tmod (IntKind.u64.wrap (a1)) 2000)))))) (wrap64 (200 + (wrap64 (Int.tmod (IntKind.u64.wrap (a2)) 500)))) (wrap64 (t154 - 1)) false).bind fun t162 => (if t162 = 11 then ((header_Header_Check.f k (wrap64 (9 + (wrap64 (Int.tmod (IntKind.u64.wrap (a0)) 4)))) (wrap64 (512 * (wrap64 (1 + (wrap64 (Int.tmod (IntKind.u64.wrap (a1)) 2000)))))) (wrap64 (t158 - 1)) t154 false).bind fun t163 => (some (t163 == 11))) else (none))) else (none))) else ((header_Header_Check.f k (wrap64 (9 + (wrap64 (Int.tmod (IntKind.u64.wrap (a0)) 4)))) (wrap64 (512 * (wrap64 (1 + (wrap64 (Int.tmod (IntKind.u64.wrap (a1)) 2000)))))) (wrap64 (200 + (wrap64 (Int.tmod (IntKind.u64.wrap (a2)) 500)))) t154 false).bind fun t164 => (if t164 = 0 then ((header_Header_Check.f k (wrap64 (9 + (wrap64 (Int.tmod (IntKind.u64.wrap (a0)) 4)))) (wrap64 (512 * (wrap64 (1 + (wrap64 (Int.tmod (IntKind.u64.wrap (a1)) 2000)))))) (wrap64 (200 + (wrap64 (Int.tmod (IntKind.u64.wrap (a2)) 500)))) (wrap64 (t154 - 1)) false).bind fun t165 => (some (t165 == 11))) else (none)))))) = some r := H
      have A17 := Aside0.mk A170
      clear A170
      replace H := Option.bind_eq_some_iff.mp H
      obtain ⟨t159, A180, H⟩ := H
      replace H : ((header_Header_Least.f (wrap64 (9 + (wrap64 (Int.tmod (IntKind.u64.wrap (a0)) 4)))) (wrap64 (512 * (wrap64 (1 + (wrap64 (Int.tmod (IntKind.u64.wrap (a1)) 2000)))))) (wrap64 (200 + (wrap64 (Int.tmod (IntKind.u64.wrap (a2)) 500)))) t154 false).bind fun t160 => (if t159 = t160 then ((header_Header_Check.f k (wrap64 (9 + (wrap64 (Int.tmod (IntKind.u64.wrap (a0)) 4)))) (wrap64 (512 * (wrap64 (1 + (wrap64 (Int.tmod (IntKind.u64.wrap (a1)) 2000)))))) (wrap64 (200 + (wrap64 (Int.tmod (IntKind.u64.wrap (a2)) 500)))) t154 false).bind fun t161 => (if t161 = 0 then ((header_Header_Check.f k (wrap64 (9 + (wrap64 (Int.tmod (IntKind.u64.wrap (a0)) 4)))) (wrap64 (512 * (wrap64 (1 + (wrap64 (Int.tmod (IntKind.u64.wrap (a1)) 2000)))))) (wrap64 (200 + (wrap64 (Int.tmod (IntKind.u64.wrap (a2)) 500)))) (wrap64 (t154 - 1)) false).bind fun t162 => (if t162 = 11 then ((header_Header_Check.f k (wrap64 (9 + (wrap64 (Int.tmod (IntKind.u64.wrap (a0)) 4)))) (wrap64 (512 * (wrap64 (1 + (wrap64 (Int.tmod (IntKind.u64.wrap (a1)) 2000)))))) (wrap64 (t158 - 1)) t154 false).bind fun t163 => (some (t163 == 11))) else (none))) else (none))) else ((header_Header_Check.f k (wrap64 (9 + (wrap64 (Int.tmod (IntKind.u64.wrap (a0)) 4)))) (wrap64 (512 * (wrap64 (1 + (wrap64 (Int.tmod (IntKind.u64.wrap (a1)) 2000)))))) (wrap64 (200 + (wrap64 (Int.tmod (IntKind.u64.wrap (a2)) 500)))) t154 false).bind fun t164 => (if t164 = 0 then ((header_Header_Check.f k (wrap64 (9 + (wrap64 (Int.tmod (IntKind.u64.wrap (a0)) 4)))) (wrap64 (512 * (wrap64 (1 + (wrap64 (Int.tmod (IntKind.u64.wrap (a1)) 2000)))))) (wrap64 (200 + (wrap64 (Int.tmod (IntKind.u64.wrap (a2)) 500)))) (wrap64 (t154 - 1)) false).bind fun t165 => (some (t165 == 11))) else (none))))) = some r := H
      have A18 := Aside0.mk A180
      clear A180
      replace H := Option.bind_eq_some_iff.mp H
      obtain ⟨t160, A190, H⟩ := H
      replace H : (if t159 = t160 then ((header_Header_Check.f k (wrap64 (9 + (wrap64 (Int.tmod (IntKind.u64.wrap (a0)) 4)))) (wrap64 (512 * (wrap64 (1 + (wrap64 (Int.tmod (IntKind.u64.wrap (a1)) 2000)))))) (wrap64 (200 + (wrap64 (Int.tmod (IntKind.u64.wrap (a2)) 500)))) t154 false).bind fun t161 => (if t161 = 0 then ((header_Header_Check.f k (wrap64 (9 + (wrap64 (Int.tmod (IntKind.u64.wrap (a0)) 4)))) (wrap64 (512 * (wrap64 (1 + (wrap64 (Int.tmod (IntKind.u64.wrap (a1)) 2000)))))) (wrap64 (200 + (wrap64 (Int.tmod (IntKind.u64.wrap (a2)) 500)))) (wrap64 (t154 - 1)) false).bind fun t162 => (if t162 = 11 then ((header_Header_Check.f k (wrap64 (9 + (wrap64 (Int.tmod (IntKind.u64.wrap (a0)) 4)))) (wrap64 (512 * (wrap64 (1 + (wrap64 (Int.tmod (IntKind.u64.wrap (a1)) 2000)))))) (wrap64 (t158 - 1)) t154 false).bind fun t163 => (some (t163 == 11))) else (none))) else (none))) else ((header_Header_Check.f k (wrap64 (9 + (wrap64 (Int.tmod (IntKind.u64.wrap (a0)) 4)))) (wrap64 (512 * (wrap64 (1 + (wrap64 (Int.tmod (IntKind.u64.wrap (a1)) 2000)))))) (wrap64 (200 + (wrap64 (Int.tmod (IntKind.u64.wrap (a2)) 500)))) t154 false).bind fun t164 => (if t164 = 0 then ((header_Header_Check.f k (wrap64 (9 + (wrap64 (Int.tmod (IntKind.u64.wrap (a0)) 4)))) (wrap64 (512 * (wrap64 (1 + (wrap64 (Int.tmod (IntKind.u64.wrap (a1)) 2000)))))) (wrap64 (200 + (wrap64 (Int.tmod (IntKind.u64.wrap (a2)) 500)))) (wrap64 (t154 - 1)) false).bind fun t165 => (some (t165 == 11))) else (none)))) = some r := H
      have A19 := Aside0.mk A190
      clear A190
      by_cases c20 : t159 = t160
      · rw [if_pos c20] at H
        have c20b0 : (t159 == t160) = true := beq_iff_eq.mpr c20
        have c20b1 : (t159 != t160) = false := bne_eq_false_iff_eq.mpr c20
        clear c20
        replace H := Option.bind_eq_some_iff.mp H
        obtain ⟨t161, A210, H⟩ := H
        replace H : (if t161 = 0 then ((header_Header_Check.f k (wrap64 (9 + (wrap64 (Int.tmod (IntKind.u64.wrap (a0)) 4)))) (wrap64 (512 * (wrap64 (1 + (wrap64 (Int.tmod (IntKind.u64.wrap (a1)) 2000)))))) (wrap64 (200 + (wrap64 (Int.tmod (IntKind.u64.wrap (a2)) 500)))) (wrap64 (t154 - 1)) false).bind fun t162 => (if t162 = 11 then ((header_Header_Check.f k (wrap64 (9 + (wrap64 (Int.tmod (IntKind.u64.wrap (a0)) 4)))) (wrap64 (512 * (wrap64 (1 + (wrap64 (Int.tmod (IntKind.u64.wrap (a1)) 2000)))))) (wrap64 (t158 - 1)) t154 false).bind fun t163 => (some (t163 == 11))) else (none))) else (none)) = some r := H
        have A21 := Aside0.mk A210
        clear A210
        by_cases c22 : t161 = 0
        · rw [if_pos c22] at H
          have c22b0 : (t161 == 0) = true := beq_iff_eq.mpr c22
          have c22b1 : (t161 != 0) = false := bne_eq_false_iff_eq.mpr c22
          clear c22
          replace H := Option.bind_eq_some_iff.mp H
          obtain ⟨t162, A230, H⟩ := H
          replace H : (if t162 = 11 then ((header_Header_Check.f k (wrap64 (9 + (wrap64 (Int.tmod (IntKind.u64.wrap (a0)) 4)))) (wrap64 (512 * (wrap64 (1 + (wrap64 (Int.tmod (IntKind.u64.wrap (a1)) 2000)))))) (wrap64 (t158 - 1)) t154 false).bind fun t163 => (some (t163 == 11))) else (none)) = some r := H
          have A23 := Aside0.mk A230
          clear A230
          by_cases c24 : t162 = 11
          · rw [if_pos c24] at H
            have c24b0 : (t162 == 11) = true := beq_iff_eq.mpr c24
            have c24b1 : (t162 != 11) = false := bne_eq_false_iff_eq.mpr c24
            clear c24
            replace H := Option.bind_eq_some_iff.mp H
            obtain ⟨t163, A250, H⟩ := H
            replace H : (some (t163 == 11)) = some r := H
            have A25 := Aside0.mk A250
            clear A250
            obtain rfl := Option.some.inj H
            go_enter Try.func13, Try.ntmps13
            try go_wp2_with (first | ((with_reducible refine gate_callee (f := 49) rfl ?_); refine goesL_ (some 10) rfl rfl Try.func49 (by kernel_rfl) rfl #[] rfl (by (try simp only [List.map_toArray, List.map_cons, List.map_nil]); first | done | rfl | (simp only [List.length_drop, List.length_take]; rfl)) ?_; (with_reducible refine (fettlelaw07_laid.calls k  true _ A4.out).mono ?_); rintro e w26 ⟨rfl, hb⟩; refine ⟨_, rfl, ?_⟩; have n0_ := Aside0.mk (below_step (by repeat (first | (with_reducible first | exact HB.out | apply below_alloc | apply pw_below_drewN | apply below_drew1) | exact HB.out)) hb); clear HB; have HB := n0_; clear n0_; (try clear hb); (try clear hb2); (try clear hk); (try clear hi)) | ((with_reducible refine gate_dst (N := 7) rfl ?_); refine box_event ?hg (N := 7) ?hd (cs := #[.int .i64 0, .int .i64 0, .int .i64 0, .int .i64 0, .bool false]) (t := 69) ?hr ?_; (case hd => rfl); (case hg => rfl); (case hr => first | (go_simp; done) | (go_simp; rfl)); intro gb153 hg w27 hbox hb; have n0_ := Aside0.mk (below_step (by repeat (first | (with_reducible first | exact HB.out | apply below_alloc | apply pw_below_drewN | apply below_drew1) | exact HB.out)) hb); have n1_ := Aside0.mk (hbox); have n2_ := Aside0.mk ((by rw [hg]; exact (below_size (by repeat (first | (with_reducible first | exact HB.out | apply below_alloc | apply pw_below_drewN | apply below_drew1) | exact HB.out))) : w.heap.size ≤ gb153)); have n3_ := Aside0.mk ((by rw [hg]; exact (below_size (by repeat (first | (with_reducible first | exact HB.out | apply below_alloc | apply pw_below_drewN | apply below_drew1) | exact HB.out))) : w.heap.size ≤ gb153)); clear HB; have HB := n0_; have BK153 := n1_; have GW153 := n2_; have GE153 := n3_; clear n0_ n1_ n2_ n3_; clear hb hbox hg; have hcz28_0 : w27.cell? ⟨gb153, 0, none⟩ = some (.int .i64 0) := (blk_cell BK153.out 0).trans rfl; have hcz28_1 : w27.cell? ⟨gb153, 1, none⟩ = some (.int .i64 0) := (blk_cell BK153.out 1).trans rfl; have hcz28_2 : w27.cell? ⟨gb153, 2, none⟩ = some (.int .i64 0) := (blk_cell BK153.out 2).trans rfl; have hcz28_3 : w27.cell? ⟨gb153, 3, none⟩ = some (.int .i64 0) := (blk_cell BK153.out 3).trans rfl; have hcz28_4 : w27.cell? ⟨gb153, 4, none⟩ = some (.bool false) := (blk_cell BK153.out 4).trans rfl; have hfz28_0 := blk_frozen BK153.out 0; have hfz28_1 := blk_frozen BK153.out 1; have hfz28_2 := blk_frozen BK153.out 2; have hfz28_3 := blk_frozen BK153.out 3; have hfz28_4 := blk_frozen BK153.out 4) | ((with_reducible refine gate_callee (f := 56) rfl ?_); refine goesL_ (some 30) rfl rfl Try.func56 (by kernel_rfl) rfl #[.agg #[.int .i64 (wrap64 (9 + (wrap64 (Int.tmod (IntKind.u64.wrap (a0)) 4)))), .int .i64 (wrap64 (512 * (wrap64 (1 + (wrap64 (Int.tmod (IntKind.u64.wrap (a1)) 2000)))))), .int .i64 (wrap64 (200 + (wrap64 (Int.tmod (IntKind.u64.wrap (a2)) 500)))), .int .i64 0, .bool false]] rfl (by (try simp only [List.map_toArray, List.map_cons, List.map_nil]); first | done | rfl | (simp only [List.length_drop, List.length_take]; rfl)) ?_; (with_reducible refine (header_Header_Least.calls (wrap64 (9 + (wrap64 (Int.tmod (IntKind.u64.wrap (a0)) 4)))) (wrap64 (512 * (wrap64 (1 + (wrap64 (Int.tmod (IntKind.u64.wrap (a1)) 2000)))))) (wrap64 (200 + (wrap64 (Int.tmod (IntKind.u64.wrap (a2)) 500)))) 0 false t154 _ A6.out).mono ?_); rintro e w29 ⟨rfl, hb⟩; refine ⟨_, rfl, ?_⟩; have n0_ := Aside0.mk (blk_below (g := gb153) (o := .cells #[.int .i64 (wrap64 (9 + (wrap64 (Int.tmod (IntKind.u64.wrap (a0)) 4)))), .int .i64 (wrap64 (512 * (wrap64 (1 + (wrap64 (Int.tmod (IntKind.u64.wrap (a1)) 2000)))))), .int .i64 (wrap64 (200 + (wrap64 (Int.tmod (IntKind.u64.wrap (a2)) 500)))), .int .i64 0, .bool false] 69 (0, 0)) (by (with_reducible repeat (first | refine blk_drewN ?_ _ | refine blk_drew ?_ | refine blk_alloc ?_ _)); refine blk_put (cs := #[.int .i64 (wrap64 (9 + (wrap64 (Int.tmod (IntKind.u64.wrap (a0)) 4)))), .int .i64 (wrap64 (512 * (wrap64 (1 + (wrap64 (Int.tmod (IntKind.u64.wrap (a1)) 2000)))))), .int .i64 (wrap64 (200 + (wrap64 (Int.tmod (IntKind.u64.wrap (a2)) 500)))), .int .i64 0, .bool false]) ?_ 4 _ (by first | rfl | (simp [*]; done)); (with_reducible repeat (first | refine blk_drewN ?_ _ | refine blk_drew ?_ | refine blk_alloc ?_ _)); refine blk_put (cs := #[.int .i64 (wrap64 (9 + (wrap64 (Int.tmod (IntKind.u64.wrap (a0)) 4)))), .int .i64 (wrap64 (512 * (wrap64 (1 + (wrap64 (Int.tmod (IntKind.u64.wrap (a1)) 2000)))))), .int .i64 (wrap64 (200 + (wrap64 (Int.tmod (IntKind.u64.wrap (a2)) 500)))), .int .i64 0, .bool false]) ?_ 3 _ (by first | rfl | (simp [*]; done)); (with_reducible repeat (first | refine blk_drewN ?_ _ | refine blk_drew ?_ | refine blk_alloc ?_ _)); refine blk_put (cs := #[.int .i64 (wrap64 (9 + (wrap64 (Int.tmod (IntKind.u64.wrap (a0)) 4)))), .int .i64 (wrap64 (512 * (wrap64 (1 + (wrap64 (Int.tmod (IntKind.u64.wrap (a1)) 2000)))))), .int .i64 0, .int .i64 0, .bool false]) ?_ 2 _ (by first | rfl | (simp [*]; done)); (with_reducible repeat (first | refine blk_drewN ?_ _ | refine blk_drew ?_ | refine blk_alloc ?_ _)); refine blk_put (cs := #[.int .i64 (wrap64 (9 + (wrap64 (Int.tmod (IntKind.u64.wrap (a0)) 4)))), .int .i64 0, .int .i64 0, .int .i64 0, .bool false]) ?_ 1 _ (by first | rfl | (simp [*]; done)); (with_reducible repeat (first | refine blk_drewN ?_ _ | refine blk_drew ?_ | refine blk_alloc ?_ _)); refine blk_put (cs := #[.int .i64 0, .int .i64 0, .int .i64 0, .int .i64 0, .bool false]) ?_ 0 _ (by first | rfl | (simp [*]; done)); (with_reducible repeat (first | refine blk_drewN ?_ _ | refine blk_drew ?_ | refine blk_alloc ?_ _)); exact BK153.out) hb); have n1_ := Aside0.mk (below_step (by repeat (first | (with_reducible first | exact HB.out | apply below_alloc | apply pw_below_drewN | apply below_drew1 | refine below_set ?_ GE153.out) | exact HB.out)) hb); clear BK153; clear HB; have BK153 := n0_; have HB := n1_; clear n0_ n1_; (try clear hb); (try clear hb2); (try clear hk); (try clear hi); have hcz30_0 : w29.cell? ⟨gb153, 0, none⟩ = some (.int .i64 (wrap64 (9 + (wrap64 (Int.tmod (IntKind.u64.wrap (a0)) 4))))) := (blk_cell BK153.out 0).trans rfl; have hcz30_1 : w29.cell? ⟨gb153, 1, none⟩ = some (.int .i64 (wrap64 (512 * (wrap64 (1 + (wrap64 (Int.tmod (IntKind.u64.wrap (a1)) 2000))))))) := (blk_cell BK153.out 1).trans rfl; have hcz30_2 : w29.cell? ⟨gb153, 2, none⟩ = some (.int .i64 (wrap64 (200 + (wrap64 (Int.tmod (IntKind.u64.wrap (a2)) 500))))) := (blk_cell BK153.out 2).trans rfl; have hcz30_3 : w29.cell? ⟨gb153, 3, none⟩ = some (.int .i64 0) := (blk_cell BK153.out 3).trans rfl; have hcz30_4 : w29.cell? ⟨gb153, 4, none⟩ = some (.bool false) := (blk_cell BK153.out 4).trans rfl; have hfz30_0 := blk_frozen BK153.out 0; have hfz30_1 := blk_frozen BK153.out 1; have hfz30_2 := blk_frozen BK153.out 2; have hfz30_3 := blk_frozen BK153.out 3; have hfz30_4 := blk_frozen BK153.out 4))
            have n0_ : Aside0 ((w29.setCell ⟨gb153, 3, none⟩ (.int .i64 t154)).heap[gb153]? = some (.cells #[.int .i64 (wrap64 (9 + (wrap64 (Int.tmod (IntKind.u64.wrap (a0)) 4)))), .int .i64 (wrap64 (512 * (wrap64 (1 + (wrap64 (Int.tmod (IntKind.u64.wrap (a1)) 2000)))))), .int .i64 (wrap64 (200 + (wrap64 (Int.tmod (IntKind.u64.wrap (a2)) 500)))), .int .i64 t154, .bool false] 69 (0, 0))) := ⟨by (with_reducible repeat (first | refine blk_drewN ?_ _ | refine blk_drew ?_ | refine blk_alloc ?_ _)); refine blk_put (cs := #[.int .i64 (wrap64 (9 + (wrap64 (Int.tmod (IntKind.u64.wrap (a0)) 4)))), .int .i64 (wrap64 (512 * (wrap64 (1 + (wrap64 (Int.tmod (IntKind.u64.wrap (a1)) 2000)))))), .int .i64 (wrap64 (200 + (wrap64 (Int.tmod (IntKind.u64.wrap (a2)) 500)))), .int .i64 0, .bool false]) ?_ 3 _ (by first | rfl | (simp [*]; done)); (with_reducible repeat (first | refine blk_drewN ?_ _ | refine blk_drew ?_ | refine blk_alloc ?_ _)); exact BK153.out⟩
            have n1_ : Aside0 (Below w.heap.size w (w29.setCell ⟨gb153, 3, none⟩ (.int .i64 t154))) := ⟨by repeat (first | (with_reducible first | exact HB.out | apply below_alloc | apply pw_below_drewN | apply below_drew1 | refine below_set ?_ GE153.out) | exact HB.out)⟩
            (try clear BK153)
            (try clear HB)
            generalize (w29.setCell ⟨gb153, 3, none⟩ (.int .i64 t154)) = w31 at n0_ n1_ ⊢
            have BK153 := n0_
            have HB := n1_
            clear n0_ n1_
            have n0_ := Aside0.mk (blk_drew BK153.out)
            have n1_ := Aside0.mk (below_drew1 HB.out)
            clear BK153
            clear HB
            have BK153 := n0_
            have HB := n1_
            clear n0_ n1_
            refine start_ (n := 5) (S := fun w' => w'.cell? ⟨gb153, 0, none⟩ = some (.int .i64 (wrap64 (9 + (wrap64 (Int.tmod (IntKind.u64.wrap (a0)) 4))))) ∧ w'.cell? ⟨gb153, 1, none⟩ = some (.int .i64 (wrap64 (512 * (wrap64 (1 + (wrap64 (Int.tmod (IntKind.u64.wrap (a1)) 2000))))))) ∧ w'.cell? ⟨gb153, 2, none⟩ = some (.int .i64 (wrap64 (200 + (wrap64 (Int.tmod (IntKind.u64.wrap (a2)) 500))))) ∧ w'.cell? ⟨gb153, 3, none⟩ = some (.int .i64 t154) ∧ w'.cell? ⟨gb153, 4, none⟩ = some (.bool false)) (ds := []) #[false, false, false, false, false] (by kernel_rfl) rfl rfl ⟨(blk_cell BK153.out 0).trans rfl, (blk_cell BK153.out 1).trans rfl, (blk_cell BK153.out 2).trans rfl, (blk_cell BK153.out 3).trans rfl, (blk_cell BK153.out 4).trans rfl⟩ (fun hHeld => ?_)
            generalize w31.drew = w32 at BK153 HB hHeld ⊢
            refine pure_ (i := 2) (N := some 34) (v := ?_) (a' := ?_) #[false, false, true, false, false] rfl rfl (by kernel_rfl) (fun _ _ _ h => h) (Or.inl ⟨by rfl, ?_⟩) ?_ ?_
            rotate_left
            · intro w'
              go_simp
              with_reducible rfl
            rotate_left
            · simp only [Act.put, List.setIfInBounds_toArray, List.set_cons_zero, List.set_cons_succ, i64_w, i32_w]
              rfl
            refine take_ (i := 0) (N := some 32) (v := ?_) (a' := ?_) #[true, false, true, false, false] rfl rfl (by kernel_rfl) (fun _ _ _ h => h) (Or.inl ⟨by rfl, ?_⟩) hHeld ?_ ?_
            rotate_left
            · rintro w' ⟨s0, s1, s2, s3, s4⟩
              go_simp
              with_reducible rfl
            rotate_left
            · simp only [Act.put, List.setIfInBounds_toArray, List.set_cons_zero, List.set_cons_succ, i64_w, i32_w]
              rfl
            refine take_ (i := 3) (N := some 35) (v := ?_) (a' := ?_) #[true, false, true, true, false] rfl rfl (by kernel_rfl) (fun _ _ _ h => h) (Or.inl ⟨by rfl, ?_⟩) hHeld ?_ ?_
            rotate_left
            · rintro w' ⟨s0, s1, s2, s3, s4⟩
              go_simp
              with_reducible rfl
            rotate_left
            · simp only [Act.put, List.setIfInBounds_toArray, List.set_cons_zero, List.set_cons_succ, i64_w, i32_w]
              rfl
            refine one_ (i := 1) (N := some 33) #[true, true, true, true, false] rfl rfl (by kernel_rfl) (by decide) (fun K hK => ?_)
            refine goes_ Try.func54 (by kernel_rfl) rfl #[.agg #[.int .i64 (wrap64 (9 + (wrap64 (Int.tmod (IntKind.u64.wrap (a0)) 4)))), .int .i64 (wrap64 (512 * (wrap64 (1 + (wrap64 (Int.tmod (IntKind.u64.wrap (a1)) 2000)))))), .int .i64 (wrap64 (200 + (wrap64 (Int.tmod (IntKind.u64.wrap (a2)) 500)))), .int .i64 t154, .bool false]] (by rfl) rfl rfl (by (try simp only [List.map_toArray, List.map_cons, List.map_nil]); first | done | rfl | (simp only [List.length_drop, List.length_take]; rfl)) ?_
            with_reducible refine (header_Header_First.calls (wrap64 (9 + (wrap64 (Int.tmod (IntKind.u64.wrap (a0)) 4)))) (wrap64 (512 * (wrap64 (1 + (wrap64 (Int.tmod (IntKind.u64.wrap (a1)) 2000)))))) (wrap64 (200 + (wrap64 (Int.tmod (IntKind.u64.wrap (a2)) 500)))) t154 false t155 _ A7.out).mono ?_
            rintro e w33 ⟨rfl, hb⟩
            refine ⟨_, rfl, ?_⟩
            have n0_ := Aside0.mk (blk_below (g := gb153) (o := .cells #[.int .i64 (wrap64 (9 + (wrap64 (Int.tmod (IntKind.u64.wrap (a0)) 4)))), .int .i64 (wrap64 (512 * (wrap64 (1 + (wrap64 (Int.tmod (IntKind.u64.wrap (a1)) 2000)))))), .int .i64 (wrap64 (200 + (wrap64 (Int.tmod (IntKind.u64.wrap (a2)) 500)))), .int .i64 t154, .bool false] 69 (0, 0)) (by (with_reducible repeat (first | refine blk_drewN ?_ _ | refine blk_drew ?_ | refine blk_alloc ?_ _)); exact BK153.out) hb)
            have n1_ := Aside0.mk (below_step (by repeat (first | (with_reducible first | exact HB.out | apply below_alloc | apply pw_below_drewN | apply below_drew1 | refine below_set ?_ GE153.out) | exact HB.out)) hb)
            clear BK153
            clear HB
            have BK153 := n0_
            have HB := n1_
            clear n0_ n1_
            (try clear hb)
            (try clear hb2)
            (try clear hk)
            (try clear hi)
            refine hK.out _ _ ⟨(blk_cell BK153.out 0).trans rfl, (blk_cell BK153.out 1).trans rfl, (blk_cell BK153.out 2).trans rfl, (blk_cell BK153.out 3).trans rfl, (blk_cell BK153.out 4).trans rfl⟩ (fun hHeld => ?_)
            clear hK K
            refine norm_ (a' := ?_) ?_ ?_
            rotate_left
            · show Act.put _ (some 33) _ = _
              simp only [Act.put, List.setIfInBounds_toArray, List.set_cons_zero, List.set_cons_succ, i64_w, i32_w]
              rfl
            refine pure_ (i := 4) (N := some 36) (v := ?_) (a' := ?_) #[true, true, true, true, true] rfl rfl (by kernel_rfl) (fun _ _ _ h => h) (Or.inl ⟨by rfl, ?_⟩) ?_ ?_
            rotate_left
            · intro w'
              go_simp
              with_reducible rfl
            rotate_left
            · simp only [Act.put, List.setIfInBounds_toArray, List.set_cons_zero, List.set_cons_succ, i64_w, i32_w]
              rfl
            refine done_ (by kernel_rfl) ?_
            try go_wp2
            have n0_ := Aside0.mk (blk_drew BK153.out)
            have n1_ := Aside0.mk (below_drew1 HB.out)
            clear BK153
            clear HB
            have BK153 := n0_
            have HB := n1_
            clear n0_ n1_
            refine start_ (n := 6) (S := fun w' => True) (ds := []) #[false, false, false, false, false, false] (by kernel_rfl) rfl rfl trivial (fun hHeld => ?_); refine with_tabW fettlelaw07_HeaderLeasts.tab7 fettlelaw07_HeaderLeasts.bits7 (fun HT_ HW_ => ?_)
            generalize w33.drew = w34 at BK153 HB hHeld ⊢
            refine inv_at [0, 1, 2, 3, 4, 5] (fun a0_ b a w' => ∃ (gb156 : Nat) (gb157 : Nat) (m2_ : Value) (m3_ : Value), a = putSel a0_ b [(0, 37, .agg #[.int .i64 (wrap64 (9 + (wrap64 (Int.tmod (IntKind.u64.wrap (a0)) 4)))), .int .i64 (wrap64 (512 * (wrap64 (1 + (wrap64 (Int.tmod (IntKind.u64.wrap (a1)) 2000)))))), .int .i64 (wrap64 (200 + (wrap64 (Int.tmod (IntKind.u64.wrap (a2)) 500)))), .int .i64 t154, .bool false]), (1, 38, .agg #[.int .i64 (wrap64 (9 + (wrap64 (Int.tmod (IntKind.u64.wrap (a0)) 4)))), .int .i64 (wrap64 (512 * (wrap64 (1 + (wrap64 (Int.tmod (IntKind.u64.wrap (a1)) 2000)))))), .int .i64 (wrap64 (200 + (wrap64 (Int.tmod (IntKind.u64.wrap (a2)) 500)))), .int .i64 t154, .bool false]), (2, 8, m2_), (3, 9, m3_)] ∧ (w'.heap[gb153]? = some (.cells #[.int .i64 (wrap64 (9 + (wrap64 (Int.tmod (IntKind.u64.wrap (a0)) 4)))), .int .i64 (wrap64 (512 * (wrap64 (1 + (wrap64 (Int.tmod (IntKind.u64.wrap (a1)) 2000)))))), .int .i64 (wrap64 (200 + (wrap64 (Int.tmod (IntKind.u64.wrap (a2)) 500)))), .int .i64 t154, .bool false] 69 (0, 0))) ∧ (Below w.heap.size w w') ∧ (b 2 = true → b 3 = true → gb157 ≠ gb156) ∧ (b 2 = true → b 3 = true → gb156 ≠ gb157) ∧ (b 2 = true → b 4 = false → w'.heap[gb156]? = some (.cells #[.int .i64 0, .int .i64 0, .int .i64 0, .int .i64 0, .bool false] 69 (0, 0))) ∧ (b 2 = true → w.heap.size ≤ gb156) ∧ (b 2 = true → w.heap.size ≤ gb156) ∧ (b 2 = true → gb153 ≠ gb156) ∧ (b 2 = true → gb156 ≠ gb153) ∧ (b 3 = true → b 5 = false → w'.heap[gb157]? = some (.cells #[.int .i64 0, .int .i64 0, .int .i64 0, .int .i64 0, .bool false] 69 (0, 0))) ∧ (b 3 = true → w.heap.size ≤ gb157) ∧ (b 3 = true → w.heap.size ≤ gb157) ∧ (b 3 = true → gb153 ≠ gb157) ∧ (b 3 = true → gb157 ≠ gb153) ∧ (b 4 = true → w'.heap[gb156]? = some (.cells #[.int .i64 (wrap64 (9 + (wrap64 (Int.tmod (IntKind.u64.wrap (a0)) 4)))), .int .i64 (wrap64 (512 * (wrap64 (1 + (wrap64 (Int.tmod (IntKind.u64.wrap (a1)) 2000)))))), .int .i64 (wrap64 (200 + (wrap64 (Int.tmod (IntKind.u64.wrap (a2)) 500)))), .int .i64 t154, .bool false] 69 (0, 0))) ∧ (b 5 = true → w'.heap[gb157]? = some (.cells #[.int .i64 (wrap64 (9 + (wrap64 (Int.tmod (IntKind.u64.wrap (a0)) 4)))), .int .i64 (wrap64 (512 * (wrap64 (1 + (wrap64 (Int.tmod (IntKind.u64.wrap (a1)) 2000)))))), .int .i64 (wrap64 (200 + (wrap64 (Int.tmod (IntKind.u64.wrap (a2)) 500)))), .int .i64 t154, .bool false] 69 (0, 0))) ∧ (b 2 = true → (m2_ : Value) = .pointer (some ⟨gb156, 0, none⟩)) ∧ (b 3 = true → (m3_ : Value) = .pointer (some ⟨gb157, 0, none⟩))) HT_.out HW_.out (by kernel_rfl) (by kernel_rfl) ?_ ?_ ?_
            · exact ⟨0, 0, .bool false, .bool false, by simp only [putSel, Bool.false_eq_true, if_false], BK153.out, HB.out, fun h_ => absurd h_ (by decide), fun h_ => absurd h_ (by decide), fun h_ => absurd h_ (by decide), fun h_ => absurd h_ (by decide), fun h_ => absurd h_ (by decide), fun h_ => absurd h_ (by decide), fun h_ => absurd h_ (by decide), fun h_ => absurd h_ (by decide), fun h_ => absurd h_ (by decide), fun h_ => absurd h_ (by decide), fun h_ => absurd h_ (by decide), fun h_ => absurd h_ (by decide), fun h_ => absurd h_ (by decide), fun h_ => absurd h_ (by decide), fun h_ => absurd h_ (by decide), fun h_ => absurd h_ (by decide)⟩
            · skip
              clear BK153 HB
              refine steps_cons ?_ ?_
              · rintro b a w' ⟨gb156, gb157, m2_, m3_, ha, Q_BK153, Q_HB, Q_NB157_156, Q_NB156_157, Q_BK156, Q_GW156, Q_GE156, Q_NB153_156, Q_NB156_153, Q_BK157, Q_GW157, Q_GE157, Q_NB153_157, Q_NB157_153, Q_BK156_e4, Q_BK157_e5, Q_X2_, Q_X3_⟩ hb_ hon hoff
                refine ⟨_, rfl, fun K hK => ?_⟩
                have e7 : a.tmps[7]? = some (.pointer (some ⟨gb153, 0, none⟩)) := by rw [ha]; exact (putSel_off rfl).trans rfl
                replace ha := Aside0.mk ha
                have BK153 := Aside0.mk Q_BK153
                have HB := Aside0.mk Q_HB
                have hc0_ : w'.cell? ⟨gb153, 0, none⟩ = some (.int .i64 (wrap64 (9 + (wrap64 (Int.tmod (IntKind.u64.wrap (a0)) 4))))) := (blk_cell BK153.out 0).trans rfl
                have hc1_ : w'.cell? ⟨gb153, 1, none⟩ = some (.int .i64 (wrap64 (512 * (wrap64 (1 + (wrap64 (Int.tmod (IntKind.u64.wrap (a1)) 2000))))))) := (blk_cell BK153.out 1).trans rfl
                have hc2_ : w'.cell? ⟨gb153, 2, none⟩ = some (.int .i64 (wrap64 (200 + (wrap64 (Int.tmod (IntKind.u64.wrap (a2)) 500))))) := (blk_cell BK153.out 2).trans rfl
                have hc3_ : w'.cell? ⟨gb153, 3, none⟩ = some (.int .i64 t154) := (blk_cell BK153.out 3).trans rfl
                have hc4_ : w'.cell? ⟨gb153, 4, none⟩ = some (.bool false) := (blk_cell BK153.out 4).trans rfl
                refine value_ (w1 := w') (v := .agg #[.int .i64 (wrap64 (9 + (wrap64 (Int.tmod (IntKind.u64.wrap (a0)) 4)))), .int .i64 (wrap64 (512 * (wrap64 (1 + (wrap64 (Int.tmod (IntKind.u64.wrap (a1)) 2000)))))), .int .i64 (wrap64 (200 + (wrap64 (Int.tmod (IntKind.u64.wrap (a2)) 500)))), .int .i64 t154, .bool false]) (by rfl) rfl ?_ ?_
                · go_simp
                  (try simp only [i64_w])
                  try rfl
                refine hK.out _ _ ⟨gb156, gb157, m2_, m3_, (by rw [ha.out]; exact putSel_upk 0 hb_ rfl rfl rfl), Q_BK153, Q_HB, Q_NB157_156, Q_NB156_157, Q_BK156, Q_GW156, Q_GE156, Q_NB153_156, Q_NB156_153, Q_BK157, Q_GW157, Q_GE157, Q_NB153_157, Q_NB157_153, fun h0_ => absurd ((hoff 4 (by kernel_rfl)).symm.trans h0_) (by decide), fun h0_ => absurd ((hoff 5 (by kernel_rfl)).symm.trans h0_) (by decide), Q_X2_, Q_X3_⟩
              refine steps_cons ?_ ?_
              · rintro b a w' ⟨gb156, gb157, m2_, m3_, ha, Q_BK153, Q_HB, Q_NB157_156, Q_NB156_157, Q_BK156, Q_GW156, Q_GE156, Q_NB153_156, Q_NB156_153, Q_BK157, Q_GW157, Q_GE157, Q_NB153_157, Q_NB157_153, Q_BK156_e4, Q_BK157_e5, Q_X2_, Q_X3_⟩ hb_ hon hoff
                refine ⟨_, rfl, fun K hK => ?_⟩
                have e7 : a.tmps[7]? = some (.pointer (some ⟨gb153, 0, none⟩)) := by rw [ha]; exact (putSel_off rfl).trans rfl
                replace ha := Aside0.mk ha
                have BK153 := Aside0.mk Q_BK153
                have HB := Aside0.mk Q_HB
                have hc0_ : w'.cell? ⟨gb153, 0, none⟩ = some (.int .i64 (wrap64 (9 + (wrap64 (Int.tmod (IntKind.u64.wrap (a0)) 4))))) := (blk_cell BK153.out 0).trans rfl
                have hc1_ : w'.cell? ⟨gb153, 1, none⟩ = some (.int .i64 (wrap64 (512 * (wrap64 (1 + (wrap64 (Int.tmod (IntKind.u64.wrap (a1)) 2000))))))) := (blk_cell BK153.out 1).trans rfl
                have hc2_ : w'.cell? ⟨gb153, 2, none⟩ = some (.int .i64 (wrap64 (200 + (wrap64 (Int.tmod (IntKind.u64.wrap (a2)) 500))))) := (blk_cell BK153.out 2).trans rfl
                have hc3_ : w'.cell? ⟨gb153, 3, none⟩ = some (.int .i64 t154) := (blk_cell BK153.out 3).trans rfl
                have hc4_ : w'.cell? ⟨gb153, 4, none⟩ = some (.bool false) := (blk_cell BK153.out 4).trans rfl
                refine value_ (w1 := w') (v := .agg #[.int .i64 (wrap64 (9 + (wrap64 (Int.tmod (IntKind.u64.wrap (a0)) 4)))), .int .i64 (wrap64 (512 * (wrap64 (1 + (wrap64 (Int.tmod (IntKind.u64.wrap (a1)) 2000)))))), .int .i64 (wrap64 (200 + (wrap64 (Int.tmod (IntKind.u64.wrap (a2)) 500)))), .int .i64 t154, .bool false]) (by rfl) rfl ?_ ?_
                · go_simp
                  (try simp only [i64_w])
                  try rfl
                refine hK.out _ _ ⟨gb156, gb157, m2_, m3_, (by rw [ha.out]; exact putSel_upk 1 hb_ rfl rfl rfl), Q_BK153, Q_HB, Q_NB157_156, Q_NB156_157, Q_BK156, Q_GW156, Q_GE156, Q_NB153_156, Q_NB156_153, Q_BK157, Q_GW157, Q_GE157, Q_NB153_157, Q_NB157_153, Q_BK156_e4, fun h0_ => absurd ((hoff 5 (by kernel_rfl)).symm.trans h0_) (by decide), Q_X2_, Q_X3_⟩
              refine steps_cons ?_ ?_
              · rintro b a w' ⟨gb156, gb157, m2_, m3_, ha, Q_BK153, Q_HB, Q_NB157_156, Q_NB156_157, Q_BK156, Q_GW156, Q_GE156, Q_NB153_156, Q_NB156_153, Q_BK157, Q_GW157, Q_GE157, Q_NB153_157, Q_NB157_153, Q_BK156_e4, Q_BK157_e5, Q_X2_, Q_X3_⟩ hb_ hon hoff
                refine ⟨_, rfl, fun K hK => ?_⟩
                replace ha := Aside0.mk ha
                have BK153 := Aside0.mk Q_BK153
                have HB := Aside0.mk Q_HB
                refine box_step ?hg (N := 8) ?hd (cs := #[.int .i64 0, .int .i64 0, .int .i64 0, .int .i64 0, .bool false]) (t := 69) ?hr ?_; (case hd => rfl); (case hg => rfl); (case hr => first | (go_simp; done) | (go_simp; rfl))
                intro gb156 hg w35 hbox hb
                have n0_ := Aside0.mk (blk_below (g := gb153) (o := .cells #[.int .i64 (wrap64 (9 + (wrap64 (Int.tmod (IntKind.u64.wrap (a0)) 4)))), .int .i64 (wrap64 (512 * (wrap64 (1 + (wrap64 (Int.tmod (IntKind.u64.wrap (a1)) 2000)))))), .int .i64 (wrap64 (200 + (wrap64 (Int.tmod (IntKind.u64.wrap (a2)) 500)))), .int .i64 t154, .bool false] 69 (0, 0)) (by (with_reducible repeat (first | refine blk_drewN ?_ _ | refine blk_drew ?_ | refine blk_alloc ?_ _)); exact BK153.out) hb)
                have n1_ := Aside0.mk (below_step (by repeat (first | (with_reducible first | exact HB.out | apply below_alloc | apply pw_below_drewN | apply below_drew1 | refine below_set ?_ GE153.out) | exact HB.out)) hb)
                have n2_ := Aside0.mk (hbox)
                have n3_ := Aside0.mk ((by rw [hg]; exact (below_size (by repeat (first | (with_reducible first | exact HB.out | apply below_alloc | apply pw_below_drewN | apply below_drew1 | refine below_set ?_ GE153.out) | exact HB.out))) : w.heap.size ≤ gb156))
                have n4_ := Aside0.mk ((by rw [hg]; exact (below_size (by repeat (first | (with_reducible first | exact HB.out | apply below_alloc | apply pw_below_drewN | apply below_drew1 | refine below_set ?_ GE153.out) | exact HB.out))) : w.heap.size ≤ gb156))
                have n5_ := Aside0.mk ((by rw [hg]; exact Nat.ne_of_lt (blk_lt (g := gb153) (o := .cells #[.int .i64 (wrap64 (9 + (wrap64 (Int.tmod (IntKind.u64.wrap (a0)) 4)))), .int .i64 (wrap64 (512 * (wrap64 (1 + (wrap64 (Int.tmod (IntKind.u64.wrap (a1)) 2000)))))), .int .i64 (wrap64 (200 + (wrap64 (Int.tmod (IntKind.u64.wrap (a2)) 500)))), .int .i64 t154, .bool false] 69 (0, 0)) (by (with_reducible repeat (first | refine blk_drewN ?_ _ | refine blk_drew ?_ | refine blk_alloc ?_ _)); exact BK153.out)) : gb153 ≠ gb156))
                have n6_ := Aside0.mk ((by rw [hg]; exact Nat.ne_of_gt (blk_lt (g := gb153) (o := .cells #[.int .i64 (wrap64 (9 + (wrap64 (Int.tmod (IntKind.u64.wrap (a0)) 4)))), .int .i64 (wrap64 (512 * (wrap64 (1 + (wrap64 (Int.tmod (IntKind.u64.wrap (a1)) 2000)))))), .int .i64 (wrap64 (200 + (wrap64 (Int.tmod (IntKind.u64.wrap (a2)) 500)))), .int .i64 t154, .bool false] 69 (0, 0)) (by (with_reducible repeat (first | refine blk_drewN ?_ _ | refine blk_drew ?_ | refine blk_alloc ?_ _)); exact BK153.out)) : gb156 ≠ gb153))
                have z_NB157_156 := fun (h0_ : up b 2 2 = true) (h1_ : up b 2 3 = true) => (show gb157 ≠ gb156 from ((by rw [hg]; exact Nat.ne_of_lt (blk_lt (g := gb157) (o := .cells #[.int .i64 0, .int .i64 0, .int .i64 0, .int .i64 0, .bool false] 69 (0, 0)) (by (with_reducible repeat (first | refine blk_drewN ?_ _ | refine blk_drew ?_ | refine blk_alloc ?_ _)); exact (Q_BK157 h1_ (hoff 5 (by kernel_rfl))))) : gb157 ≠ gb156)))
                have z_NB156_157 := fun (h0_ : up b 2 2 = true) (h1_ : up b 2 3 = true) => (show gb156 ≠ gb157 from ((by rw [hg]; exact Nat.ne_of_gt (blk_lt (g := gb157) (o := .cells #[.int .i64 0, .int .i64 0, .int .i64 0, .int .i64 0, .bool false] 69 (0, 0)) (by (with_reducible repeat (first | refine blk_drewN ?_ _ | refine blk_drew ?_ | refine blk_alloc ?_ _)); exact (Q_BK157 h1_ (hoff 5 (by kernel_rfl))))) : gb156 ≠ gb157)))
                have z_BK157 := fun (h0_ : b 3 = true) (h1_ : b 5 = false) => (show w35.heap[gb157]? = some (.cells #[.int .i64 0, .int .i64 0, .int .i64 0, .int .i64 0, .bool false] 69 (0, 0)) from by first | exact (blk_below (g := gb157) (o := .cells #[.int .i64 0, .int .i64 0, .int .i64 0, .int .i64 0, .bool false] 69 (0, 0)) (by (with_reducible repeat (first | refine blk_drewN ?_ _ | refine blk_drew ?_ | refine blk_alloc ?_ _)); exact (Q_BK157 h0_ h1_)) hb))
                clear BK153
                clear HB
                have BK153 := n0_
                have HB := n1_
                have BK156 := n2_
                have GW156 := n3_
                have GE156 := n4_
                have NB153_156 := n5_
                have NB156_153 := n6_
                clear n0_ n1_ n2_ n3_ n4_ n5_ n6_
                clear hb hbox hg
                refine hK.out _ _ ⟨gb156, gb157, (.pointer (some ⟨gb156, 0, none⟩)), m3_, (by rw [ha.out]; exact putSel_upk 2 hb_ rfl rfl rfl), (by (with_reducible repeat (first | refine blk_drewN ?_ _ | refine blk_drew ?_ | refine blk_alloc ?_ _)); exact BK153.out), (by repeat (first | (with_reducible first | exact HB.out | apply below_alloc | apply pw_below_drewN | apply below_drew1 | refine below_set ?_ GE153.out | refine below_set ?_ GE156.out) | exact HB.out)), z_NB157_156, z_NB156_157, fun _ _ => (by (with_reducible repeat (first | refine blk_drewN ?_ _ | refine blk_drew ?_ | refine blk_alloc ?_ _)); exact BK156.out), fun _ => GW156.out, fun _ => GE156.out, fun _ => NB153_156.out, fun _ => NB156_153.out, z_BK157, Q_GW157, Q_GE157, Q_NB153_157, Q_NB157_153, fun h0_ => absurd ((hoff 4 (by kernel_rfl)).symm.trans h0_) (by decide), fun h0_ => absurd ((hoff 5 (by kernel_rfl)).symm.trans h0_) (by decide), fun _ => rfl, Q_X3_⟩
              refine steps_cons ?_ ?_
              · rintro b a w' ⟨gb156, gb157, m2_, m3_, ha, Q_BK153, Q_HB, Q_NB157_156, Q_NB156_157, Q_BK156, Q_GW156, Q_GE156, Q_NB153_156, Q_NB156_153, Q_BK157, Q_GW157, Q_GE157, Q_NB153_157, Q_NB157_153, Q_BK156_e4, Q_BK157_e5, Q_X2_, Q_X3_⟩ hb_ hon hoff
                refine ⟨_, rfl, fun K hK => ?_⟩
                replace ha := Aside0.mk ha
                have BK153 := Aside0.mk Q_BK153
                have HB := Aside0.mk Q_HB
                refine box_step ?hg (N := 9) ?hd (cs := #[.int .i64 0, .int .i64 0, .int .i64 0, .int .i64 0, .bool false]) (t := 69) ?hr ?_; (case hd => rfl); (case hg => rfl); (case hr => first | (go_simp; done) | (go_simp; rfl))
                intro gb157 hg w35 hbox hb
                have n0_ := Aside0.mk (blk_below (g := gb153) (o := .cells #[.int .i64 (wrap64 (9 + (wrap64 (Int.tmod (IntKind.u64.wrap (a0)) 4)))), .int .i64 (wrap64 (512 * (wrap64 (1 + (wrap64 (Int.tmod (IntKind.u64.wrap (a1)) 2000)))))), .int .i64 (wrap64 (200 + (wrap64 (Int.tmod (IntKind.u64.wrap (a2)) 500)))), .int .i64 t154, .bool false] 69 (0, 0)) (by (with_reducible repeat (first | refine blk_drewN ?_ _ | refine blk_drew ?_ | refine blk_alloc ?_ _)); exact BK153.out) hb)
                have n1_ := Aside0.mk (below_step (by repeat (first | (with_reducible first | exact HB.out | apply below_alloc | apply pw_below_drewN | apply below_drew1 | refine below_set ?_ GE153.out) | exact HB.out)) hb)
                have n2_ := Aside0.mk (hbox)
                have n3_ := Aside0.mk ((by rw [hg]; exact (below_size (by repeat (first | (with_reducible first | exact HB.out | apply below_alloc | apply pw_below_drewN | apply below_drew1 | refine below_set ?_ GE153.out) | exact HB.out))) : w.heap.size ≤ gb157))
                have n4_ := Aside0.mk ((by rw [hg]; exact (below_size (by repeat (first | (with_reducible first | exact HB.out | apply below_alloc | apply pw_below_drewN | apply below_drew1 | refine below_set ?_ GE153.out) | exact HB.out))) : w.heap.size ≤ gb157))
                have n5_ := Aside0.mk ((by rw [hg]; exact Nat.ne_of_lt (blk_lt (g := gb153) (o := .cells #[.int .i64 (wrap64 (9 + (wrap64 (Int.tmod (IntKind.u64.wrap (a0)) 4)))), .int .i64 (wrap64 (512 * (wrap64 (1 + (wrap64 (Int.tmod (IntKind.u64.wrap (a1)) 2000)))))), .int .i64 (wrap64 (200 + (wrap64 (Int.tmod (IntKind.u64.wrap (a2)) 500)))), .int .i64 t154, .bool false] 69 (0, 0)) (by (with_reducible repeat (first | refine blk_drewN ?_ _ | refine blk_drew ?_ | refine blk_alloc ?_ _)); exact BK153.out)) : gb153 ≠ gb157))
                have n6_ := Aside0.mk ((by rw [hg]; exact Nat.ne_of_gt (blk_lt (g := gb153) (o := .cells #[.int .i64 (wrap64 (9 + (wrap64 (Int.tmod (IntKind.u64.wrap (a0)) 4)))), .int .i64 (wrap64 (512 * (wrap64 (1 + (wrap64 (Int.tmod (IntKind.u64.wrap (a1)) 2000)))))), .int .i64 (wrap64 (200 + (wrap64 (Int.tmod (IntKind.u64.wrap (a2)) 500)))), .int .i64 t154, .bool false] 69 (0, 0)) (by (with_reducible repeat (first | refine blk_drewN ?_ _ | refine blk_drew ?_ | refine blk_alloc ?_ _)); exact BK153.out)) : gb157 ≠ gb153))
                have z_NB157_156 := fun (h0_ : up b 3 2 = true) (h1_ : up b 3 3 = true) => (show gb157 ≠ gb156 from ((by rw [hg]; exact Nat.ne_of_gt (blk_lt (g := gb156) (o := .cells #[.int .i64 0, .int .i64 0, .int .i64 0, .int .i64 0, .bool false] 69 (0, 0)) (by (with_reducible repeat (first | refine blk_drewN ?_ _ | refine blk_drew ?_ | refine blk_alloc ?_ _)); exact (Q_BK156 h0_ (hoff 4 (by kernel_rfl))))) : gb157 ≠ gb156)))
                have z_NB156_157 := fun (h0_ : up b 3 2 = true) (h1_ : up b 3 3 = true) => (show gb156 ≠ gb157 from ((by rw [hg]; exact Nat.ne_of_lt (blk_lt (g := gb156) (o := .cells #[.int .i64 0, .int .i64 0, .int .i64 0, .int .i64 0, .bool false] 69 (0, 0)) (by (with_reducible repeat (first | refine blk_drewN ?_ _ | refine blk_drew ?_ | refine blk_alloc ?_ _)); exact (Q_BK156 h0_ (hoff 4 (by kernel_rfl))))) : gb156 ≠ gb157)))
                have z_BK156 := fun (h0_ : b 2 = true) (h1_ : b 4 = false) => (show w35.heap[gb156]? = some (.cells #[.int .i64 0, .int .i64 0, .int .i64 0, .int .i64 0, .bool false] 69 (0, 0)) from by first | exact (blk_below (g := gb156) (o := .cells #[.int .i64 0, .int .i64 0, .int .i64 0, .int .i64 0, .bool false] 69 (0, 0)) (by (with_reducible repeat (first | refine blk_drewN ?_ _ | refine blk_drew ?_ | refine blk_alloc ?_ _)); exact (Q_BK156 h0_ h1_)) hb))
                clear BK153
                clear HB
                have BK153 := n0_
                have HB := n1_
                have BK157 := n2_
                have GW157 := n3_
                have GE157 := n4_
                have NB153_157 := n5_
                have NB157_153 := n6_
                clear n0_ n1_ n2_ n3_ n4_ n5_ n6_
                clear hb hbox hg
                refine hK.out _ _ ⟨gb156, gb157, m2_, (.pointer (some ⟨gb157, 0, none⟩)), (by rw [ha.out]; exact putSel_upk 3 hb_ rfl rfl rfl), (by (with_reducible repeat (first | refine blk_drewN ?_ _ | refine blk_drew ?_ | refine blk_alloc ?_ _)); exact BK153.out), (by repeat (first | (with_reducible first | exact HB.out | apply below_alloc | apply pw_below_drewN | apply below_drew1 | refine below_set ?_ GE153.out | refine below_set ?_ GE157.out) | exact HB.out)), z_NB157_156, z_NB156_157, z_BK156, Q_GW156, Q_GE156, Q_NB153_156, Q_NB156_153, fun _ _ => (by (with_reducible repeat (first | refine blk_drewN ?_ _ | refine blk_drew ?_ | refine blk_alloc ?_ _)); exact BK157.out), fun _ => GW157.out, fun _ => GE157.out, fun _ => NB153_157.out, fun _ => NB157_153.out, fun h0_ => absurd ((hoff 4 (by kernel_rfl)).symm.trans h0_) (by decide), fun h0_ => absurd ((hoff 5 (by kernel_rfl)).symm.trans h0_) (by decide), Q_X2_, fun _ => rfl⟩
              refine steps_cons ?_ ?_
              · rintro b a w' ⟨gb156, gb157, m2_, m3_, ha, Q_BK153, Q_HB, Q_NB157_156, Q_NB156_157, Q_BK156, Q_GW156, Q_GE156, Q_NB153_156, Q_NB156_153, Q_BK157, Q_GW157, Q_GE157, Q_NB153_157, Q_NB157_153, Q_BK156_e4, Q_BK157_e5, Q_X2_, Q_X3_⟩ hb_ hon hoff
                refine ⟨_, rfl, fun K hK => ?_⟩
                have e8 : a.tmps[8]? = some (m2_) := by rw [ha]; exact putSel_on (e := (2, 8, m2_)) 2 rfl rfl (hon 2 (by kernel_rfl)) rfl
                rw [Q_X2_ (hon 2 (by kernel_rfl))] at e8
                have e37 : a.tmps[37]? = some (.agg #[.int .i64 (wrap64 (9 + (wrap64 (Int.tmod (IntKind.u64.wrap (a0)) 4)))), .int .i64 (wrap64 (512 * (wrap64 (1 + (wrap64 (Int.tmod (IntKind.u64.wrap (a1)) 2000)))))), .int .i64 (wrap64 (200 + (wrap64 (Int.tmod (IntKind.u64.wrap (a2)) 500)))), .int .i64 t154, .bool false]) := by rw [ha]; exact putSel_on (e := (0, 37, .agg #[.int .i64 (wrap64 (9 + (wrap64 (Int.tmod (IntKind.u64.wrap (a0)) 4)))), .int .i64 (wrap64 (512 * (wrap64 (1 + (wrap64 (Int.tmod (IntKind.u64.wrap (a1)) 2000)))))), .int .i64 (wrap64 (200 + (wrap64 (Int.tmod (IntKind.u64.wrap (a2)) 500)))), .int .i64 t154, .bool false])) 0 rfl rfl (hon 0 (by kernel_rfl)) rfl
                replace ha := Aside0.mk ha
                have BK153 := Aside0.mk Q_BK153
                have HB := Aside0.mk Q_HB
                have NB157_156 := Aside0.mk (Q_NB157_156 (hon 2 (by kernel_rfl)) (hon 3 (by kernel_rfl)))
                have NB156_157 := Aside0.mk (Q_NB156_157 (hon 2 (by kernel_rfl)) (hon 3 (by kernel_rfl)))
                have BK156 := Aside0.mk (Q_BK156 (hon 2 (by kernel_rfl)) hb_)
                have GW156 := Aside0.mk (Q_GW156 (hon 2 (by kernel_rfl)))
                have GE156 := Aside0.mk (Q_GE156 (hon 2 (by kernel_rfl)))
                have NB153_156 := Aside0.mk (Q_NB153_156 (hon 2 (by kernel_rfl)))
                have NB156_153 := Aside0.mk (Q_NB156_153 (hon 2 (by kernel_rfl)))
                have BK157 := Aside0.mk (Q_BK157 (hon 3 (by kernel_rfl)) (hoff 5 (by kernel_rfl)))
                have GW157 := Aside0.mk (Q_GW157 (hon 3 (by kernel_rfl)))
                have GE157 := Aside0.mk (Q_GE157 (hon 3 (by kernel_rfl)))
                have NB153_157 := Aside0.mk (Q_NB153_157 (hon 3 (by kernel_rfl)))
                have NB157_153 := Aside0.mk (Q_NB157_153 (hon 3 (by kernel_rfl)))
                have hs38 : w'.cell? ⟨gb156, 0, none⟩ = some (.int .i64 0) := (blk_cell BK156.out 0).trans rfl
                have hfs38 := blk_frozen BK156.out 0
                have hns38_0 := NB153_156.out
                have hns38_2 := NB157_156.out
                have hms38_0 := NB156_153.out
                have hms38_2 := NB156_157.out
                have hs39 : w'.cell? ⟨gb156, 1, none⟩ = some (.int .i64 0) := (blk_cell BK156.out 1).trans rfl
                have hfs39 := blk_frozen BK156.out 1
                have hns39_0 := NB153_156.out
                have hns39_2 := NB157_156.out
                have hms39_0 := NB156_153.out
                have hms39_2 := NB156_157.out
                have hs40 : w'.cell? ⟨gb156, 2, none⟩ = some (.int .i64 0) := (blk_cell BK156.out 2).trans rfl
                have hfs40 := blk_frozen BK156.out 2
                have hns40_0 := NB153_156.out
                have hns40_2 := NB157_156.out
                have hms40_0 := NB156_153.out
                have hms40_2 := NB156_157.out
                have hs41 : w'.cell? ⟨gb156, 3, none⟩ = some (.int .i64 0) := (blk_cell BK156.out 3).trans rfl
                have hfs41 := blk_frozen BK156.out 3
                have hns41_0 := NB153_156.out
                have hns41_2 := NB157_156.out
                have hms41_0 := NB156_153.out
                have hms41_2 := NB156_157.out
                have hs42 : w'.cell? ⟨gb156, 4, none⟩ = some (.bool false) := (blk_cell BK156.out 4).trans rfl
                have hfs42 := blk_frozen BK156.out 4
                have hns42_0 := NB153_156.out
                have hns42_2 := NB157_156.out
                have hms42_0 := NB156_153.out
                have hms42_2 := NB156_157.out
                refine skip_ (w1 := ?_) (by rfl) rfl ?_ ?_
                rotate_left
                · go_simp
                  rfl
                refine hK.out _ _ ⟨gb156, gb157, m2_, m3_, (by rw [ha.out]; exact putSel_none (v := undef) rfl), (by (with_reducible repeat (first | refine blk_drewN ?_ _ | refine blk_drew ?_ | refine blk_alloc ?_ _)); refine blk_far ?_ NB153_156.out _; (with_reducible repeat (first | refine blk_drewN ?_ _ | refine blk_drew ?_ | refine blk_alloc ?_ _)); refine blk_far ?_ NB153_156.out _; (with_reducible repeat (first | refine blk_drewN ?_ _ | refine blk_drew ?_ | refine blk_alloc ?_ _)); refine blk_far ?_ NB153_156.out _; (with_reducible repeat (first | refine blk_drewN ?_ _ | refine blk_drew ?_ | refine blk_alloc ?_ _)); refine blk_far ?_ NB153_156.out _; (with_reducible repeat (first | refine blk_drewN ?_ _ | refine blk_drew ?_ | refine blk_alloc ?_ _)); refine blk_far ?_ NB153_156.out _; (with_reducible repeat (first | refine blk_drewN ?_ _ | refine blk_drew ?_ | refine blk_alloc ?_ _)); exact BK153.out), (by repeat (first | (with_reducible first | exact HB.out | apply below_alloc | apply pw_below_drewN | apply below_drew1 | refine below_set ?_ GE153.out | refine below_set ?_ GE156.out | refine below_set ?_ GE157.out) | exact HB.out)), fun _ _ => NB157_156.out, fun _ _ => NB156_157.out, fun _ h1_ => absurd ((up_self b 4).symm.trans h1_) (by decide), fun _ => GW156.out, fun _ => GE156.out, fun _ => NB153_156.out, fun _ => NB156_153.out, fun _ _ => (by (with_reducible repeat (first | refine blk_drewN ?_ _ | refine blk_drew ?_ | refine blk_alloc ?_ _)); refine blk_far ?_ NB157_156.out _; (with_reducible repeat (first | refine blk_drewN ?_ _ | refine blk_drew ?_ | refine blk_alloc ?_ _)); refine blk_far ?_ NB157_156.out _; (with_reducible repeat (first | refine blk_drewN ?_ _ | refine blk_drew ?_ | refine blk_alloc ?_ _)); refine blk_far ?_ NB157_156.out _; (with_reducible repeat (first | refine blk_drewN ?_ _ | refine blk_drew ?_ | refine blk_alloc ?_ _)); refine blk_far ?_ NB157_156.out _; (with_reducible repeat (first | refine blk_drewN ?_ _ | refine blk_drew ?_ | refine blk_alloc ?_ _)); refine blk_far ?_ NB157_156.out _; (with_reducible repeat (first | refine blk_drewN ?_ _ | refine blk_drew ?_ | refine blk_alloc ?_ _)); exact BK157.out), fun _ => GW157.out, fun _ => GE157.out, fun _ => NB153_157.out, fun _ => NB157_153.out, fun _ => (by (with_reducible repeat (first | refine blk_drewN ?_ _ | refine blk_drew ?_ | refine blk_alloc ?_ _)); refine blk_put (cs := #[.int .i64 (wrap64 (9 + (wrap64 (Int.tmod (IntKind.u64.wrap (a0)) 4)))), .int .i64 (wrap64 (512 * (wrap64 (1 + (wrap64 (Int.tmod (IntKind.u64.wrap (a1)) 2000)))))), .int .i64 (wrap64 (200 + (wrap64 (Int.tmod (IntKind.u64.wrap (a2)) 500)))), .int .i64 t154, .bool false]) ?_ 4 _ (by first | rfl | (simp [*]; done)); (with_reducible repeat (first | refine blk_drewN ?_ _ | refine blk_drew ?_ | refine blk_alloc ?_ _)); refine blk_put (cs := #[.int .i64 (wrap64 (9 + (wrap64 (Int.tmod (IntKind.u64.wrap (a0)) 4)))), .int .i64 (wrap64 (512 * (wrap64 (1 + (wrap64 (Int.tmod (IntKind.u64.wrap (a1)) 2000)))))), .int .i64 (wrap64 (200 + (wrap64 (Int.tmod (IntKind.u64.wrap (a2)) 500)))), .int .i64 0, .bool false]) ?_ 3 _ (by first | rfl | (simp [*]; done)); (with_reducible repeat (first | refine blk_drewN ?_ _ | refine blk_drew ?_ | refine blk_alloc ?_ _)); refine blk_put (cs := #[.int .i64 (wrap64 (9 + (wrap64 (Int.tmod (IntKind.u64.wrap (a0)) 4)))), .int .i64 (wrap64 (512 * (wrap64 (1 + (wrap64 (Int.tmod (IntKind.u64.wrap (a1)) 2000)))))), .int .i64 0, .int .i64 0, .bool false]) ?_ 2 _ (by first | rfl | (simp [*]; done)); (with_reducible repeat (first | refine blk_drewN ?_ _ | refine blk_drew ?_ | refine blk_alloc ?_ _)); refine blk_put (cs := #[.int .i64 (wrap64 (9 + (wrap64 (Int.tmod (IntKind.u64.wrap (a0)) 4)))), .int .i64 0, .int .i64 0, .int .i64 0, .bool false]) ?_ 1 _ (by first | rfl | (simp [*]; done)); (with_reducible repeat (first | refine blk_drewN ?_ _ | refine blk_drew ?_ | refine blk_alloc ?_ _)); refine blk_put (cs := #[.int .i64 0, .int .i64 0, .int .i64 0, .int .i64 0, .bool false]) ?_ 0 _ (by first | rfl | (simp [*]; done)); (with_reducible repeat (first | refine blk_drewN ?_ _ | refine blk_drew ?_ | refine blk_alloc ?_ _)); exact BK156.out), fun h0_ => absurd ((hoff 5 (by kernel_rfl)).symm.trans h0_) (by decide), Q_X2_, Q_X3_⟩
              refine steps_cons ?_ ?_
              · rintro b a w' ⟨gb156, gb157, m2_, m3_, ha, Q_BK153, Q_HB, Q_NB157_156, Q_NB156_157, Q_BK156, Q_GW156, Q_GE156, Q_NB153_156, Q_NB156_153, Q_BK157, Q_GW157, Q_GE157, Q_NB153_157, Q_NB157_153, Q_BK156_e4, Q_BK157_e5, Q_X2_, Q_X3_⟩ hb_ hon hoff
                refine ⟨_, rfl, fun K hK => ?_⟩
                have e9 : a.tmps[9]? = some (m3_) := by rw [ha]; exact putSel_on (e := (3, 9, m3_)) 3 rfl rfl (hon 3 (by kernel_rfl)) rfl
                rw [Q_X3_ (hon 3 (by kernel_rfl))] at e9
                have e38 : a.tmps[38]? = some (.agg #[.int .i64 (wrap64 (9 + (wrap64 (Int.tmod (IntKind.u64.wrap (a0)) 4)))), .int .i64 (wrap64 (512 * (wrap64 (1 + (wrap64 (Int.tmod (IntKind.u64.wrap (a1)) 2000)))))), .int .i64 (wrap64 (200 + (wrap64 (Int.tmod (IntKind.u64.wrap (a2)) 500)))), .int .i64 t154, .bool false]) := by rw [ha]; exact putSel_on (e := (1, 38, .agg #[.int .i64 (wrap64 (9 + (wrap64 (Int.tmod (IntKind.u64.wrap (a0)) 4)))), .int .i64 (wrap64 (512 * (wrap64 (1 + (wrap64 (Int.tmod (IntKind.u64.wrap (a1)) 2000)))))), .int .i64 (wrap64 (200 + (wrap64 (Int.tmod (IntKind.u64.wrap (a2)) 500)))), .int .i64 t154, .bool false])) 1 rfl rfl (hon 1 (by kernel_rfl)) rfl
                replace ha := Aside0.mk ha
                have BK153 := Aside0.mk Q_BK153
                have HB := Aside0.mk Q_HB
                have NB157_156 := Aside0.mk (Q_NB157_156 (hon 2 (by kernel_rfl)) (hon 3 (by kernel_rfl)))
                have NB156_157 := Aside0.mk (Q_NB156_157 (hon 2 (by kernel_rfl)) (hon 3 (by kernel_rfl)))
                have GW156 := Aside0.mk (Q_GW156 (hon 2 (by kernel_rfl)))
                have GE156 := Aside0.mk (Q_GE156 (hon 2 (by kernel_rfl)))
                have NB153_156 := Aside0.mk (Q_NB153_156 (hon 2 (by kernel_rfl)))
                have NB156_153 := Aside0.mk (Q_NB156_153 (hon 2 (by kernel_rfl)))
                have BK157 := Aside0.mk (Q_BK157 (hon 3 (by kernel_rfl)) hb_)
                have GW157 := Aside0.mk (Q_GW157 (hon 3 (by kernel_rfl)))
                have GE157 := Aside0.mk (Q_GE157 (hon 3 (by kernel_rfl)))
                have NB153_157 := Aside0.mk (Q_NB153_157 (hon 3 (by kernel_rfl)))
                have NB157_153 := Aside0.mk (Q_NB157_153 (hon 3 (by kernel_rfl)))
                have BK156 := Aside0.mk (Q_BK156_e4 (hon 4 (by kernel_rfl)))
                have hs43 : w'.cell? ⟨gb157, 0, none⟩ = some (.int .i64 0) := (blk_cell BK157.out 0).trans rfl
                have hfs43 := blk_frozen BK157.out 0
                have hns43_0 := NB153_157.out
                have hns43_1 := NB156_157.out
                have hms43_0 := NB157_153.out
                have hms43_1 := NB157_156.out
                have hs44 : w'.cell? ⟨gb157, 1, none⟩ = some (.int .i64 0) := (blk_cell BK157.out 1).trans rfl
                have hfs44 := blk_frozen BK157.out 1
                have hns44_0 := NB153_157.out
                have hns44_1 := NB156_157.out
                have hms44_0 := NB157_153.out
                have hms44_1 := NB157_156.out
                have hs45 : w'.cell? ⟨gb157, 2, none⟩ = some (.int .i64 0) := (blk_cell BK157.out 2).trans rfl
                have hfs45 := blk_frozen BK157.out 2
                have hns45_0 := NB153_157.out
                have hns45_1 := NB156_157.out
                have hms45_0 := NB157_153.out
                have hms45_1 := NB157_156.out
                have hs46 : w'.cell? ⟨gb157, 3, none⟩ = some (.int .i64 0) := (blk_cell BK157.out 3).trans rfl
                have hfs46 := blk_frozen BK157.out 3
                have hns46_0 := NB153_157.out
                have hns46_1 := NB156_157.out
                have hms46_0 := NB157_153.out
                have hms46_1 := NB157_156.out
                have hs47 : w'.cell? ⟨gb157, 4, none⟩ = some (.bool false) := (blk_cell BK157.out 4).trans rfl
                have hfs47 := blk_frozen BK157.out 4
                have hns47_0 := NB153_157.out
                have hns47_1 := NB156_157.out
                have hms47_0 := NB157_153.out
                have hms47_1 := NB157_156.out
                refine skip_ (w1 := ?_) (by rfl) rfl ?_ ?_
                rotate_left
                · go_simp
                  rfl
                refine hK.out _ _ ⟨gb156, gb157, m2_, m3_, (by rw [ha.out]; exact putSel_none (v := undef) rfl), (by (with_reducible repeat (first | refine blk_drewN ?_ _ | refine blk_drew ?_ | refine blk_alloc ?_ _)); refine blk_far ?_ NB153_157.out _; (with_reducible repeat (first | refine blk_drewN ?_ _ | refine blk_drew ?_ | refine blk_alloc ?_ _)); refine blk_far ?_ NB153_157.out _; (with_reducible repeat (first | refine blk_drewN ?_ _ | refine blk_drew ?_ | refine blk_alloc ?_ _)); refine blk_far ?_ NB153_157.out _; (with_reducible repeat (first | refine blk_drewN ?_ _ | refine blk_drew ?_ | refine blk_alloc ?_ _)); refine blk_far ?_ NB153_157.out _; (with_reducible repeat (first | refine blk_drewN ?_ _ | refine blk_drew ?_ | refine blk_alloc ?_ _)); refine blk_far ?_ NB153_157.out _; (with_reducible repeat (first | refine blk_drewN ?_ _ | refine blk_drew ?_ | refine blk_alloc ?_ _)); exact BK153.out), (by repeat (first | (with_reducible first | exact HB.out | apply below_alloc | apply pw_below_drewN | apply below_drew1 | refine below_set ?_ GE153.out | refine below_set ?_ GE156.out | refine below_set ?_ GE157.out) | exact HB.out)), fun _ _ => NB157_156.out, fun _ _ => NB156_157.out, fun _ h1_ => absurd ((hon 4 (by kernel_rfl)).symm.trans h1_) (by decide), fun _ => GW156.out, fun _ => GE156.out, fun _ => NB153_156.out, fun _ => NB156_153.out, fun _ h1_ => absurd ((up_self b 5).symm.trans h1_) (by decide), fun _ => GW157.out, fun _ => GE157.out, fun _ => NB153_157.out, fun _ => NB157_153.out, fun _ => (by (with_reducible repeat (first | refine blk_drewN ?_ _ | refine blk_drew ?_ | refine blk_alloc ?_ _)); refine blk_far ?_ NB156_157.out _; (with_reducible repeat (first | refine blk_drewN ?_ _ | refine blk_drew ?_ | refine blk_alloc ?_ _)); refine blk_far ?_ NB156_157.out _; (with_reducible repeat (first | refine blk_drewN ?_ _ | refine blk_drew ?_ | refine blk_alloc ?_ _)); refine blk_far ?_ NB156_157.out _; (with_reducible repeat (first | refine blk_drewN ?_ _ | refine blk_drew ?_ | refine blk_alloc ?_ _)); refine blk_far ?_ NB156_157.out _; (with_reducible repeat (first | refine blk_drewN ?_ _ | refine blk_drew ?_ | refine blk_alloc ?_ _)); refine blk_far ?_ NB156_157.out _; (with_reducible repeat (first | refine blk_drewN ?_ _ | refine blk_drew ?_ | refine blk_alloc ?_ _)); exact BK156.out), fun _ => (by (with_reducible repeat (first | refine blk_drewN ?_ _ | refine blk_drew ?_ | refine blk_alloc ?_ _)); refine blk_put (cs := #[.int .i64 (wrap64 (9 + (wrap64 (Int.tmod (IntKind.u64.wrap (a0)) 4)))), .int .i64 (wrap64 (512 * (wrap64 (1 + (wrap64 (Int.tmod (IntKind.u64.wrap (a1)) 2000)))))), .int .i64 (wrap64 (200 + (wrap64 (Int.tmod (IntKind.u64.wrap (a2)) 500)))), .int .i64 t154, .bool false]) ?_ 4 _ (by first | rfl | (simp [*]; done)); (with_reducible repeat (first | refine blk_drewN ?_ _ | refine blk_drew ?_ | refine blk_alloc ?_ _)); refine blk_put (cs := #[.int .i64 (wrap64 (9 + (wrap64 (Int.tmod (IntKind.u64.wrap (a0)) 4)))), .int .i64 (wrap64 (512 * (wrap64 (1 + (wrap64 (Int.tmod (IntKind.u64.wrap (a1)) 2000)))))), .int .i64 (wrap64 (200 + (wrap64 (Int.tmod (IntKind.u64.wrap (a2)) 500)))), .int .i64 0, .bool false]) ?_ 3 _ (by first | rfl | (simp [*]; done)); (with_reducible repeat (first | refine blk_drewN ?_ _ | refine blk_drew ?_ | refine blk_alloc ?_ _)); refine blk_put (cs := #[.int .i64 (wrap64 (9 + (wrap64 (Int.tmod (IntKind.u64.wrap (a0)) 4)))), .int .i64 (wrap64 (512 * (wrap64 (1 + (wrap64 (Int.tmod (IntKind.u64.wrap (a1)) 2000)))))), .int .i64 0, .int .i64 0, .bool false]) ?_ 2 _ (by first | rfl | (simp [*]; done)); (with_reducible repeat (first | refine blk_drewN ?_ _ | refine blk_drew ?_ | refine blk_alloc ?_ _)); refine blk_put (cs := #[.int .i64 (wrap64 (9 + (wrap64 (Int.tmod (IntKind.u64.wrap (a0)) 4)))), .int .i64 0, .int .i64 0, .int .i64 0, .bool false]) ?_ 1 _ (by first | rfl | (simp [*]; done)); (with_reducible repeat (first | refine blk_drewN ?_ _ | refine blk_drew ?_ | refine blk_alloc ?_ _)); refine blk_put (cs := #[.int .i64 0, .int .i64 0, .int .i64 0, .int .i64 0, .bool false]) ?_ 0 _ (by first | rfl | (simp [*]; done)); (with_reducible repeat (first | refine blk_drewN ?_ _ | refine blk_drew ?_ | refine blk_alloc ?_ _)); exact BK157.out), Q_X2_, Q_X3_⟩
              exact steps_nil
            rintro b a w47 hall ⟨gb156, gb157, m2_, m3_, ha, Q_BK153, Q_HB, Q_NB157_156, Q_NB156_157, Q_BK156, Q_GW156, Q_GE156, Q_NB153_156, Q_NB156_153, Q_BK157, Q_GW157, Q_GE157, Q_NB153_157, Q_NB157_153, Q_BK156_e4, Q_BK157_e5, Q_X2_, Q_X3_⟩
            clear BK153 HB
            have hb0_ := hall 0 (by kernel_rfl)
            have hb1_ := hall 1 (by kernel_rfl)
            have hb2_ := hall 2 (by kernel_rfl)
            have hb3_ := hall 3 (by kernel_rfl)
            have hb4_ := hall 4 (by kernel_rfl)
            have hb5_ := hall 5 (by kernel_rfl)
            subst ha
            obtain rfl := Q_X2_ hb2_
            obtain rfl := Q_X3_ hb3_
            simp only [putSel, hb0_, hb1_, hb2_, hb3_, hb4_, hb5_, if_true, Act.put, List.setIfInBounds_toArray, List.set_cons_zero, List.set_cons_succ]
            have BK153 := Aside0.mk Q_BK153
            clear Q_BK153
            have HB := Aside0.mk Q_HB
            clear Q_HB
            have NB157_156 := Aside0.mk (Q_NB157_156 hb2_ hb3_)
            clear Q_NB157_156
            have NB156_157 := Aside0.mk (Q_NB156_157 hb2_ hb3_)
            clear Q_NB156_157
            clear Q_BK156
            have GW156 := Aside0.mk (Q_GW156 hb2_)
            clear Q_GW156
            have GE156 := Aside0.mk (Q_GE156 hb2_)
            clear Q_GE156
            have NB153_156 := Aside0.mk (Q_NB153_156 hb2_)
            clear Q_NB153_156
            have NB156_153 := Aside0.mk (Q_NB156_153 hb2_)
            clear Q_NB156_153
            clear Q_BK157
            have GW157 := Aside0.mk (Q_GW157 hb3_)
            clear Q_GW157
            have GE157 := Aside0.mk (Q_GE157 hb3_)
            clear Q_GE157
            have NB153_157 := Aside0.mk (Q_NB153_157 hb3_)
            clear Q_NB153_157
            have NB157_153 := Aside0.mk (Q_NB157_153 hb3_)
            clear Q_NB157_153
            have BK156 := Aside0.mk (Q_BK156_e4 hb4_)
            clear Q_BK156_e4
            have BK157 := Aside0.mk (Q_BK157_e5 hb5_)
            clear Q_BK157_e5
            clear hall hb0_ hb1_ hb2_ hb3_ hb4_ hb5_
            have hnb48 := NB156_153.out
            have hnc48 := NB153_156.out
            have hnb49 := NB156_157.out
            have hnc49 := NB157_156.out
            have hcz50_0 : w47.cell? ⟨gb156, 0, none⟩ = some (.int .i64 (wrap64 (9 + (wrap64 (Int.tmod (IntKind.u64.wrap (a0)) 4))))) := (blk_cell BK156.out 0).trans rfl
            have hcz50_1 : w47.cell? ⟨gb156, 1, none⟩ = some (.int .i64 (wrap64 (512 * (wrap64 (1 + (wrap64 (Int.tmod (IntKind.u64.wrap (a1)) 2000))))))) := (blk_cell BK156.out 1).trans rfl
            have hcz50_2 : w47.cell? ⟨gb156, 2, none⟩ = some (.int .i64 (wrap64 (200 + (wrap64 (Int.tmod (IntKind.u64.wrap (a2)) 500))))) := (blk_cell BK156.out 2).trans rfl
            have hcz50_3 : w47.cell? ⟨gb156, 3, none⟩ = some (.int .i64 t154) := (blk_cell BK156.out 3).trans rfl
            have hcz50_4 : w47.cell? ⟨gb156, 4, none⟩ = some (.bool false) := (blk_cell BK156.out 4).trans rfl
            have hfz50_0 := blk_frozen BK156.out 0
            have hfz50_1 := blk_frozen BK156.out 1
            have hfz50_2 := blk_frozen BK156.out 2
            have hfz50_3 := blk_frozen BK156.out 3
            have hfz50_4 := blk_frozen BK156.out 4
            have hnb51 := NB153_157.out
            have hnc51 := NB157_153.out
            have hcz52_0 : w47.cell? ⟨gb153, 0, none⟩ = some (.int .i64 (wrap64 (9 + (wrap64 (Int.tmod (IntKind.u64.wrap (a0)) 4))))) := (blk_cell BK153.out 0).trans rfl
            have hcz52_1 : w47.cell? ⟨gb153, 1, none⟩ = some (.int .i64 (wrap64 (512 * (wrap64 (1 + (wrap64 (Int.tmod (IntKind.u64.wrap (a1)) 2000))))))) := (blk_cell BK153.out 1).trans rfl
            have hcz52_2 : w47.cell? ⟨gb153, 2, none⟩ = some (.int .i64 (wrap64 (200 + (wrap64 (Int.tmod (IntKind.u64.wrap (a2)) 500))))) := (blk_cell BK153.out 2).trans rfl
            have hcz52_3 : w47.cell? ⟨gb153, 3, none⟩ = some (.int .i64 t154) := (blk_cell BK153.out 3).trans rfl
            have hcz52_4 : w47.cell? ⟨gb153, 4, none⟩ = some (.bool false) := (blk_cell BK153.out 4).trans rfl
            have hfz52_0 := blk_frozen BK153.out 0
            have hfz52_1 := blk_frozen BK153.out 1
            have hfz52_2 := blk_frozen BK153.out 2
            have hfz52_3 := blk_frozen BK153.out 3
            have hfz52_4 := blk_frozen BK153.out 4
            try go_wp2_with (first | ((with_reducible refine gate_callee (f := 54) rfl ?_); refine goesL_ (some 44) rfl rfl Try.func54 (by kernel_rfl) rfl #[.agg #[.int .i64 (wrap64 (9 + (wrap64 (Int.tmod (IntKind.u64.wrap (a0)) 4)))), .int .i64 (wrap64 (512 * (wrap64 (1 + (wrap64 (Int.tmod (IntKind.u64.wrap (a1)) 2000)))))), .int .i64 (wrap64 (200 + (wrap64 (Int.tmod (IntKind.u64.wrap (a2)) 500)))), .int .i64 t154, .bool false]] rfl (by (try simp only [List.map_toArray, List.map_cons, List.map_nil]); first | done | rfl | (simp only [List.length_drop, List.length_take]; rfl)) ?_; (with_reducible refine (header_Header_First.calls (wrap64 (9 + (wrap64 (Int.tmod (IntKind.u64.wrap (a0)) 4)))) (wrap64 (512 * (wrap64 (1 + (wrap64 (Int.tmod (IntKind.u64.wrap (a1)) 2000)))))) (wrap64 (200 + (wrap64 (Int.tmod (IntKind.u64.wrap (a2)) 500)))) t154 false t158 _ A17.out).mono ?_); rintro e w53 ⟨rfl, hb⟩; refine ⟨_, rfl, ?_⟩; have n0_ := Aside0.mk (blk_below (g := gb153) (o := .cells #[.int .i64 (wrap64 (9 + (wrap64 (Int.tmod (IntKind.u64.wrap (a0)) 4)))), .int .i64 (wrap64 (512 * (wrap64 (1 + (wrap64 (Int.tmod (IntKind.u64.wrap (a1)) 2000)))))), .int .i64 (wrap64 (200 + (wrap64 (Int.tmod (IntKind.u64.wrap (a2)) 500)))), .int .i64 t154, .bool false] 69 (0, 0)) (by (with_reducible repeat (first | refine blk_drewN ?_ _ | refine blk_drew ?_ | refine blk_alloc ?_ _)); refine blk_far ?_ NB153_156.out _; (with_reducible repeat (first | refine blk_drewN ?_ _ | refine blk_drew ?_ | refine blk_alloc ?_ _)); exact BK153.out) hb); have n1_ := Aside0.mk (blk_below (g := gb156) (o := .cells #[.int .i64 (wrap64 (9 + (wrap64 (Int.tmod (IntKind.u64.wrap (a0)) 4)))), .int .i64 (wrap64 (512 * (wrap64 (1 + (wrap64 (Int.tmod (IntKind.u64.wrap (a1)) 2000)))))), .int .i64 (wrap64 (200 + (wrap64 (Int.tmod (IntKind.u64.wrap (a2)) 500)))), .int .i64 (wrap64 (t154 - 1)), .bool false] 69 (0, 0)) (by (with_reducible repeat (first | refine blk_drewN ?_ _ | refine blk_drew ?_ | refine blk_alloc ?_ _)); refine blk_put (cs := #[.int .i64 (wrap64 (9 + (wrap64 (Int.tmod (IntKind.u64.wrap (a0)) 4)))), .int .i64 (wrap64 (512 * (wrap64 (1 + (wrap64 (Int.tmod (IntKind.u64.wrap (a1)) 2000)))))), .int .i64 (wrap64 (200 + (wrap64 (Int.tmod (IntKind.u64.wrap (a2)) 500)))), .int .i64 t154, .bool false]) ?_ 3 _ (by first | rfl | (simp [*]; done)); (with_reducible repeat (first | refine blk_drewN ?_ _ | refine blk_drew ?_ | refine blk_alloc ?_ _)); exact BK156.out) hb); have n2_ := Aside0.mk (blk_below (g := gb157) (o := .cells #[.int .i64 (wrap64 (9 + (wrap64 (Int.tmod (IntKind.u64.wrap (a0)) 4)))), .int .i64 (wrap64 (512 * (wrap64 (1 + (wrap64 (Int.tmod (IntKind.u64.wrap (a1)) 2000)))))), .int .i64 (wrap64 (200 + (wrap64 (Int.tmod (IntKind.u64.wrap (a2)) 500)))), .int .i64 t154, .bool false] 69 (0, 0)) (by (with_reducible repeat (first | refine blk_drewN ?_ _ | refine blk_drew ?_ | refine blk_alloc ?_ _)); refine blk_far ?_ NB157_156.out _; (with_reducible repeat (first | refine blk_drewN ?_ _ | refine blk_drew ?_ | refine blk_alloc ?_ _)); exact BK157.out) hb); have n3_ := Aside0.mk (below_step (by repeat (first | (with_reducible first | exact HB.out | apply below_alloc | apply pw_below_drewN | apply below_drew1 | refine below_set ?_ GE153.out | refine below_set ?_ GE156.out | refine below_set ?_ GE157.out) | exact HB.out)) hb); clear BK153; clear BK156; clear BK157; clear HB; have BK153 := n0_; have BK156 := n1_; have BK157 := n2_; have HB := n3_; clear n0_ n1_ n2_ n3_; (try clear hb); (try clear hb2); (try clear hk); (try clear hi); have hcz54_0 : w53.cell? ⟨gb157, 0, none⟩ = some (.int .i64 (wrap64 (9 + (wrap64 (Int.tmod (IntKind.u64.wrap (a0)) 4))))) := (blk_cell BK157.out 0).trans rfl; have hcz54_1 : w53.cell? ⟨gb157, 1, none⟩ = some (.int .i64 (wrap64 (512 * (wrap64 (1 + (wrap64 (Int.tmod (IntKind.u64.wrap (a1)) 2000))))))) := (blk_cell BK157.out 1).trans rfl; have hcz54_2 : w53.cell? ⟨gb157, 2, none⟩ = some (.int .i64 (wrap64 (200 + (wrap64 (Int.tmod (IntKind.u64.wrap (a2)) 500))))) := (blk_cell BK157.out 2).trans rfl; have hcz54_3 : w53.cell? ⟨gb157, 3, none⟩ = some (.int .i64 t154) := (blk_cell BK157.out 3).trans rfl; have hcz54_4 : w53.cell? ⟨gb157, 4, none⟩ = some (.bool false) := (blk_cell BK157.out 4).trans rfl; have hfz54_0 := blk_frozen BK157.out 0; have hfz54_1 := blk_frozen BK157.out 1; have hfz54_2 := blk_frozen BK157.out 2; have hfz54_3 := blk_frozen BK157.out 3; have hfz54_4 := blk_frozen BK157.out 4))
            have n0_ : Aside0 ((w53.setCell ⟨gb157, 2, none⟩ (.int .i64 (wrap64 (t158 - 1)))).heap[gb153]? = some (.cells #[.int .i64 (wrap64 (9 + (wrap64 (Int.tmod (IntKind.u64.wrap (a0)) 4)))), .int .i64 (wrap64 (512 * (wrap64 (1 + (wrap64 (Int.tmod (IntKind.u64.wrap (a1)) 2000)))))), .int .i64 (wrap64 (200 + (wrap64 (Int.tmod (IntKind.u64.wrap (a2)) 500)))), .int .i64 t154, .bool false] 69 (0, 0))) := ⟨by (with_reducible repeat (first | refine blk_drewN ?_ _ | refine blk_drew ?_ | refine blk_alloc ?_ _)); refine blk_far ?_ NB153_157.out _; (with_reducible repeat (first | refine blk_drewN ?_ _ | refine blk_drew ?_ | refine blk_alloc ?_ _)); exact BK153.out⟩
            have n1_ : Aside0 ((w53.setCell ⟨gb157, 2, none⟩ (.int .i64 (wrap64 (t158 - 1)))).heap[gb156]? = some (.cells #[.int .i64 (wrap64 (9 + (wrap64 (Int.tmod (IntKind.u64.wrap (a0)) 4)))), .int .i64 (wrap64 (512 * (wrap64 (1 + (wrap64 (Int.tmod (IntKind.u64.wrap (a1)) 2000)))))), .int .i64 (wrap64 (200 + (wrap64 (Int.tmod (IntKind.u64.wrap (a2)) 500)))), .int .i64 (wrap64 (t154 - 1)), .bool false] 69 (0, 0))) := ⟨by (with_reducible repeat (first | refine blk_drewN ?_ _ | refine blk_drew ?_ | refine blk_alloc ?_ _)); refine blk_far ?_ NB156_157.out _; (with_reducible repeat (first | refine blk_drewN ?_ _ | refine blk_drew ?_ | refine blk_alloc ?_ _)); exact BK156.out⟩
            have n2_ : Aside0 ((w53.setCell ⟨gb157, 2, none⟩ (.int .i64 (wrap64 (t158 - 1)))).heap[gb157]? = some (.cells #[.int .i64 (wrap64 (9 + (wrap64 (Int.tmod (IntKind.u64.wrap (a0)) 4)))), .int .i64 (wrap64 (512 * (wrap64 (1 + (wrap64 (Int.tmod (IntKind.u64.wrap (a1)) 2000)))))), .int .i64 (wrap64 (t158 - 1)), .int .i64 t154, .bool false] 69 (0, 0))) := ⟨by (with_reducible repeat (first | refine blk_drewN ?_ _ | refine blk_drew ?_ | refine blk_alloc ?_ _)); refine blk_put (cs := #[.int .i64 (wrap64 (9 + (wrap64 (Int.tmod (IntKind.u64.wrap (a0)) 4)))), .int .i64 (wrap64 (512 * (wrap64 (1 + (wrap64 (Int.tmod (IntKind.u64.wrap (a1)) 2000)))))), .int .i64 (wrap64 (200 + (wrap64 (Int.tmod (IntKind.u64.wrap (a2)) 500)))), .int .i64 t154, .bool false]) ?_ 2 _ (by first | rfl | (simp [*]; done)); (with_reducible repeat (first | refine blk_drewN ?_ _ | refine blk_drew ?_ | refine blk_alloc ?_ _)); exact BK157.out⟩
            have n3_ : Aside0 (Below w.heap.size w (w53.setCell ⟨gb157, 2, none⟩ (.int .i64 (wrap64 (t158 - 1))))) := ⟨by repeat (first | (with_reducible first | exact HB.out | apply below_alloc | apply pw_below_drewN | apply below_drew1 | refine below_set ?_ GE153.out | refine below_set ?_ GE156.out | refine below_set ?_ GE157.out) | exact HB.out)⟩
            (try clear BK153)
            (try clear BK156)
            (try clear BK157)
            (try clear HB)
            generalize (w53.setCell ⟨gb157, 2, none⟩ (.int .i64 (wrap64 (t158 - 1)))) = w55 at n0_ n1_ n2_ n3_ ⊢
            have BK153 := n0_
            have BK156 := n1_
            have BK157 := n2_
            have HB := n3_
            clear n0_ n1_ n2_ n3_
            have n0_ := Aside0.mk (blk_drew BK153.out)
            have n1_ := Aside0.mk (blk_drew BK156.out)
            have n2_ := Aside0.mk (blk_drew BK157.out)
            have n3_ := Aside0.mk (below_drew1 HB.out)
            clear BK153
            clear BK156
            clear BK157
            clear HB
            have BK153 := n0_
            have BK156 := n1_
            have BK157 := n2_
            have HB := n3_
            clear n0_ n1_ n2_ n3_
            refine start_ (n := 5) (S := fun w' => w'.cell? ⟨gb157, 0, none⟩ = some (.int .i64 (wrap64 (9 + (wrap64 (Int.tmod (IntKind.u64.wrap (a0)) 4))))) ∧ w'.cell? ⟨gb157, 1, none⟩ = some (.int .i64 (wrap64 (512 * (wrap64 (1 + (wrap64 (Int.tmod (IntKind.u64.wrap (a1)) 2000))))))) ∧ w'.cell? ⟨gb157, 2, none⟩ = some (.int .i64 (wrap64 (t158 - 1))) ∧ w'.cell? ⟨gb157, 3, none⟩ = some (.int .i64 t154) ∧ w'.cell? ⟨gb157, 4, none⟩ = some (.bool false) ∧ w'.cell? ⟨gb153, 0, none⟩ = some (.int .i64 (wrap64 (9 + (wrap64 (Int.tmod (IntKind.u64.wrap (a0)) 4))))) ∧ w'.cell? ⟨gb153, 1, none⟩ = some (.int .i64 (wrap64 (512 * (wrap64 (1 + (wrap64 (Int.tmod (IntKind.u64.wrap (a1)) 2000))))))) ∧ w'.cell? ⟨gb153, 2, none⟩ = some (.int .i64 (wrap64 (200 + (wrap64 (Int.tmod (IntKind.u64.wrap (a2)) 500))))) ∧ w'.cell? ⟨gb153, 3, none⟩ = some (.int .i64 t154) ∧ w'.cell? ⟨gb153, 4, none⟩ = some (.bool false)) (ds := []) #[false, false, false, false, false] (by kernel_rfl) rfl rfl ⟨(blk_cell BK157.out 0).trans rfl, (blk_cell BK157.out 1).trans rfl, (blk_cell BK157.out 2).trans rfl, (blk_cell BK157.out 3).trans rfl, (blk_cell BK157.out 4).trans rfl, (blk_cell BK153.out 0).trans rfl, (blk_cell BK153.out 1).trans rfl, (blk_cell BK153.out 2).trans rfl, (blk_cell BK153.out 3).trans rfl, (blk_cell BK153.out 4).trans rfl⟩ (fun hHeld => ?_)
            generalize w55.drew = w56 at BK153 BK156 BK157 HB hHeld ⊢
            refine take_ (i := 0) (N := some 47) (v := ?_) (a' := ?_) #[true, false, false, false, false] rfl rfl (by kernel_rfl) (fun _ _ _ h => h) (Or.inl ⟨by rfl, ?_⟩) hHeld ?_ ?_
            rotate_left
            · rintro w' ⟨s0, s1, s2, s3, s4, s5, s6, s7, s8, s9⟩
              go_simp
              with_reducible rfl
            rotate_left
            · simp only [Act.put, List.setIfInBounds_toArray, List.set_cons_zero, List.set_cons_succ, i64_w, i32_w]
              rfl
            refine take_ (i := 2) (N := some 49) (v := ?_) (a' := ?_) #[true, false, true, false, false] rfl rfl (by kernel_rfl) (fun _ _ _ h => h) (Or.inl ⟨by rfl, ?_⟩) hHeld ?_ ?_
            rotate_left
            · rintro w' ⟨s0, s1, s2, s3, s4, s5, s6, s7, s8, s9⟩
              go_simp
              with_reducible rfl
            rotate_left
            · simp only [Act.put, List.setIfInBounds_toArray, List.set_cons_zero, List.set_cons_succ, i64_w, i32_w]
              rfl
            refine one_ (i := 1) (N := some 48) #[true, true, true, false, false] rfl rfl (by kernel_rfl) (by decide) (fun K hK => ?_)
            refine goes_ Try.func56 (by kernel_rfl) rfl #[.agg #[.int .i64 (wrap64 (9 + (wrap64 (Int.tmod (IntKind.u64.wrap (a0)) 4)))), .int .i64 (wrap64 (512 * (wrap64 (1 + (wrap64 (Int.tmod (IntKind.u64.wrap (a1)) 2000)))))), .int .i64 (wrap64 (t158 - 1)), .int .i64 t154, .bool false]] (by rfl) rfl rfl (by (try simp only [List.map_toArray, List.map_cons, List.map_nil]); first | done | rfl | (simp only [List.length_drop, List.length_take]; rfl)) ?_
            with_reducible refine (header_Header_Least.calls (wrap64 (9 + (wrap64 (Int.tmod (IntKind.u64.wrap (a0)) 4)))) (wrap64 (512 * (wrap64 (1 + (wrap64 (Int.tmod (IntKind.u64.wrap (a1)) 2000)))))) (wrap64 (t158 - 1)) t154 false t159 _ A18.out).mono ?_
            rintro e w57 ⟨rfl, hb⟩
            refine ⟨_, rfl, ?_⟩
            have n0_ := Aside0.mk (blk_below (g := gb153) (o := .cells #[.int .i64 (wrap64 (9 + (wrap64 (Int.tmod (IntKind.u64.wrap (a0)) 4)))), .int .i64 (wrap64 (512 * (wrap64 (1 + (wrap64 (Int.tmod (IntKind.u64.wrap (a1)) 2000)))))), .int .i64 (wrap64 (200 + (wrap64 (Int.tmod (IntKind.u64.wrap (a2)) 500)))), .int .i64 t154, .bool false] 69 (0, 0)) (by (with_reducible repeat (first | refine blk_drewN ?_ _ | refine blk_drew ?_ | refine blk_alloc ?_ _)); exact BK153.out) hb)
            have n1_ := Aside0.mk (blk_below (g := gb156) (o := .cells #[.int .i64 (wrap64 (9 + (wrap64 (Int.tmod (IntKind.u64.wrap (a0)) 4)))), .int .i64 (wrap64 (512 * (wrap64 (1 + (wrap64 (Int.tmod (IntKind.u64.wrap (a1)) 2000)))))), .int .i64 (wrap64 (200 + (wrap64 (Int.tmod (IntKind.u64.wrap (a2)) 500)))), .int .i64 (wrap64 (t154 - 1)), .bool false] 69 (0, 0)) (by (with_reducible repeat (first | refine blk_drewN ?_ _ | refine blk_drew ?_ | refine blk_alloc ?_ _)); exact BK156.out) hb)
            have n2_ := Aside0.mk (blk_below (g := gb157) (o := .cells #[.int .i64 (wrap64 (9 + (wrap64 (Int.tmod (IntKind.u64.wrap (a0)) 4)))), .int .i64 (wrap64 (512 * (wrap64 (1 + (wrap64 (Int.tmod (IntKind.u64.wrap (a1)) 2000)))))), .int .i64 (wrap64 (t158 - 1)), .int .i64 t154, .bool false] 69 (0, 0)) (by (with_reducible repeat (first | refine blk_drewN ?_ _ | refine blk_drew ?_ | refine blk_alloc ?_ _)); exact BK157.out) hb)
            have n3_ := Aside0.mk (below_step (by repeat (first | (with_reducible first | exact HB.out | apply below_alloc | apply pw_below_drewN | apply below_drew1 | refine below_set ?_ GE153.out | refine below_set ?_ GE156.out | refine below_set ?_ GE157.out) | exact HB.out)) hb)
            clear BK153
            clear BK156
            clear BK157
            clear HB
            have BK153 := n0_
            have BK156 := n1_
            have BK157 := n2_
            have HB := n3_
            clear n0_ n1_ n2_ n3_
            (try clear hb)
            (try clear hb2)
            (try clear hk)
            (try clear hi)
            refine hK.out _ _ ⟨(blk_cell BK157.out 0).trans rfl, (blk_cell BK157.out 1).trans rfl, (blk_cell BK157.out 2).trans rfl, (blk_cell BK157.out 3).trans rfl, (blk_cell BK157.out 4).trans rfl, (blk_cell BK153.out 0).trans rfl, (blk_cell BK153.out 1).trans rfl, (blk_cell BK153.out 2).trans rfl, (blk_cell BK153.out 3).trans rfl, (blk_cell BK153.out 4).trans rfl⟩ (fun hHeld => ?_)
            clear hK K
            refine norm_ (a' := ?_) ?_ ?_
            rotate_left
            · show Act.put _ (some 48) _ = _
              simp only [Act.put, List.setIfInBounds_toArray, List.set_cons_zero, List.set_cons_succ, i64_w, i32_w]
              rfl
            refine one_ (i := 3) (N := some 50) #[true, true, true, true, false] rfl rfl (by kernel_rfl) (by decide) (fun K hK => ?_)
            refine goes_ Try.func56 (by kernel_rfl) rfl #[.agg #[.int .i64 (wrap64 (9 + (wrap64 (Int.tmod (IntKind.u64.wrap (a0)) 4)))), .int .i64 (wrap64 (512 * (wrap64 (1 + (wrap64 (Int.tmod (IntKind.u64.wrap (a1)) 2000)))))), .int .i64 (wrap64 (200 + (wrap64 (Int.tmod (IntKind.u64.wrap (a2)) 500)))), .int .i64 t154, .bool false]] (by rfl) rfl rfl (by (try simp only [List.map_toArray, List.map_cons, List.map_nil]); first | done | rfl | (simp only [List.length_drop, List.length_take]; rfl)) ?_
            with_reducible refine (header_Header_Least.calls (wrap64 (9 + (wrap64 (Int.tmod (IntKind.u64.wrap (a0)) 4)))) (wrap64 (512 * (wrap64 (1 + (wrap64 (Int.tmod (IntKind.u64.wrap (a1)) 2000)))))) (wrap64 (200 + (wrap64 (Int.tmod (IntKind.u64.wrap (a2)) 500)))) t154 false t160 _ A19.out).mono ?_
            rintro e w58 ⟨rfl, hb⟩
            refine ⟨_, rfl, ?_⟩
            have n0_ := Aside0.mk (blk_below (g := gb153) (o := .cells #[.int .i64 (wrap64 (9 + (wrap64 (Int.tmod (IntKind.u64.wrap (a0)) 4)))), .int .i64 (wrap64 (512 * (wrap64 (1 + (wrap64 (Int.tmod (IntKind.u64.wrap (a1)) 2000)))))), .int .i64 (wrap64 (200 + (wrap64 (Int.tmod (IntKind.u64.wrap (a2)) 500)))), .int .i64 t154, .bool false] 69 (0, 0)) (by (with_reducible repeat (first | refine blk_drewN ?_ _ | refine blk_drew ?_ | refine blk_alloc ?_ _)); exact BK153.out) hb)
            have n1_ := Aside0.mk (blk_below (g := gb156) (o := .cells #[.int .i64 (wrap64 (9 + (wrap64 (Int.tmod (IntKind.u64.wrap (a0)) 4)))), .int .i64 (wrap64 (512 * (wrap64 (1 + (wrap64 (Int.tmod (IntKind.u64.wrap (a1)) 2000)))))), .int .i64 (wrap64 (200 + (wrap64 (Int.tmod (IntKind.u64.wrap (a2)) 500)))), .int .i64 (wrap64 (t154 - 1)), .bool false] 69 (0, 0)) (by (with_reducible repeat (first | refine blk_drewN ?_ _ | refine blk_drew ?_ | refine blk_alloc ?_ _)); exact BK156.out) hb)
            have n2_ := Aside0.mk (blk_below (g := gb157) (o := .cells #[.int .i64 (wrap64 (9 + (wrap64 (Int.tmod (IntKind.u64.wrap (a0)) 4)))), .int .i64 (wrap64 (512 * (wrap64 (1 + (wrap64 (Int.tmod (IntKind.u64.wrap (a1)) 2000)))))), .int .i64 (wrap64 (t158 - 1)), .int .i64 t154, .bool false] 69 (0, 0)) (by (with_reducible repeat (first | refine blk_drewN ?_ _ | refine blk_drew ?_ | refine blk_alloc ?_ _)); exact BK157.out) hb)
            have n3_ := Aside0.mk (below_step (by repeat (first | (with_reducible first | exact HB.out | apply below_alloc | apply pw_below_drewN | apply below_drew1 | refine below_set ?_ GE153.out | refine below_set ?_ GE156.out | refine below_set ?_ GE157.out) | exact HB.out)) hb)
            clear BK153
            clear BK156
            clear BK157
            clear HB
            have BK153 := n0_
            have BK156 := n1_
            have BK157 := n2_
            have HB := n3_
            clear n0_ n1_ n2_ n3_
            (try clear hb)
            (try clear hb2)
            (try clear hk)
            (try clear hi)
            refine hK.out _ _ ⟨(blk_cell BK157.out 0).trans rfl, (blk_cell BK157.out 1).trans rfl, (blk_cell BK157.out 2).trans rfl, (blk_cell BK157.out 3).trans rfl, (blk_cell BK157.out 4).trans rfl, (blk_cell BK153.out 0).trans rfl, (blk_cell BK153.out 1).trans rfl, (blk_cell BK153.out 2).trans rfl, (blk_cell BK153.out 3).trans rfl, (blk_cell BK153.out 4).trans rfl⟩ (fun hHeld => ?_)
            clear hK K
            refine norm_ (a' := ?_) ?_ ?_
            rotate_left
            · show Act.put _ (some 50) _ = _
              simp only [Act.put, List.setIfInBounds_toArray, List.set_cons_zero, List.set_cons_succ, i64_w, i32_w]
              rfl
            refine pure_ (i := 4) (N := some 51) (v := ?_) (a' := ?_) #[true, true, true, true, true] rfl rfl (by kernel_rfl) (fun _ _ _ h => h) (Or.inl ⟨by rfl, ?_⟩) ?_ ?_
            rotate_left
            · intro w'
              go_simp
              with_reducible rfl
            rotate_left
            · simp only [Act.put, List.setIfInBounds_toArray, List.set_cons_zero, List.set_cons_succ, i64_w, i32_w]
              rfl
            refine done_ (by kernel_rfl) ?_
            have hcz59_0 : w58.cell? ⟨gb153, 0, none⟩ = some (.int .i64 (wrap64 (9 + (wrap64 (Int.tmod (IntKind.u64.wrap (a0)) 4))))) := (blk_cell BK153.out 0).trans rfl
            have hcz59_1 : w58.cell? ⟨gb153, 1, none⟩ = some (.int .i64 (wrap64 (512 * (wrap64 (1 + (wrap64 (Int.tmod (IntKind.u64.wrap (a1)) 2000))))))) := (blk_cell BK153.out 1).trans rfl
            have hcz59_2 : w58.cell? ⟨gb153, 2, none⟩ = some (.int .i64 (wrap64 (200 + (wrap64 (Int.tmod (IntKind.u64.wrap (a2)) 500))))) := (blk_cell BK153.out 2).trans rfl
            have hcz59_3 : w58.cell? ⟨gb153, 3, none⟩ = some (.int .i64 t154) := (blk_cell BK153.out 3).trans rfl
            have hcz59_4 : w58.cell? ⟨gb153, 4, none⟩ = some (.bool false) := (blk_cell BK153.out 4).trans rfl
            have hfz59_0 := blk_frozen BK153.out 0
            have hfz59_1 := blk_frozen BK153.out 1
            have hfz59_2 := blk_frozen BK153.out 2
            have hfz59_3 := blk_frozen BK153.out 3
            have hfz59_4 := blk_frozen BK153.out 4
            try go_wp2_with (first | ((with_reducible refine gate_callee (f := 58) rfl ?_); refine goesL_ (some 61) rfl rfl Try.func58 (by kernel_rfl) rfl #[.agg #[.int .i64 (wrap64 (9 + (wrap64 (Int.tmod (IntKind.u64.wrap (a0)) 4)))), .int .i64 (wrap64 (512 * (wrap64 (1 + (wrap64 (Int.tmod (IntKind.u64.wrap (a1)) 2000)))))), .int .i64 (wrap64 (200 + (wrap64 (Int.tmod (IntKind.u64.wrap (a2)) 500)))), .int .i64 t154, .bool false]] rfl (by (try simp only [List.map_toArray, List.map_cons, List.map_nil]); first | done | rfl | (simp only [List.length_drop, List.length_take]; rfl)) ?_; (with_reducible refine (header_Header_Check.calls k (wrap64 (9 + (wrap64 (Int.tmod (IntKind.u64.wrap (a0)) 4)))) (wrap64 (512 * (wrap64 (1 + (wrap64 (Int.tmod (IntKind.u64.wrap (a1)) 2000)))))) (wrap64 (200 + (wrap64 (Int.tmod (IntKind.u64.wrap (a2)) 500)))) t154 false t161 _ A21.out).mono ?_); rintro e w60 ⟨rfl, hb⟩; refine ⟨_, rfl, ?_⟩; have n0_ := Aside0.mk (blk_below (g := gb153) (o := .cells #[.int .i64 (wrap64 (9 + (wrap64 (Int.tmod (IntKind.u64.wrap (a0)) 4)))), .int .i64 (wrap64 (512 * (wrap64 (1 + (wrap64 (Int.tmod (IntKind.u64.wrap (a1)) 2000)))))), .int .i64 (wrap64 (200 + (wrap64 (Int.tmod (IntKind.u64.wrap (a2)) 500)))), .int .i64 t154, .bool false] 69 (0, 0)) (by (with_reducible repeat (first | refine blk_drewN ?_ _ | refine blk_drew ?_ | refine blk_alloc ?_ _)); exact BK153.out) hb); have n1_ := Aside0.mk (blk_below (g := gb156) (o := .cells #[.int .i64 (wrap64 (9 + (wrap64 (Int.tmod (IntKind.u64.wrap (a0)) 4)))), .int .i64 (wrap64 (512 * (wrap64 (1 + (wrap64 (Int.tmod (IntKind.u64.wrap (a1)) 2000)))))), .int .i64 (wrap64 (200 + (wrap64 (Int.tmod (IntKind.u64.wrap (a2)) 500)))), .int .i64 (wrap64 (t154 - 1)), .bool false] 69 (0, 0)) (by (with_reducible repeat (first | refine blk_drewN ?_ _ | refine blk_drew ?_ | refine blk_alloc ?_ _)); exact BK156.out) hb); have n2_ := Aside0.mk (blk_below (g := gb157) (o := .cells #[.int .i64 (wrap64 (9 + (wrap64 (Int.tmod (IntKind.u64.wrap (a0)) 4)))), .int .i64 (wrap64 (512 * (wrap64 (1 + (wrap64 (Int.tmod (IntKind.u64.wrap (a1)) 2000)))))), .int .i64 (wrap64 (t158 - 1)), .int .i64 t154, .bool false] 69 (0, 0)) (by (with_reducible repeat (first | refine blk_drewN ?_ _ | refine blk_drew ?_ | refine blk_alloc ?_ _)); exact BK157.out) hb); have n3_ := Aside0.mk (below_step (by repeat (first | (with_reducible first | exact HB.out | apply below_alloc | apply pw_below_drewN | apply below_drew1 | refine below_set ?_ GE153.out | refine below_set ?_ GE156.out | refine below_set ?_ GE157.out) | exact HB.out)) hb); clear BK153; clear BK156; clear BK157; clear HB; have BK153 := n0_; have BK156 := n1_; have BK157 := n2_; have HB := n3_; clear n0_ n1_ n2_ n3_; (try clear hb); (try clear hb2); (try clear hk); (try clear hi); have hcz61_0 : w60.cell? ⟨gb156, 0, none⟩ = some (.int .i64 (wrap64 (9 + (wrap64 (Int.tmod (IntKind.u64.wrap (a0)) 4))))) := (blk_cell BK156.out 0).trans rfl; have hcz61_1 : w60.cell? ⟨gb156, 1, none⟩ = some (.int .i64 (wrap64 (512 * (wrap64 (1 + (wrap64 (Int.tmod (IntKind.u64.wrap (a1)) 2000))))))) := (blk_cell BK156.out 1).trans rfl; have hcz61_2 : w60.cell? ⟨gb156, 2, none⟩ = some (.int .i64 (wrap64 (200 + (wrap64 (Int.tmod (IntKind.u64.wrap (a2)) 500))))) := (blk_cell BK156.out 2).trans rfl; have hcz61_3 : w60.cell? ⟨gb156, 3, none⟩ = some (.int .i64 (wrap64 (t154 - 1))) := (blk_cell BK156.out 3).trans rfl; have hcz61_4 : w60.cell? ⟨gb156, 4, none⟩ = some (.bool false) := (blk_cell BK156.out 4).trans rfl; have hfz61_0 := blk_frozen BK156.out 0; have hfz61_1 := blk_frozen BK156.out 1; have hfz61_2 := blk_frozen BK156.out 2; have hfz61_3 := blk_frozen BK156.out 3; have hfz61_4 := blk_frozen BK156.out 4) | (go_at_call 58; (with_reducible refine (header_Header_Check.calls k (wrap64 (9 + (wrap64 (Int.tmod (IntKind.u64.wrap (a0)) 4)))) (wrap64 (512 * (wrap64 (1 + (wrap64 (Int.tmod (IntKind.u64.wrap (a1)) 2000)))))) (wrap64 (200 + (wrap64 (Int.tmod (IntKind.u64.wrap (a2)) 500)))) (wrap64 (t154 - 1)) false t162 _ A23.out).mono ?_); rintro e w62 ⟨rfl, hb⟩; have n0_ := Aside0.mk (blk_below (g := gb153) (o := .cells #[.int .i64 (wrap64 (9 + (wrap64 (Int.tmod (IntKind.u64.wrap (a0)) 4)))), .int .i64 (wrap64 (512 * (wrap64 (1 + (wrap64 (Int.tmod (IntKind.u64.wrap (a1)) 2000)))))), .int .i64 (wrap64 (200 + (wrap64 (Int.tmod (IntKind.u64.wrap (a2)) 500)))), .int .i64 t154, .bool false] 69 (0, 0)) (by (with_reducible repeat (first | refine blk_drewN ?_ _ | refine blk_drew ?_ | refine blk_alloc ?_ _)); exact BK153.out) hb); have n1_ := Aside0.mk (blk_below (g := gb156) (o := .cells #[.int .i64 (wrap64 (9 + (wrap64 (Int.tmod (IntKind.u64.wrap (a0)) 4)))), .int .i64 (wrap64 (512 * (wrap64 (1 + (wrap64 (Int.tmod (IntKind.u64.wrap (a1)) 2000)))))), .int .i64 (wrap64 (200 + (wrap64 (Int.tmod (IntKind.u64.wrap (a2)) 500)))), .int .i64 (wrap64 (t154 - 1)), .bool false] 69 (0, 0)) (by (with_reducible repeat (first | refine blk_drewN ?_ _ | refine blk_drew ?_ | refine blk_alloc ?_ _)); exact BK156.out) hb); have n2_ := Aside0.mk (blk_below (g := gb157) (o := .cells #[.int .i64 (wrap64 (9 + (wrap64 (Int.tmod (IntKind.u64.wrap (a0)) 4)))), .int .i64 (wrap64 (512 * (wrap64 (1 + (wrap64 (Int.tmod (IntKind.u64.wrap (a1)) 2000)))))), .int .i64 (wrap64 (t158 - 1)), .int .i64 t154, .bool false] 69 (0, 0)) (by (with_reducible repeat (first | refine blk_drewN ?_ _ | refine blk_drew ?_ | refine blk_alloc ?_ _)); exact BK157.out) hb); have n3_ := Aside0.mk (below_step (by repeat (first | (with_reducible first | exact HB.out | apply below_alloc | apply pw_below_drewN | apply below_drew1 | refine below_set ?_ GE153.out | refine below_set ?_ GE156.out | refine below_set ?_ GE157.out) | exact HB.out)) hb); clear BK153; clear BK156; clear BK157; clear HB; have BK153 := n0_; have BK156 := n1_; have BK157 := n2_; have HB := n3_; clear n0_ n1_ n2_ n3_; (try clear hb); (try clear hb2); (try clear hk); (try clear hi); have hcz63_0 : w62.cell? ⟨gb157, 0, none⟩ = some (.int .i64 (wrap64 (9 + (wrap64 (Int.tmod (IntKind.u64.wrap (a0)) 4))))) := (blk_cell BK157.out 0).trans rfl; have hcz63_1 : w62.cell? ⟨gb157, 1, none⟩ = some (.int .i64 (wrap64 (512 * (wrap64 (1 + (wrap64 (Int.tmod (IntKind.u64.wrap (a1)) 2000))))))) := (blk_cell BK157.out 1).trans rfl; have hcz63_2 : w62.cell? ⟨gb157, 2, none⟩ = some (.int .i64 (wrap64 (t158 - 1))) := (blk_cell BK157.out 2).trans rfl; have hcz63_3 : w62.cell? ⟨gb157, 3, none⟩ = some (.int .i64 t154) := (blk_cell BK157.out 3).trans rfl; have hcz63_4 : w62.cell? ⟨gb157, 4, none⟩ = some (.bool false) := (blk_cell BK157.out 4).trans rfl; have hfz63_0 := blk_frozen BK157.out 0; have hfz63_1 := blk_frozen BK157.out 1; have hfz63_2 := blk_frozen BK157.out 2; have hfz63_3 := blk_frozen BK157.out 3; have hfz63_4 := blk_frozen BK157.out 4) | (go_at_call 58; (with_reducible refine (header_Header_Check.calls k (wrap64 (9 + (wrap64 (Int.tmod (IntKind.u64.wrap (a0)) 4)))) (wrap64 (512 * (wrap64 (1 + (wrap64 (Int.tmod (IntKind.u64.wrap (a1)) 2000)))))) (wrap64 (t158 - 1)) t154 false t163 _ A25.out).mono ?_); rintro e w64 ⟨rfl, hb⟩; have n0_ := Aside0.mk (blk_below (g := gb153) (o := .cells #[.int .i64 (wrap64 (9 + (wrap64 (Int.tmod (IntKind.u64.wrap (a0)) 4)))), .int .i64 (wrap64 (512 * (wrap64 (1 + (wrap64 (Int.tmod (IntKind.u64.wrap (a1)) 2000)))))), .int .i64 (wrap64 (200 + (wrap64 (Int.tmod (IntKind.u64.wrap (a2)) 500)))), .int .i64 t154, .bool false] 69 (0, 0)) (by (with_reducible repeat (first | refine blk_drewN ?_ _ | refine blk_drew ?_ | refine blk_alloc ?_ _)); exact BK153.out) hb); have n1_ := Aside0.mk (blk_below (g := gb156) (o := .cells #[.int .i64 (wrap64 (9 + (wrap64 (Int.tmod (IntKind.u64.wrap (a0)) 4)))), .int .i64 (wrap64 (512 * (wrap64 (1 + (wrap64 (Int.tmod (IntKind.u64.wrap (a1)) 2000)))))), .int .i64 (wrap64 (200 + (wrap64 (Int.tmod (IntKind.u64.wrap (a2)) 500)))), .int .i64 (wrap64 (t154 - 1)), .bool false] 69 (0, 0)) (by (with_reducible repeat (first | refine blk_drewN ?_ _ | refine blk_drew ?_ | refine blk_alloc ?_ _)); exact BK156.out) hb); have n2_ := Aside0.mk (blk_below (g := gb157) (o := .cells #[.int .i64 (wrap64 (9 + (wrap64 (Int.tmod (IntKind.u64.wrap (a0)) 4)))), .int .i64 (wrap64 (512 * (wrap64 (1 + (wrap64 (Int.tmod (IntKind.u64.wrap (a1)) 2000)))))), .int .i64 (wrap64 (t158 - 1)), .int .i64 t154, .bool false] 69 (0, 0)) (by (with_reducible repeat (first | refine blk_drewN ?_ _ | refine blk_drew ?_ | refine blk_alloc ?_ _)); exact BK157.out) hb); have n3_ := Aside0.mk (below_step (by repeat (first | (with_reducible first | exact HB.out | apply below_alloc | apply pw_below_drewN | apply below_drew1 | refine below_set ?_ GE153.out | refine below_set ?_ GE156.out | refine below_set ?_ GE157.out) | exact HB.out)) hb); clear BK153; clear BK156; clear BK157; clear HB; have BK153 := n0_; have BK156 := n1_; have BK157 := n2_; have HB := n3_; clear n0_ n1_ n2_ n3_; (try clear hb); (try clear hb2); (try clear hk); (try clear hi)))
            go_ret
            exact ⟨by first | rfl | (simp [errW_none, errW_some] <;> rfl) | (simp [*, errW_none, errW_some] <;> rfl), by repeat (first | (with_reducible first | exact HB.out | apply below_alloc | apply pw_below_drewN | apply below_drew1 | refine below_set ?_ GE153.out | refine below_set ?_ GE156.out | refine below_set ?_ GE157.out) | exact HB.out)⟩
          · rw [if_neg c24] at H
            exact absurd H (by simp)
        · rw [if_neg c22] at H
          exact absurd H (by simp)
      · rw [if_neg c20] at H
        have c20b0 : (t159 == t160) = false := beq_eq_false_iff_ne.mpr c20
        have c20b1 : (t159 != t160) = true := bne_iff_ne.mpr c20
        replace H := Option.bind_eq_some_iff.mp H
        obtain ⟨t164, A650, H⟩ := H
        replace H : (if t164 = 0 then ((header_Header_Check.f k (wrap64 (9 + (wrap64 (Int.tmod (IntKind.u64.wrap (a0)) 4)))) (wrap64 (512 * (wrap64 (1 + (wrap64 (Int.tmod (IntKind.u64.wrap (a1)) 2000)))))) (wrap64 (200 + (wrap64 (Int.tmod (IntKind.u64.wrap (a2)) 500)))) (wrap64 (t154 - 1)) false).bind fun t165 => (some (t165 == 11))) else (none)) = some r := H
        have A65 := Aside0.mk A650
        clear A650
        by_cases c66 : t164 = 0
        · rw [if_pos c66] at H
          have c66b0 : (t164 == 0) = true := beq_iff_eq.mpr c66
          have c66b1 : (t164 != 0) = false := bne_eq_false_iff_eq.mpr c66
          clear c66
          replace H := Option.bind_eq_some_iff.mp H
          obtain ⟨t165, A670, H⟩ := H
          replace H : (some (t165 == 11)) = some r := H
          have A67 := Aside0.mk A670
          clear A670
          obtain rfl := Option.some.inj H
          go_enter Try.func13, Try.ntmps13
          try go_wp2_with (first | ((with_reducible refine gate_callee (f := 49) rfl ?_); refine goesL_ (some 10) rfl rfl Try.func49 (by kernel_rfl) rfl #[] rfl (by (try simp only [List.map_toArray, List.map_cons, List.map_nil]); first | done | rfl | (simp only [List.length_drop, List.length_take]; rfl)) ?_; (with_reducible refine (fettlelaw07_laid.calls k  true _ A4.out).mono ?_); rintro e w68 ⟨rfl, hb⟩; refine ⟨_, rfl, ?_⟩; have n0_ := Aside0.mk (below_step (by repeat (first | (with_reducible first | exact HB.out | apply below_alloc | apply pw_below_drewN | apply below_drew1) | exact HB.out)) hb); clear HB; have HB := n0_; clear n0_; (try clear hb); (try clear hb2); (try clear hk); (try clear hi)) | ((with_reducible refine gate_dst (N := 7) rfl ?_); refine box_event ?hg (N := 7) ?hd (cs := #[.int .i64 0, .int .i64 0, .int .i64 0, .int .i64 0, .bool false]) (t := 69) ?hr ?_; (case hd => rfl); (case hg => rfl); (case hr => first | (go_simp; done) | (go_simp; rfl)); intro gb153 hg w69 hbox hb; have n0_ := Aside0.mk (below_step (by repeat (first | (with_reducible first | exact HB.out | apply below_alloc | apply pw_below_drewN | apply below_drew1) | exact HB.out)) hb); have n1_ := Aside0.mk (hbox); have n2_ := Aside0.mk ((by rw [hg]; exact (below_size (by repeat (first | (with_reducible first | exact HB.out | apply below_alloc | apply pw_below_drewN | apply below_drew1) | exact HB.out))) : w.heap.size ≤ gb153)); have n3_ := Aside0.mk ((by rw [hg]; exact (below_size (by repeat (first | (with_reducible first | exact HB.out | apply below_alloc | apply pw_below_drewN | apply below_drew1) | exact HB.out))) : w.heap.size ≤ gb153)); clear HB; have HB := n0_; have BK153 := n1_; have GW153 := n2_; have GE153 := n3_; clear n0_ n1_ n2_ n3_; clear hb hbox hg; have hcz70_0 : w69.cell? ⟨gb153, 0, none⟩ = some (.int .i64 0) := (blk_cell BK153.out 0).trans rfl; have hcz70_1 : w69.cell? ⟨gb153, 1, none⟩ = some (.int .i64 0) := (blk_cell BK153.out 1).trans rfl; have hcz70_2 : w69.cell? ⟨gb153, 2, none⟩ = some (.int .i64 0) := (blk_cell BK153.out 2).trans rfl; have hcz70_3 : w69.cell? ⟨gb153, 3, none⟩ = some (.int .i64 0) := (blk_cell BK153.out 3).trans rfl; have hcz70_4 : w69.cell? ⟨gb153, 4, none⟩ = some (.bool false) := (blk_cell BK153.out 4).trans rfl; have hfz70_0 := blk_frozen BK153.out 0; have hfz70_1 := blk_frozen BK153.out 1; have hfz70_2 := blk_frozen BK153.out 2; have hfz70_3 := blk_frozen BK153.out 3; have hfz70_4 := blk_frozen BK153.out 4) | ((with_reducible refine gate_callee (f := 56) rfl ?_); refine goesL_ (some 30) rfl rfl Try.func56 (by kernel_rfl) rfl #[.agg #[.int .i64 (wrap64 (9 + (wrap64 (Int.tmod (IntKind.u64.wrap (a0)) 4)))), .int .i64 (wrap64 (512 * (wrap64 (1 + (wrap64 (Int.tmod (IntKind.u64.wrap (a1)) 2000)))))), .int .i64 (wrap64 (200 + (wrap64 (Int.tmod (IntKind.u64.wrap (a2)) 500)))), .int .i64 0, .bool false]] rfl (by (try simp only [List.map_toArray, List.map_cons, List.map_nil]); first | done | rfl | (simp only [List.length_drop, List.length_take]; rfl)) ?_; (with_reducible refine (header_Header_Least.calls (wrap64 (9 + (wrap64 (Int.tmod (IntKind.u64.wrap (a0)) 4)))) (wrap64 (512 * (wrap64 (1 + (wrap64 (Int.tmod (IntKind.u64.wrap (a1)) 2000)))))) (wrap64 (200 + (wrap64 (Int.tmod (IntKind.u64.wrap (a2)) 500)))) 0 false t154 _ A6.out).mono ?_); rintro e w71 ⟨rfl, hb⟩; refine ⟨_, rfl, ?_⟩; have n0_ := Aside0.mk (blk_below (g := gb153) (o := .cells #[.int .i64 (wrap64 (9 + (wrap64 (Int.tmod (IntKind.u64.wrap (a0)) 4)))), .int .i64 (wrap64 (512 * (wrap64 (1 + (wrap64 (Int.tmod (IntKind.u64.wrap (a1)) 2000)))))), .int .i64 (wrap64 (200 + (wrap64 (Int.tmod (IntKind.u64.wrap (a2)) 500)))), .int .i64 0, .bool false] 69 (0, 0)) (by (with_reducible repeat (first | refine blk_drewN ?_ _ | refine blk_drew ?_ | refine blk_alloc ?_ _)); refine blk_put (cs := #[.int .i64 (wrap64 (9 + (wrap64 (Int.tmod (IntKind.u64.wrap (a0)) 4)))), .int .i64 (wrap64 (512 * (wrap64 (1 + (wrap64 (Int.tmod (IntKind.u64.wrap (a1)) 2000)))))), .int .i64 (wrap64 (200 + (wrap64 (Int.tmod (IntKind.u64.wrap (a2)) 500)))), .int .i64 0, .bool false]) ?_ 4 _ (by first | rfl | (simp [*]; done)); (with_reducible repeat (first | refine blk_drewN ?_ _ | refine blk_drew ?_ | refine blk_alloc ?_ _)); refine blk_put (cs := #[.int .i64 (wrap64 (9 + (wrap64 (Int.tmod (IntKind.u64.wrap (a0)) 4)))), .int .i64 (wrap64 (512 * (wrap64 (1 + (wrap64 (Int.tmod (IntKind.u64.wrap (a1)) 2000)))))), .int .i64 (wrap64 (200 + (wrap64 (Int.tmod (IntKind.u64.wrap (a2)) 500)))), .int .i64 0, .bool false]) ?_ 3 _ (by first | rfl | (simp [*]; done)); (with_reducible repeat (first | refine blk_drewN ?_ _ | refine blk_drew ?_ | refine blk_alloc ?_ _)); refine blk_put (cs := #[.int .i64 (wrap64 (9 + (wrap64 (Int.tmod (IntKind.u64.wrap (a0)) 4)))), .int .i64 (wrap64 (512 * (wrap64 (1 + (wrap64 (Int.tmod (IntKind.u64.wrap (a1)) 2000)))))), .int .i64 0, .int .i64 0, .bool false]) ?_ 2 _ (by first | rfl | (simp [*]; done)); (with_reducible repeat (first | refine blk_drewN ?_ _ | refine blk_drew ?_ | refine blk_alloc ?_ _)); refine blk_put (cs := #[.int .i64 (wrap64 (9 + (wrap64 (Int.tmod (IntKind.u64.wrap (a0)) 4)))), .int .i64 0, .int .i64 0, .int .i64 0, .bool false]) ?_ 1 _ (by first | rfl | (simp [*]; done)); (with_reducible repeat (first | refine blk_drewN ?_ _ | refine blk_drew ?_ | refine blk_alloc ?_ _)); refine blk_put (cs := #[.int .i64 0, .int .i64 0, .int .i64 0, .int .i64 0, .bool false]) ?_ 0 _ (by first | rfl | (simp [*]; done)); (with_reducible repeat (first | refine blk_drewN ?_ _ | refine blk_drew ?_ | refine blk_alloc ?_ _)); exact BK153.out) hb); have n1_ := Aside0.mk (below_step (by repeat (first | (with_reducible first | exact HB.out | apply below_alloc | apply pw_below_drewN | apply below_drew1 | refine below_set ?_ GE153.out) | exact HB.out)) hb); clear BK153; clear HB; have BK153 := n0_; have HB := n1_; clear n0_ n1_; (try clear hb); (try clear hb2); (try clear hk); (try clear hi); have hcz72_0 : w71.cell? ⟨gb153, 0, none⟩ = some (.int .i64 (wrap64 (9 + (wrap64 (Int.tmod (IntKind.u64.wrap (a0)) 4))))) := (blk_cell BK153.out 0).trans rfl; have hcz72_1 : w71.cell? ⟨gb153, 1, none⟩ = some (.int .i64 (wrap64 (512 * (wrap64 (1 + (wrap64 (Int.tmod (IntKind.u64.wrap (a1)) 2000))))))) := (blk_cell BK153.out 1).trans rfl; have hcz72_2 : w71.cell? ⟨gb153, 2, none⟩ = some (.int .i64 (wrap64 (200 + (wrap64 (Int.tmod (IntKind.u64.wrap (a2)) 500))))) := (blk_cell BK153.out 2).trans rfl; have hcz72_3 : w71.cell? ⟨gb153, 3, none⟩ = some (.int .i64 0) := (blk_cell BK153.out 3).trans rfl; have hcz72_4 : w71.cell? ⟨gb153, 4, none⟩ = some (.bool false) := (blk_cell BK153.out 4).trans rfl; have hfz72_0 := blk_frozen BK153.out 0; have hfz72_1 := blk_frozen BK153.out 1; have hfz72_2 := blk_frozen BK153.out 2; have hfz72_3 := blk_frozen BK153.out 3; have hfz72_4 := blk_frozen BK153.out 4))
          have n0_ : Aside0 ((w71.setCell ⟨gb153, 3, none⟩ (.int .i64 t154)).heap[gb153]? = some (.cells #[.int .i64 (wrap64 (9 + (wrap64 (Int.tmod (IntKind.u64.wrap (a0)) 4)))), .int .i64 (wrap64 (512 * (wrap64 (1 + (wrap64 (Int.tmod (IntKind.u64.wrap (a1)) 2000)))))), .int .i64 (wrap64 (200 + (wrap64 (Int.tmod (IntKind.u64.wrap (a2)) 500)))), .int .i64 t154, .bool false] 69 (0, 0))) := ⟨by (with_reducible repeat (first | refine blk_drewN ?_ _ | refine blk_drew ?_ | refine blk_alloc ?_ _)); refine blk_put (cs := #[.int .i64 (wrap64 (9 + (wrap64 (Int.tmod (IntKind.u64.wrap (a0)) 4)))), .int .i64 (wrap64 (512 * (wrap64 (1 + (wrap64 (Int.tmod (IntKind.u64.wrap (a1)) 2000)))))), .int .i64 (wrap64 (200 + (wrap64 (Int.tmod (IntKind.u64.wrap (a2)) 500)))), .int .i64 0, .bool false]) ?_ 3 _ (by first | rfl | (simp [*]; done)); (with_reducible repeat (first | refine blk_drewN ?_ _ | refine blk_drew ?_ | refine blk_alloc ?_ _)); exact BK153.out⟩
          have n1_ : Aside0 (Below w.heap.size w (w71.setCell ⟨gb153, 3, none⟩ (.int .i64 t154))) := ⟨by repeat (first | (with_reducible first | exact HB.out | apply below_alloc | apply pw_below_drewN | apply below_drew1 | refine below_set ?_ GE153.out) | exact HB.out)⟩
          (try clear BK153)
          (try clear HB)
          generalize (w71.setCell ⟨gb153, 3, none⟩ (.int .i64 t154)) = w73 at n0_ n1_ ⊢
          have BK153 := n0_
          have HB := n1_
          clear n0_ n1_
          have n0_ := Aside0.mk (blk_drew BK153.out)
          have n1_ := Aside0.mk (below_drew1 HB.out)
          clear BK153
          clear HB
          have BK153 := n0_
          have HB := n1_
          clear n0_ n1_
          refine start_ (n := 5) (S := fun w' => w'.cell? ⟨gb153, 0, none⟩ = some (.int .i64 (wrap64 (9 + (wrap64 (Int.tmod (IntKind.u64.wrap (a0)) 4))))) ∧ w'.cell? ⟨gb153, 1, none⟩ = some (.int .i64 (wrap64 (512 * (wrap64 (1 + (wrap64 (Int.tmod (IntKind.u64.wrap (a1)) 2000))))))) ∧ w'.cell? ⟨gb153, 2, none⟩ = some (.int .i64 (wrap64 (200 + (wrap64 (Int.tmod (IntKind.u64.wrap (a2)) 500))))) ∧ w'.cell? ⟨gb153, 3, none⟩ = some (.int .i64 t154) ∧ w'.cell? ⟨gb153, 4, none⟩ = some (.bool false)) (ds := []) #[false, false, false, false, false] (by kernel_rfl) rfl rfl ⟨(blk_cell BK153.out 0).trans rfl, (blk_cell BK153.out 1).trans rfl, (blk_cell BK153.out 2).trans rfl, (blk_cell BK153.out 3).trans rfl, (blk_cell BK153.out 4).trans rfl⟩ (fun hHeld => ?_)
          generalize w73.drew = w74 at BK153 HB hHeld ⊢
          refine pure_ (i := 2) (N := some 34) (v := ?_) (a' := ?_) #[false, false, true, false, false] rfl rfl (by kernel_rfl) (fun _ _ _ h => h) (Or.inl ⟨by rfl, ?_⟩) ?_ ?_
          rotate_left
          · intro w'
            go_simp
            with_reducible rfl
          rotate_left
          · simp only [Act.put, List.setIfInBounds_toArray, List.set_cons_zero, List.set_cons_succ, i64_w, i32_w]
            rfl
          refine take_ (i := 0) (N := some 32) (v := ?_) (a' := ?_) #[true, false, true, false, false] rfl rfl (by kernel_rfl) (fun _ _ _ h => h) (Or.inl ⟨by rfl, ?_⟩) hHeld ?_ ?_
          rotate_left
          · rintro w' ⟨s0, s1, s2, s3, s4⟩
            go_simp
            with_reducible rfl
          rotate_left
          · simp only [Act.put, List.setIfInBounds_toArray, List.set_cons_zero, List.set_cons_succ, i64_w, i32_w]
            rfl
          refine take_ (i := 3) (N := some 35) (v := ?_) (a' := ?_) #[true, false, true, true, false] rfl rfl (by kernel_rfl) (fun _ _ _ h => h) (Or.inl ⟨by rfl, ?_⟩) hHeld ?_ ?_
          rotate_left
          · rintro w' ⟨s0, s1, s2, s3, s4⟩
            go_simp
            with_reducible rfl
          rotate_left
          · simp only [Act.put, List.setIfInBounds_toArray, List.set_cons_zero, List.set_cons_succ, i64_w, i32_w]
            rfl
          refine one_ (i := 1) (N := some 33) #[true, true, true, true, false] rfl rfl (by kernel_rfl) (by decide) (fun K hK => ?_)
          refine goes_ Try.func54 (by kernel_rfl) rfl #[.agg #[.int .i64 (wrap64 (9 + (wrap64 (Int.tmod (IntKind.u64.wrap (a0)) 4)))), .int .i64 (wrap64 (512 * (wrap64 (1 + (wrap64 (Int.tmod (IntKind.u64.wrap (a1)) 2000)))))), .int .i64 (wrap64 (200 + (wrap64 (Int.tmod (IntKind.u64.wrap (a2)) 500)))), .int .i64 t154, .bool false]] (by rfl) rfl rfl (by (try simp only [List.map_toArray, List.map_cons, List.map_nil]); first | done | rfl | (simp only [List.length_drop, List.length_take]; rfl)) ?_
          with_reducible refine (header_Header_First.calls (wrap64 (9 + (wrap64 (Int.tmod (IntKind.u64.wrap (a0)) 4)))) (wrap64 (512 * (wrap64 (1 + (wrap64 (Int.tmod (IntKind.u64.wrap (a1)) 2000)))))) (wrap64 (200 + (wrap64 (Int.tmod (IntKind.u64.wrap (a2)) 500)))) t154 false t155 _ A7.out).mono ?_
          rintro e w75 ⟨rfl, hb⟩
          refine ⟨_, rfl, ?_⟩
          have n0_ := Aside0.mk (blk_below (g := gb153) (o := .cells #[.int .i64 (wrap64 (9 + (wrap64 (Int.tmod (IntKind.u64.wrap (a0)) 4)))), .int .i64 (wrap64 (512 * (wrap64 (1 + (wrap64 (Int.tmod (IntKind.u64.wrap (a1)) 2000)))))), .int .i64 (wrap64 (200 + (wrap64 (Int.tmod (IntKind.u64.wrap (a2)) 500)))), .int .i64 t154, .bool false] 69 (0, 0)) (by (with_reducible repeat (first | refine blk_drewN ?_ _ | refine blk_drew ?_ | refine blk_alloc ?_ _)); exact BK153.out) hb)
          have n1_ := Aside0.mk (below_step (by repeat (first | (with_reducible first | exact HB.out | apply below_alloc | apply pw_below_drewN | apply below_drew1 | refine below_set ?_ GE153.out) | exact HB.out)) hb)
          clear BK153
          clear HB
          have BK153 := n0_
          have HB := n1_
          clear n0_ n1_
          (try clear hb)
          (try clear hb2)
          (try clear hk)
          (try clear hi)
          refine hK.out _ _ ⟨(blk_cell BK153.out 0).trans rfl, (blk_cell BK153.out 1).trans rfl, (blk_cell BK153.out 2).trans rfl, (blk_cell BK153.out 3).trans rfl, (blk_cell BK153.out 4).trans rfl⟩ (fun hHeld => ?_)
          clear hK K
          refine norm_ (a' := ?_) ?_ ?_
          rotate_left
          · show Act.put _ (some 33) _ = _
            simp only [Act.put, List.setIfInBounds_toArray, List.set_cons_zero, List.set_cons_succ, i64_w, i32_w]
            rfl
          refine pure_ (i := 4) (N := some 36) (v := ?_) (a' := ?_) #[true, true, true, true, true] rfl rfl (by kernel_rfl) (fun _ _ _ h => h) (Or.inl ⟨by rfl, ?_⟩) ?_ ?_
          rotate_left
          · intro w'
            go_simp
            with_reducible rfl
          rotate_left
          · simp only [Act.put, List.setIfInBounds_toArray, List.set_cons_zero, List.set_cons_succ, i64_w, i32_w]
            rfl
          refine done_ (by kernel_rfl) ?_
          try go_wp2
          have n0_ := Aside0.mk (blk_drew BK153.out)
          have n1_ := Aside0.mk (below_drew1 HB.out)
          clear BK153
          clear HB
          have BK153 := n0_
          have HB := n1_
          clear n0_ n1_
          refine start_ (n := 6) (S := fun w' => True) (ds := []) #[false, false, false, false, false, false] (by kernel_rfl) rfl rfl trivial (fun hHeld => ?_); refine with_tabW fettlelaw07_HeaderLeasts.tab7 fettlelaw07_HeaderLeasts.bits7 (fun HT_ HW_ => ?_)
          generalize w75.drew = w76 at BK153 HB hHeld ⊢
          refine inv_at [0, 1, 2, 3, 4, 5] (fun a0_ b a w' => ∃ (gb156 : Nat) (gb157 : Nat) (m2_ : Value) (m3_ : Value), a = putSel a0_ b [(0, 37, .agg #[.int .i64 (wrap64 (9 + (wrap64 (Int.tmod (IntKind.u64.wrap (a0)) 4)))), .int .i64 (wrap64 (512 * (wrap64 (1 + (wrap64 (Int.tmod (IntKind.u64.wrap (a1)) 2000)))))), .int .i64 (wrap64 (200 + (wrap64 (Int.tmod (IntKind.u64.wrap (a2)) 500)))), .int .i64 t154, .bool false]), (1, 38, .agg #[.int .i64 (wrap64 (9 + (wrap64 (Int.tmod (IntKind.u64.wrap (a0)) 4)))), .int .i64 (wrap64 (512 * (wrap64 (1 + (wrap64 (Int.tmod (IntKind.u64.wrap (a1)) 2000)))))), .int .i64 (wrap64 (200 + (wrap64 (Int.tmod (IntKind.u64.wrap (a2)) 500)))), .int .i64 t154, .bool false]), (2, 8, m2_), (3, 9, m3_)] ∧ (w'.heap[gb153]? = some (.cells #[.int .i64 (wrap64 (9 + (wrap64 (Int.tmod (IntKind.u64.wrap (a0)) 4)))), .int .i64 (wrap64 (512 * (wrap64 (1 + (wrap64 (Int.tmod (IntKind.u64.wrap (a1)) 2000)))))), .int .i64 (wrap64 (200 + (wrap64 (Int.tmod (IntKind.u64.wrap (a2)) 500)))), .int .i64 t154, .bool false] 69 (0, 0))) ∧ (Below w.heap.size w w') ∧ (b 2 = true → b 3 = true → gb157 ≠ gb156) ∧ (b 2 = true → b 3 = true → gb156 ≠ gb157) ∧ (b 2 = true → b 4 = false → w'.heap[gb156]? = some (.cells #[.int .i64 0, .int .i64 0, .int .i64 0, .int .i64 0, .bool false] 69 (0, 0))) ∧ (b 2 = true → w.heap.size ≤ gb156) ∧ (b 2 = true → w.heap.size ≤ gb156) ∧ (b 2 = true → gb153 ≠ gb156) ∧ (b 2 = true → gb156 ≠ gb153) ∧ (b 3 = true → b 5 = false → w'.heap[gb157]? = some (.cells #[.int .i64 0, .int .i64 0, .int .i64 0, .int .i64 0, .bool false] 69 (0, 0))) ∧ (b 3 = true → w.heap.size ≤ gb157) ∧ (b 3 = true → w.heap.size ≤ gb157) ∧ (b 3 = true → gb153 ≠ gb157) ∧ (b 3 = true → gb157 ≠ gb153) ∧ (b 4 = true → w'.heap[gb156]? = some (.cells #[.int .i64 (wrap64 (9 + (wrap64 (Int.tmod (IntKind.u64.wrap (a0)) 4)))), .int .i64 (wrap64 (512 * (wrap64 (1 + (wrap64 (Int.tmod (IntKind.u64.wrap (a1)) 2000)))))), .int .i64 (wrap64 (200 + (wrap64 (Int.tmod (IntKind.u64.wrap (a2)) 500)))), .int .i64 t154, .bool false] 69 (0, 0))) ∧ (b 5 = true → w'.heap[gb157]? = some (.cells #[.int .i64 (wrap64 (9 + (wrap64 (Int.tmod (IntKind.u64.wrap (a0)) 4)))), .int .i64 (wrap64 (512 * (wrap64 (1 + (wrap64 (Int.tmod (IntKind.u64.wrap (a1)) 2000)))))), .int .i64 (wrap64 (200 + (wrap64 (Int.tmod (IntKind.u64.wrap (a2)) 500)))), .int .i64 t154, .bool false] 69 (0, 0))) ∧ (b 2 = true → (m2_ : Value) = .pointer (some ⟨gb156, 0, none⟩)) ∧ (b 3 = true → (m3_ : Value) = .pointer (some ⟨gb157, 0, none⟩))) HT_.out HW_.out (by kernel_rfl) (by kernel_rfl) ?_ ?_ ?_
          · exact ⟨0, 0, .bool false, .bool false, by simp only [putSel, Bool.false_eq_true, if_false], BK153.out, HB.out, fun h_ => absurd h_ (by decide), fun h_ => absurd h_ (by decide), fun h_ => absurd h_ (by decide), fun h_ => absurd h_ (by decide), fun h_ => absurd h_ (by decide), fun h_ => absurd h_ (by decide), fun h_ => absurd h_ (by decide), fun h_ => absurd h_ (by decide), fun h_ => absurd h_ (by decide), fun h_ => absurd h_ (by decide), fun h_ => absurd h_ (by decide), fun h_ => absurd h_ (by decide), fun h_ => absurd h_ (by decide), fun h_ => absurd h_ (by decide), fun h_ => absurd h_ (by decide), fun h_ => absurd h_ (by decide)⟩
          · skip
            clear BK153 HB
            refine steps_cons ?_ ?_
            · rintro b a w' ⟨gb156, gb157, m2_, m3_, ha, Q_BK153, Q_HB, Q_NB157_156, Q_NB156_157, Q_BK156, Q_GW156, Q_GE156, Q_NB153_156, Q_NB156_153, Q_BK157, Q_GW157, Q_GE157, Q_NB153_157, Q_NB157_153, Q_BK156_e4, Q_BK157_e5, Q_X2_, Q_X3_⟩ hb_ hon hoff
              refine ⟨_, rfl, fun K hK => ?_⟩
              have e7 : a.tmps[7]? = some (.pointer (some ⟨gb153, 0, none⟩)) := by rw [ha]; exact (putSel_off rfl).trans rfl
              replace ha := Aside0.mk ha
              have BK153 := Aside0.mk Q_BK153
              have HB := Aside0.mk Q_HB
              have hc0_ : w'.cell? ⟨gb153, 0, none⟩ = some (.int .i64 (wrap64 (9 + (wrap64 (Int.tmod (IntKind.u64.wrap (a0)) 4))))) := (blk_cell BK153.out 0).trans rfl
              have hc1_ : w'.cell? ⟨gb153, 1, none⟩ = some (.int .i64 (wrap64 (512 * (wrap64 (1 + (wrap64 (Int.tmod (IntKind.u64.wrap (a1)) 2000))))))) := (blk_cell BK153.out 1).trans rfl
              have hc2_ : w'.cell? ⟨gb153, 2, none⟩ = some (.int .i64 (wrap64 (200 + (wrap64 (Int.tmod (IntKind.u64.wrap (a2)) 500))))) := (blk_cell BK153.out 2).trans rfl
              have hc3_ : w'.cell? ⟨gb153, 3, none⟩ = some (.int .i64 t154) := (blk_cell BK153.out 3).trans rfl
              have hc4_ : w'.cell? ⟨gb153, 4, none⟩ = some (.bool false) := (blk_cell BK153.out 4).trans rfl
              refine value_ (w1 := w') (v := .agg #[.int .i64 (wrap64 (9 + (wrap64 (Int.tmod (IntKind.u64.wrap (a0)) 4)))), .int .i64 (wrap64 (512 * (wrap64 (1 + (wrap64 (Int.tmod (IntKind.u64.wrap (a1)) 2000)))))), .int .i64 (wrap64 (200 + (wrap64 (Int.tmod (IntKind.u64.wrap (a2)) 500)))), .int .i64 t154, .bool false]) (by rfl) rfl ?_ ?_
              · go_simp
                (try simp only [i64_w])
                try rfl
              refine hK.out _ _ ⟨gb156, gb157, m2_, m3_, (by rw [ha.out]; exact putSel_upk 0 hb_ rfl rfl rfl), Q_BK153, Q_HB, Q_NB157_156, Q_NB156_157, Q_BK156, Q_GW156, Q_GE156, Q_NB153_156, Q_NB156_153, Q_BK157, Q_GW157, Q_GE157, Q_NB153_157, Q_NB157_153, fun h0_ => absurd ((hoff 4 (by kernel_rfl)).symm.trans h0_) (by decide), fun h0_ => absurd ((hoff 5 (by kernel_rfl)).symm.trans h0_) (by decide), Q_X2_, Q_X3_⟩
            refine steps_cons ?_ ?_
            · rintro b a w' ⟨gb156, gb157, m2_, m3_, ha, Q_BK153, Q_HB, Q_NB157_156, Q_NB156_157, Q_BK156, Q_GW156, Q_GE156, Q_NB153_156, Q_NB156_153, Q_BK157, Q_GW157, Q_GE157, Q_NB153_157, Q_NB157_153, Q_BK156_e4, Q_BK157_e5, Q_X2_, Q_X3_⟩ hb_ hon hoff
              refine ⟨_, rfl, fun K hK => ?_⟩
              have e7 : a.tmps[7]? = some (.pointer (some ⟨gb153, 0, none⟩)) := by rw [ha]; exact (putSel_off rfl).trans rfl
              replace ha := Aside0.mk ha
              have BK153 := Aside0.mk Q_BK153
              have HB := Aside0.mk Q_HB
              have hc0_ : w'.cell? ⟨gb153, 0, none⟩ = some (.int .i64 (wrap64 (9 + (wrap64 (Int.tmod (IntKind.u64.wrap (a0)) 4))))) := (blk_cell BK153.out 0).trans rfl
              have hc1_ : w'.cell? ⟨gb153, 1, none⟩ = some (.int .i64 (wrap64 (512 * (wrap64 (1 + (wrap64 (Int.tmod (IntKind.u64.wrap (a1)) 2000))))))) := (blk_cell BK153.out 1).trans rfl
              have hc2_ : w'.cell? ⟨gb153, 2, none⟩ = some (.int .i64 (wrap64 (200 + (wrap64 (Int.tmod (IntKind.u64.wrap (a2)) 500))))) := (blk_cell BK153.out 2).trans rfl
              have hc3_ : w'.cell? ⟨gb153, 3, none⟩ = some (.int .i64 t154) := (blk_cell BK153.out 3).trans rfl
              have hc4_ : w'.cell? ⟨gb153, 4, none⟩ = some (.bool false) := (blk_cell BK153.out 4).trans rfl
              refine value_ (w1 := w') (v := .agg #[.int .i64 (wrap64 (9 + (wrap64 (Int.tmod (IntKind.u64.wrap (a0)) 4)))), .int .i64 (wrap64 (512 * (wrap64 (1 + (wrap64 (Int.tmod (IntKind.u64.wrap (a1)) 2000)))))), .int .i64 (wrap64 (200 + (wrap64 (Int.tmod (IntKind.u64.wrap (a2)) 500)))), .int .i64 t154, .bool false]) (by rfl) rfl ?_ ?_
              · go_simp
                (try simp only [i64_w])
                try rfl
              refine hK.out _ _ ⟨gb156, gb157, m2_, m3_, (by rw [ha.out]; exact putSel_upk 1 hb_ rfl rfl rfl), Q_BK153, Q_HB, Q_NB157_156, Q_NB156_157, Q_BK156, Q_GW156, Q_GE156, Q_NB153_156, Q_NB156_153, Q_BK157, Q_GW157, Q_GE157, Q_NB153_157, Q_NB157_153, Q_BK156_e4, fun h0_ => absurd ((hoff 5 (by kernel_rfl)).symm.trans h0_) (by decide), Q_X2_, Q_X3_⟩
            refine steps_cons ?_ ?_
            · rintro b a w' ⟨gb156, gb157, m2_, m3_, ha, Q_BK153, Q_HB, Q_NB157_156, Q_NB156_157, Q_BK156, Q_GW156, Q_GE156, Q_NB153_156, Q_NB156_153, Q_BK157, Q_GW157, Q_GE157, Q_NB153_157, Q_NB157_153, Q_BK156_e4, Q_BK157_e5, Q_X2_, Q_X3_⟩ hb_ hon hoff
              refine ⟨_, rfl, fun K hK => ?_⟩
              replace ha := Aside0.mk ha
              have BK153 := Aside0.mk Q_BK153
              have HB := Aside0.mk Q_HB
              refine box_step ?hg (N := 8) ?hd (cs := #[.int .i64 0, .int .i64 0, .int .i64 0, .int .i64 0, .bool false]) (t := 69) ?hr ?_; (case hd => rfl); (case hg => rfl); (case hr => first | (go_simp; done) | (go_simp; rfl))
              intro gb156 hg w77 hbox hb
              have n0_ := Aside0.mk (blk_below (g := gb153) (o := .cells #[.int .i64 (wrap64 (9 + (wrap64 (Int.tmod (IntKind.u64.wrap (a0)) 4)))), .int .i64 (wrap64 (512 * (wrap64 (1 + (wrap64 (Int.tmod (IntKind.u64.wrap (a1)) 2000)))))), .int .i64 (wrap64 (200 + (wrap64 (Int.tmod (IntKind.u64.wrap (a2)) 500)))), .int .i64 t154, .bool false] 69 (0, 0)) (by (with_reducible repeat (first | refine blk_drewN ?_ _ | refine blk_drew ?_ | refine blk_alloc ?_ _)); exact BK153.out) hb)
              have n1_ := Aside0.mk (below_step (by repeat (first | (with_reducible first | exact HB.out | apply below_alloc | apply pw_below_drewN | apply below_drew1 | refine below_set ?_ GE153.out) | exact HB.out)) hb)
              have n2_ := Aside0.mk (hbox)
              have n3_ := Aside0.mk ((by rw [hg]; exact (below_size (by repeat (first | (with_reducible first | exact HB.out | apply below_alloc | apply pw_below_drewN | apply below_drew1 | refine below_set ?_ GE153.out) | exact HB.out))) : w.heap.size ≤ gb156))
              have n4_ := Aside0.mk ((by rw [hg]; exact (below_size (by repeat (first | (with_reducible first | exact HB.out | apply below_alloc | apply pw_below_drewN | apply below_drew1 | refine below_set ?_ GE153.out) | exact HB.out))) : w.heap.size ≤ gb156))
              have n5_ := Aside0.mk ((by rw [hg]; exact Nat.ne_of_lt (blk_lt (g := gb153) (o := .cells #[.int .i64 (wrap64 (9 + (wrap64 (Int.tmod (IntKind.u64.wrap (a0)) 4)))), .int .i64 (wrap64 (512 * (wrap64 (1 + (wrap64 (Int.tmod (IntKind.u64.wrap (a1)) 2000)))))), .int .i64 (wrap64 (200 + (wrap64 (Int.tmod (IntKind.u64.wrap (a2)) 500)))), .int .i64 t154, .bool false] 69 (0, 0)) (by (with_reducible repeat (first | refine blk_drewN ?_ _ | refine blk_drew ?_ | refine blk_alloc ?_ _)); exact BK153.out)) : gb153 ≠ gb156))
              have n6_ := Aside0.mk ((by rw [hg]; exact Nat.ne_of_gt (blk_lt (g := gb153) (o := .cells #[.int .i64 (wrap64 (9 + (wrap64 (Int.tmod (IntKind.u64.wrap (a0)) 4)))), .int .i64 (wrap64 (512 * (wrap64 (1 + (wrap64 (Int.tmod (IntKind.u64.wrap (a1)) 2000)))))), .int .i64 (wrap64 (200 + (wrap64 (Int.tmod (IntKind.u64.wrap (a2)) 500)))), .int .i64 t154, .bool false] 69 (0, 0)) (by (with_reducible repeat (first | refine blk_drewN ?_ _ | refine blk_drew ?_ | refine blk_alloc ?_ _)); exact BK153.out)) : gb156 ≠ gb153))
              have z_NB157_156 := fun (h0_ : up b 2 2 = true) (h1_ : up b 2 3 = true) => (show gb157 ≠ gb156 from ((by rw [hg]; exact Nat.ne_of_lt (blk_lt (g := gb157) (o := .cells #[.int .i64 0, .int .i64 0, .int .i64 0, .int .i64 0, .bool false] 69 (0, 0)) (by (with_reducible repeat (first | refine blk_drewN ?_ _ | refine blk_drew ?_ | refine blk_alloc ?_ _)); exact (Q_BK157 h1_ (hoff 5 (by kernel_rfl))))) : gb157 ≠ gb156)))
              have z_NB156_157 := fun (h0_ : up b 2 2 = true) (h1_ : up b 2 3 = true) => (show gb156 ≠ gb157 from ((by rw [hg]; exact Nat.ne_of_gt (blk_lt (g := gb157) (o := .cells #[.int .i64 0, .int .i64 0, .int .i64 0, .int .i64 0, .bool false] 69 (0, 0)) (by (with_reducible repeat (first | refine blk_drewN ?_ _ | refine blk_drew ?_ | refine blk_alloc ?_ _)); exact (Q_BK157 h1_ (hoff 5 (by kernel_rfl))))) : gb156 ≠ gb157)))
              have z_BK157 := fun (h0_ : b 3 = true) (h1_ : b 5 = false) => (show w77.heap[gb157]? = some (.cells #[.int .i64 0, .int .i64 0, .int .i64 0, .int .i64 0, .bool false] 69 (0, 0)) from by first | exact (blk_below (g := gb157) (o := .cells #[.int .i64 0, .int .i64 0, .int .i64 0, .int .i64 0, .bool false] 69 (0, 0)) (by (with_reducible repeat (first | refine blk_drewN ?_ _ | refine blk_drew ?_ | refine blk_alloc ?_ _)); exact (Q_BK157 h0_ h1_)) hb))
              clear BK153
              clear HB
              have BK153 := n0_
              have HB := n1_
              have BK156 := n2_
              have GW156 := n3_
              have GE156 := n4_
              have NB153_156 := n5_
              have NB156_153 := n6_
              clear n0_ n1_ n2_ n3_ n4_ n5_ n6_
              clear hb hbox hg
              refine hK.out _ _ ⟨gb156, gb157, (.pointer (some ⟨gb156, 0, none⟩)), m3_, (by rw [ha.out]; exact putSel_upk 2 hb_ rfl rfl rfl), (by (with_reducible repeat (first | refine blk_drewN ?_ _ | refine blk_drew ?_ | refine blk_alloc ?_ _)); exact BK153.out), (by repeat (first | (with_reducible first | exact HB.out | apply below_alloc | apply pw_below_drewN | apply below_drew1 | refine below_set ?_ GE153.out | refine below_set ?_ GE156.out) | exact HB.out)), z_NB157_156, z_NB156_157, fun _ _ => (by (with_reducible repeat (first | refine blk_drewN ?_ _ | refine blk_drew ?_ | refine blk_alloc ?_ _)); exact BK156.out), fun _ => GW156.out, fun _ => GE156.out, fun _ => NB153_156.out, fun _ => NB156_153.out, z_BK157, Q_GW157, Q_GE157, Q_NB153_157, Q_NB157_153, fun h0_ => absurd ((hoff 4 (by kernel_rfl)).symm.trans h0_) (by decide), fun h0_ => absurd ((hoff 5 (by kernel_rfl)).symm.trans h0_) (by decide), fun _ => rfl, Q_X3_⟩
            refine steps_cons ?_ ?_
            · rintro b a w' ⟨gb156, gb157, m2_, m3_, ha, Q_BK153, Q_HB, Q_NB157_156, Q_NB156_157, Q_BK156, Q_GW156, Q_GE156, Q_NB153_156, Q_NB156_153, Q_BK157, Q_GW157, Q_GE157, Q_NB153_157, Q_NB157_153, Q_BK156_e4, Q_BK157_e5, Q_X2_, Q_X3_⟩ hb_ hon hoff
              refine ⟨_, rfl, fun K hK => ?_⟩
              replace ha := Aside0.mk ha
              have BK153 := Aside0.mk Q_BK153
              have HB := Aside0.mk Q_HB
              refine box_step ?hg (N := 9) ?hd (cs := #[.int .i64 0, .int .i64 0, .int .i64 0, .int .i64 0, .bool false]) (t := 69) ?hr ?_; (case hd => rfl); (case hg => rfl); (case hr => first | (go_simp; done) | (go_simp; rfl))
              intro gb157 hg w77 hbox hb
              have n0_ := Aside0.mk (blk_below (g := gb153) (o := .cells #[.int .i64 (wrap64 (9 + (wrap64 (Int.tmod (IntKind.u64.wrap (a0)) 4)))), .int .i64 (wrap64 (512 * (wrap64 (1 + (wrap64 (Int.tmod (IntKind.u64.wrap (a1)) 2000)))))), .int .i64 (wrap64 (200 + (wrap64 (Int.tmod (IntKind.u64.wrap (a2)) 500)))), .int .i64 t154, .bool false] 69 (0, 0)) (by (with_reducible repeat (first | refine blk_drewN ?_ _ | refine blk_drew ?_ | refine blk_alloc ?_ _)); exact BK153.out) hb)
              have n1_ := Aside0.mk (below_step (by repeat (first | (with_reducible first | exact HB.out | apply below_alloc | apply pw_below_drewN | apply below_drew1 | refine below_set ?_ GE153.out) | exact HB.out)) hb)
              have n2_ := Aside0.mk (hbox)
              have n3_ := Aside0.mk ((by rw [hg]; exact (below_size (by repeat (first | (with_reducible first | exact HB.out | apply below_alloc | apply pw_below_drewN | apply below_drew1 | refine below_set ?_ GE153.out) | exact HB.out))) : w.heap.size ≤ gb157))
              have n4_ := Aside0.mk ((by rw [hg]; exact (below_size (by repeat (first | (with_reducible first | exact HB.out | apply below_alloc | apply pw_below_drewN | apply below_drew1 | refine below_set ?_ GE153.out) | exact HB.out))) : w.heap.size ≤ gb157))
              have n5_ := Aside0.mk ((by rw [hg]; exact Nat.ne_of_lt (blk_lt (g := gb153) (o := .cells #[.int .i64 (wrap64 (9 + (wrap64 (Int.tmod (IntKind.u64.wrap (a0)) 4)))), .int .i64 (wrap64 (512 * (wrap64 (1 + (wrap64 (Int.tmod (IntKind.u64.wrap (a1)) 2000)))))), .int .i64 (wrap64 (200 + (wrap64 (Int.tmod (IntKind.u64.wrap (a2)) 500)))), .int .i64 t154, .bool false] 69 (0, 0)) (by (with_reducible repeat (first | refine blk_drewN ?_ _ | refine blk_drew ?_ | refine blk_alloc ?_ _)); exact BK153.out)) : gb153 ≠ gb157))
              have n6_ := Aside0.mk ((by rw [hg]; exact Nat.ne_of_gt (blk_lt (g := gb153) (o := .cells #[.int .i64 (wrap64 (9 + (wrap64 (Int.tmod (IntKind.u64.wrap (a0)) 4)))), .int .i64 (wrap64 (512 * (wrap64 (1 + (wrap64 (Int.tmod (IntKind.u64.wrap (a1)) 2000)))))), .int .i64 (wrap64 (200 + (wrap64 (Int.tmod (IntKind.u64.wrap (a2)) 500)))), .int .i64 t154, .bool false] 69 (0, 0)) (by (with_reducible repeat (first | refine blk_drewN ?_ _ | refine blk_drew ?_ | refine blk_alloc ?_ _)); exact BK153.out)) : gb157 ≠ gb153))
              have z_NB157_156 := fun (h0_ : up b 3 2 = true) (h1_ : up b 3 3 = true) => (show gb157 ≠ gb156 from ((by rw [hg]; exact Nat.ne_of_gt (blk_lt (g := gb156) (o := .cells #[.int .i64 0, .int .i64 0, .int .i64 0, .int .i64 0, .bool false] 69 (0, 0)) (by (with_reducible repeat (first | refine blk_drewN ?_ _ | refine blk_drew ?_ | refine blk_alloc ?_ _)); exact (Q_BK156 h0_ (hoff 4 (by kernel_rfl))))) : gb157 ≠ gb156)))
              have z_NB156_157 := fun (h0_ : up b 3 2 = true) (h1_ : up b 3 3 = true) => (show gb156 ≠ gb157 from ((by rw [hg]; exact Nat.ne_of_lt (blk_lt (g := gb156) (o := .cells #[.int .i64 0, .int .i64 0, .int .i64 0, .int .i64 0, .bool false] 69 (0, 0)) (by (with_reducible repeat (first | refine blk_drewN ?_ _ | refine blk_drew ?_ | refine blk_alloc ?_ _)); exact (Q_BK156 h0_ (hoff 4 (by kernel_rfl))))) : gb156 ≠ gb157)))
              have z_BK156 := fun (h0_ : b 2 = true) (h1_ : b 4 = false) => (show w77.heap[gb156]? = some (.cells #[.int .i64 0, .int .i64 0, .int .i64 0, .int .i64 0, .bool false] 69 (0, 0)) from by first | exact (blk_below (g := gb156) (o := .cells #[.int .i64 0, .int .i64 0, .int .i64 0, .int .i64 0, .bool false] 69 (0, 0)) (by (with_reducible repeat (first | refine blk_drewN ?_ _ | refine blk_drew ?_ | refine blk_alloc ?_ _)); exact (Q_BK156 h0_ h1_)) hb))
              clear BK153
              clear HB
              have BK153 := n0_
              have HB := n1_
              have BK157 := n2_
              have GW157 := n3_
              have GE157 := n4_
              have NB153_157 := n5_
              have NB157_153 := n6_
              clear n0_ n1_ n2_ n3_ n4_ n5_ n6_
              clear hb hbox hg
              refine hK.out _ _ ⟨gb156, gb157, m2_, (.pointer (some ⟨gb157, 0, none⟩)), (by rw [ha.out]; exact putSel_upk 3 hb_ rfl rfl rfl), (by (with_reducible repeat (first | refine blk_drewN ?_ _ | refine blk_drew ?_ | refine blk_alloc ?_ _)); exact BK153.out), (by repeat (first | (with_reducible first | exact HB.out | apply below_alloc | apply pw_below_drewN | apply below_drew1 | refine below_set ?_ GE153.out | refine below_set ?_ GE157.out) | exact HB.out)), z_NB157_156, z_NB156_157, z_BK156, Q_GW156, Q_GE156, Q_NB153_156, Q_NB156_153, fun _ _ => (by (with_reducible repeat (first | refine blk_drewN ?_ _ | refine blk_drew ?_ | refine blk_alloc ?_ _)); exact BK157.out), fun _ => GW157.out, fun _ => GE157.out, fun _ => NB153_157.out, fun _ => NB157_153.out, fun h0_ => absurd ((hoff 4 (by kernel_rfl)).symm.trans h0_) (by decide), fun h0_ => absurd ((hoff 5 (by kernel_rfl)).symm.trans h0_) (by decide), Q_X2_, fun _ => rfl⟩
            refine steps_cons ?_ ?_
            · rintro b a w' ⟨gb156, gb157, m2_, m3_, ha, Q_BK153, Q_HB, Q_NB157_156, Q_NB156_157, Q_BK156, Q_GW156, Q_GE156, Q_NB153_156, Q_NB156_153, Q_BK157, Q_GW157, Q_GE157, Q_NB153_157, Q_NB157_153, Q_BK156_e4, Q_BK157_e5, Q_X2_, Q_X3_⟩ hb_ hon hoff
              refine ⟨_, rfl, fun K hK => ?_⟩
              have e8 : a.tmps[8]? = some (m2_) := by rw [ha]; exact putSel_on (e := (2, 8, m2_)) 2 rfl rfl (hon 2 (by kernel_rfl)) rfl
              rw [Q_X2_ (hon 2 (by kernel_rfl))] at e8
              have e37 : a.tmps[37]? = some (.agg #[.int .i64 (wrap64 (9 + (wrap64 (Int.tmod (IntKind.u64.wrap (a0)) 4)))), .int .i64 (wrap64 (512 * (wrap64 (1 + (wrap64 (Int.tmod (IntKind.u64.wrap (a1)) 2000)))))), .int .i64 (wrap64 (200 + (wrap64 (Int.tmod (IntKind.u64.wrap (a2)) 500)))), .int .i64 t154, .bool false]) := by rw [ha]; exact putSel_on (e := (0, 37, .agg #[.int .i64 (wrap64 (9 + (wrap64 (Int.tmod (IntKind.u64.wrap (a0)) 4)))), .int .i64 (wrap64 (512 * (wrap64 (1 + (wrap64 (Int.tmod (IntKind.u64.wrap (a1)) 2000)))))), .int .i64 (wrap64 (200 + (wrap64 (Int.tmod (IntKind.u64.wrap (a2)) 500)))), .int .i64 t154, .bool false])) 0 rfl rfl (hon 0 (by kernel_rfl)) rfl
              replace ha := Aside0.mk ha
              have BK153 := Aside0.mk Q_BK153
              have HB := Aside0.mk Q_HB
              have NB157_156 := Aside0.mk (Q_NB157_156 (hon 2 (by kernel_rfl)) (hon 3 (by kernel_rfl)))
              have NB156_157 := Aside0.mk (Q_NB156_157 (hon 2 (by kernel_rfl)) (hon 3 (by kernel_rfl)))
              have BK156 := Aside0.mk (Q_BK156 (hon 2 (by kernel_rfl)) hb_)
              have GW156 := Aside0.mk (Q_GW156 (hon 2 (by kernel_rfl)))
              have GE156 := Aside0.mk (Q_GE156 (hon 2 (by kernel_rfl)))
              have NB153_156 := Aside0.mk (Q_NB153_156 (hon 2 (by kernel_rfl)))
              have NB156_153 := Aside0.mk (Q_NB156_153 (hon 2 (by kernel_rfl)))
              have BK157 := Aside0.mk (Q_BK157 (hon 3 (by kernel_rfl)) (hoff 5 (by kernel_rfl)))
              have GW157 := Aside0.mk (Q_GW157 (hon 3 (by kernel_rfl)))
              have GE157 := Aside0.mk (Q_GE157 (hon 3 (by kernel_rfl)))
              have NB153_157 := Aside0.mk (Q_NB153_157 (hon 3 (by kernel_rfl)))
              have NB157_153 := Aside0.mk (Q_NB157_153 (hon 3 (by kernel_rfl)))
              have hs80 : w'.cell? ⟨gb156, 0, none⟩ = some (.int .i64 0) := (blk_cell BK156.out 0).trans rfl
              have hfs80 := blk_frozen BK156.out 0
              have hns80_0 := NB153_156.out
              have hns80_2 := NB157_156.out
              have hms80_0 := NB156_153.out
              have hms80_2 := NB156_157.out
              have hs81 : w'.cell? ⟨gb156, 1, none⟩ = some (.int .i64 0) := (blk_cell BK156.out 1).trans rfl
              have hfs81 := blk_frozen BK156.out 1
              have hns81_0 := NB153_156.out
              have hns81_2 := NB157_156.out
              have hms81_0 := NB156_153.out
              have hms81_2 := NB156_157.out
              have hs82 : w'.cell? ⟨gb156, 2, none⟩ = some (.int .i64 0) := (blk_cell BK156.out 2).trans rfl
              have hfs82 := blk_frozen BK156.out 2
              have hns82_0 := NB153_156.out
              have hns82_2 := NB157_156.out
              have hms82_0 := NB156_153.out
              have hms82_2 := NB156_157.out
              have hs83 : w'.cell? ⟨gb156, 3, none⟩ = some (.int .i64 0) := (blk_cell BK156.out 3).trans rfl
              have hfs83 := blk_frozen BK156.out 3
              have hns83_0 := NB153_156.out
              have hns83_2 := NB157_156.out
              have hms83_0 := NB156_153.out
              have hms83_2 := NB156_157.out
              have hs84 : w'.cell? ⟨gb156, 4, none⟩ = some (.bool false) := (blk_cell BK156.out 4).trans rfl
              have hfs84 := blk_frozen BK156.out 4
              have hns84_0 := NB153_156.out
              have hns84_2 := NB157_156.out
              have hms84_0 := NB156_153.out
              have hms84_2 := NB156_157.out
              refine skip_ (w1 := ?_) (by rfl) rfl ?_ ?_
              rotate_left
              · go_simp
                rfl
              refine hK.out _ _ ⟨gb156, gb157, m2_, m3_, (by rw [ha.out]; exact putSel_none (v := undef) rfl), (by (with_reducible repeat (first | refine blk_drewN ?_ _ | refine blk_drew ?_ | refine blk_alloc ?_ _)); refine blk_far ?_ NB153_156.out _; (with_reducible repeat (first | refine blk_drewN ?_ _ | refine blk_drew ?_ | refine blk_alloc ?_ _)); refine blk_far ?_ NB153_156.out _; (with_reducible repeat (first | refine blk_drewN ?_ _ | refine blk_drew ?_ | refine blk_alloc ?_ _)); refine blk_far ?_ NB153_156.out _; (with_reducible repeat (first | refine blk_drewN ?_ _ | refine blk_drew ?_ | refine blk_alloc ?_ _)); refine blk_far ?_ NB153_156.out _; (with_reducible repeat (first | refine blk_drewN ?_ _ | refine blk_drew ?_ | refine blk_alloc ?_ _)); refine blk_far ?_ NB153_156.out _; (with_reducible repeat (first | refine blk_drewN ?_ _ | refine blk_drew ?_ | refine blk_alloc ?_ _)); exact BK153.out), (by repeat (first | (with_reducible first | exact HB.out | apply below_alloc | apply pw_below_drewN | apply below_drew1 | refine below_set ?_ GE153.out | refine below_set ?_ GE156.out | refine below_set ?_ GE157.out) | exact HB.out)), fun _ _ => NB157_156.out, fun _ _ => NB156_157.out, fun _ h1_ => absurd ((up_self b 4).symm.trans h1_) (by decide), fun _ => GW156.out, fun _ => GE156.out, fun _ => NB153_156.out, fun _ => NB156_153.out, fun _ _ => (by (with_reducible repeat (first | refine blk_drewN ?_ _ | refine blk_drew ?_ | refine blk_alloc ?_ _)); refine blk_far ?_ NB157_156.out _; (with_reducible repeat (first | refine blk_drewN ?_ _ | refine blk_drew ?_ | refine blk_alloc ?_ _)); refine blk_far ?_ NB157_156.out _; (with_reducible repeat (first | refine blk_drewN ?_ _ | refine blk_drew ?_ | refine blk_alloc ?_ _)); refine blk_far ?_ NB157_156.out _; (with_reducible repeat (first | refine blk_drewN ?_ _ | refine blk_drew ?_ | refine blk_alloc ?_ _)); refine blk_far ?_ NB157_156.out _; (with_reducible repeat (first | refine blk_drewN ?_ _ | refine blk_drew ?_ | refine blk_alloc ?_ _)); refine blk_far ?_ NB157_156.out _; (with_reducible repeat (first | refine blk_drewN ?_ _ | refine blk_drew ?_ | refine blk_alloc ?_ _)); exact BK157.out), fun _ => GW157.out, fun _ => GE157.out, fun _ => NB153_157.out, fun _ => NB157_153.out, fun _ => (by (with_reducible repeat (first | refine blk_drewN ?_ _ | refine blk_drew ?_ | refine blk_alloc ?_ _)); refine blk_put (cs := #[.int .i64 (wrap64 (9 + (wrap64 (Int.tmod (IntKind.u64.wrap (a0)) 4)))), .int .i64 (wrap64 (512 * (wrap64 (1 + (wrap64 (Int.tmod (IntKind.u64.wrap (a1)) 2000)))))), .int .i64 (wrap64 (200 + (wrap64 (Int.tmod (IntKind.u64.wrap (a2)) 500)))), .int .i64 t154, .bool false]) ?_ 4 _ (by first | rfl | (simp [*]; done)); (with_reducible repeat (first | refine blk_drewN ?_ _ | refine blk_drew ?_ | refine blk_alloc ?_ _)); refine blk_put (cs := #[.int .i64 (wrap64 (9 + (wrap64 (Int.tmod (IntKind.u64.wrap (a0)) 4)))), .int .i64 (wrap64 (512 * (wrap64 (1 + (wrap64 (Int.tmod (IntKind.u64.wrap (a1)) 2000)))))), .int .i64 (wrap64 (200 + (wrap64 (Int.tmod (IntKind.u64.wrap (a2)) 500)))), .int .i64 0, .bool false]) ?_ 3 _ (by first | rfl | (simp [*]; done)); (with_reducible repeat (first | refine blk_drewN ?_ _ | refine blk_drew ?_ | refine blk_alloc ?_ _)); refine blk_put (cs := #[.int .i64 (wrap64 (9 + (wrap64 (Int.tmod (IntKind.u64.wrap (a0)) 4)))), .int .i64 (wrap64 (512 * (wrap64 (1 + (wrap64 (Int.tmod (IntKind.u64.wrap (a1)) 2000)))))), .int .i64 0, .int .i64 0, .bool false]) ?_ 2 _ (by first | rfl | (simp [*]; done)); (with_reducible repeat (first | refine blk_drewN ?_ _ | refine blk_drew ?_ | refine blk_alloc ?_ _)); refine blk_put (cs := #[.int .i64 (wrap64 (9 + (wrap64 (Int.tmod (IntKind.u64.wrap (a0)) 4)))), .int .i64 0, .int .i64 0, .int .i64 0, .bool false]) ?_ 1 _ (by first | rfl | (simp [*]; done)); (with_reducible repeat (first | refine blk_drewN ?_ _ | refine blk_drew ?_ | refine blk_alloc ?_ _)); refine blk_put (cs := #[.int .i64 0, .int .i64 0, .int .i64 0, .int .i64 0, .bool false]) ?_ 0 _ (by first | rfl | (simp [*]; done)); (with_reducible repeat (first | refine blk_drewN ?_ _ | refine blk_drew ?_ | refine blk_alloc ?_ _)); exact BK156.out), fun h0_ => absurd ((hoff 5 (by kernel_rfl)).symm.trans h0_) (by decide), Q_X2_, Q_X3_⟩
            refine steps_cons ?_ ?_
            · rintro b a w' ⟨gb156, gb157, m2_, m3_, ha, Q_BK153, Q_HB, Q_NB157_156, Q_NB156_157, Q_BK156, Q_GW156, Q_GE156, Q_NB153_156, Q_NB156_153, Q_BK157, Q_GW157, Q_GE157, Q_NB153_157, Q_NB157_153, Q_BK156_e4, Q_BK157_e5, Q_X2_, Q_X3_⟩ hb_ hon hoff
              refine ⟨_, rfl, fun K hK => ?_⟩
              have e9 : a.tmps[9]? = some (m3_) := by rw [ha]; exact putSel_on (e := (3, 9, m3_)) 3 rfl rfl (hon 3 (by kernel_rfl)) rfl
              rw [Q_X3_ (hon 3 (by kernel_rfl))] at e9
              have e38 : a.tmps[38]? = some (.agg #[.int .i64 (wrap64 (9 + (wrap64 (Int.tmod (IntKind.u64.wrap (a0)) 4)))), .int .i64 (wrap64 (512 * (wrap64 (1 + (wrap64 (Int.tmod (IntKind.u64.wrap (a1)) 2000)))))), .int .i64 (wrap64 (200 + (wrap64 (Int.tmod (IntKind.u64.wrap (a2)) 500)))), .int .i64 t154, .bool false]) := by rw [ha]; exact putSel_on (e := (1, 38, .agg #[.int .i64 (wrap64 (9 + (wrap64 (Int.tmod (IntKind.u64.wrap (a0)) 4)))), .int .i64 (wrap64 (512 * (wrap64 (1 + (wrap64 (Int.tmod (IntKind.u64.wrap (a1)) 2000)))))), .int .i64 (wrap64 (200 + (wrap64 (Int.tmod (IntKind.u64.wrap (a2)) 500)))), .int .i64 t154, .bool false])) 1 rfl rfl (hon 1 (by kernel_rfl)) rfl
              replace ha := Aside0.mk ha
              have BK153 := Aside0.mk Q_BK153
              have HB := Aside0.mk Q_HB
              have NB157_156 := Aside0.mk (Q_NB157_156 (hon 2 (by kernel_rfl)) (hon 3 (by kernel_rfl)))
              have NB156_157 := Aside0.mk (Q_NB156_157 (hon 2 (by kernel_rfl)) (hon 3 (by kernel_rfl)))
              have GW156 := Aside0.mk (Q_GW156 (hon 2 (by kernel_rfl)))
              have GE156 := Aside0.mk (Q_GE156 (hon 2 (by kernel_rfl)))
              have NB153_156 := Aside0.mk (Q_NB153_156 (hon 2 (by kernel_rfl)))
              have NB156_153 := Aside0.mk (Q_NB156_153 (hon 2 (by kernel_rfl)))
              have BK157 := Aside0.mk (Q_BK157 (hon 3 (by kernel_rfl)) hb_)
              have GW157 := Aside0.mk (Q_GW157 (hon 3 (by kernel_rfl)))
              have GE157 := Aside0.mk (Q_GE157 (hon 3 (by kernel_rfl)))
              have NB153_157 := Aside0.mk (Q_NB153_157 (hon 3 (by kernel_rfl)))
              have NB157_153 := Aside0.mk (Q_NB157_153 (hon 3 (by kernel_rfl)))
              have BK156 := Aside0.mk (Q_BK156_e4 (hon 4 (by kernel_rfl)))
              have hs85 : w'.cell? ⟨gb157, 0, none⟩ = some (.int .i64 0) := (blk_cell BK157.out 0).trans rfl
              have hfs85 := blk_frozen BK157.out 0
              have hns85_0 := NB153_157.out
              have hns85_1 := NB156_157.out
              have hms85_0 := NB157_153.out
              have hms85_1 := NB157_156.out
              have hs86 : w'.cell? ⟨gb157, 1, none⟩ = some (.int .i64 0) := (blk_cell BK157.out 1).trans rfl
              have hfs86 := blk_frozen BK157.out 1
              have hns86_0 := NB153_157.out
              have hns86_1 := NB156_157.out
              have hms86_0 := NB157_153.out
              have hms86_1 := NB157_156.out
              have hs87 : w'.cell? ⟨gb157, 2, none⟩ = some (.int .i64 0) := (blk_cell BK157.out 2).trans rfl
              have hfs87 := blk_frozen BK157.out 2
              have hns87_0 := NB153_157.out
              have hns87_1 := NB156_157.out
              have hms87_0 := NB157_153.out
              have hms87_1 := NB157_156.out
              have hs88 : w'.cell? ⟨gb157, 3, none⟩ = some (.int .i64 0) := (blk_cell BK157.out 3).trans rfl
              have hfs88 := blk_frozen BK157.out 3
              have hns88_0 := NB153_157.out
              have hns88_1 := NB156_157.out
              have hms88_0 := NB157_153.out
              have hms88_1 := NB157_156.out
              have hs89 : w'.cell? ⟨gb157, 4, none⟩ = some (.bool false) := (blk_cell BK157.out 4).trans rfl
              have hfs89 := blk_frozen BK157.out 4
              have hns89_0 := NB153_157.out
              have hns89_1 := NB156_157.out
              have hms89_0 := NB157_153.out
              have hms89_1 := NB157_156.out
              refine skip_ (w1 := ?_) (by rfl) rfl ?_ ?_
              rotate_left
              · go_simp
                rfl
              refine hK.out _ _ ⟨gb156, gb157, m2_, m3_, (by rw [ha.out]; exact putSel_none (v := undef) rfl), (by (with_reducible repeat (first | refine blk_drewN ?_ _ | refine blk_drew ?_ | refine blk_alloc ?_ _)); refine blk_far ?_ NB153_157.out _; (with_reducible repeat (first | refine blk_drewN ?_ _ | refine blk_drew ?_ | refine blk_alloc ?_ _)); refine blk_far ?_ NB153_157.out _; (with_reducible repeat (first | refine blk_drewN ?_ _ | refine blk_drew ?_ | refine blk_alloc ?_ _)); refine blk_far ?_ NB153_157.out _; (with_reducible repeat (first | refine blk_drewN ?_ _ | refine blk_drew ?_ | refine blk_alloc ?_ _)); refine blk_far ?_ NB153_157.out _; (with_reducible repeat (first | refine blk_drewN ?_ _ | refine blk_drew ?_ | refine blk_alloc ?_ _)); refine blk_far ?_ NB153_157.out _; (with_reducible repeat (first | refine blk_drewN ?_ _ | refine blk_drew ?_ | refine blk_alloc ?_ _)); exact BK153.out), (by repeat (first | (with_reducible first | exact HB.out | apply below_alloc | apply pw_below_drewN | apply below_drew1 | refine below_set ?_ GE153.out | refine below_set ?_ GE156.out | refine below_set ?_ GE157.out) | exact HB.out)), fun _ _ => NB157_156.out, fun _ _ => NB156_157.out, fun _ h1_ => absurd ((hon 4 (by kernel_rfl)).symm.trans h1_) (by decide), fun _ => GW156.out, fun _ => GE156.out, fun _ => NB153_156.out, fun _ => NB156_153.out, fun _ h1_ => absurd ((up_self b 5).symm.trans h1_) (by decide), fun _ => GW157.out, fun _ => GE157.out, fun _ => NB153_157.out, fun _ => NB157_153.out, fun _ => (by (with_reducible repeat (first | refine blk_drewN ?_ _ | refine blk_drew ?_ | refine blk_alloc ?_ _)); refine blk_far ?_ NB156_157.out _; (with_reducible repeat (first | refine blk_drewN ?_ _ | refine blk_drew ?_ | refine blk_alloc ?_ _)); refine blk_far ?_ NB156_157.out _; (with_reducible repeat (first | refine blk_drewN ?_ _ | refine blk_drew ?_ | refine blk_alloc ?_ _)); refine blk_far ?_ NB156_157.out _; (with_reducible repeat (first | refine blk_drewN ?_ _ | refine blk_drew ?_ | refine blk_alloc ?_ _)); refine blk_far ?_ NB156_157.out _; (with_reducible repeat (first | refine blk_drewN ?_ _ | refine blk_drew ?_ | refine blk_alloc ?_ _)); refine blk_far ?_ NB156_157.out _; (with_reducible repeat (first | refine blk_drewN ?_ _ | refine blk_drew ?_ | refine blk_alloc ?_ _)); exact BK156.out), fun _ => (by (with_reducible repeat (first | refine blk_drewN ?_ _ | refine blk_drew ?_ | refine blk_alloc ?_ _)); refine blk_put (cs := #[.int .i64 (wrap64 (9 + (wrap64 (Int.tmod (IntKind.u64.wrap (a0)) 4)))), .int .i64 (wrap64 (512 * (wrap64 (1 + (wrap64 (Int.tmod (IntKind.u64.wrap (a1)) 2000)))))), .int .i64 (wrap64 (200 + (wrap64 (Int.tmod (IntKind.u64.wrap (a2)) 500)))), .int .i64 t154, .bool false]) ?_ 4 _ (by first | rfl | (simp [*]; done)); (with_reducible repeat (first | refine blk_drewN ?_ _ | refine blk_drew ?_ | refine blk_alloc ?_ _)); refine blk_put (cs := #[.int .i64 (wrap64 (9 + (wrap64 (Int.tmod (IntKind.u64.wrap (a0)) 4)))), .int .i64 (wrap64 (512 * (wrap64 (1 + (wrap64 (Int.tmod (IntKind.u64.wrap (a1)) 2000)))))), .int .i64 (wrap64 (200 + (wrap64 (Int.tmod (IntKind.u64.wrap (a2)) 500)))), .int .i64 0, .bool false]) ?_ 3 _ (by first | rfl | (simp [*]; done)); (with_reducible repeat (first | refine blk_drewN ?_ _ | refine blk_drew ?_ | refine blk_alloc ?_ _)); refine blk_put (cs := #[.int .i64 (wrap64 (9 + (wrap64 (Int.tmod (IntKind.u64.wrap (a0)) 4)))), .int .i64 (wrap64 (512 * (wrap64 (1 + (wrap64 (Int.tmod (IntKind.u64.wrap (a1)) 2000)))))), .int .i64 0, .int .i64 0, .bool false]) ?_ 2 _ (by first | rfl | (simp [*]; done)); (with_reducible repeat (first | refine blk_drewN ?_ _ | refine blk_drew ?_ | refine blk_alloc ?_ _)); refine blk_put (cs := #[.int .i64 (wrap64 (9 + (wrap64 (Int.tmod (IntKind.u64.wrap (a0)) 4)))), .int .i64 0, .int .i64 0, .int .i64 0, .bool false]) ?_ 1 _ (by first | rfl | (simp [*]; done)); (with_reducible repeat (first | refine blk_drewN ?_ _ | refine blk_drew ?_ | refine blk_alloc ?_ _)); refine blk_put (cs := #[.int .i64 0, .int .i64 0, .int .i64 0, .int .i64 0, .bool false]) ?_ 0 _ (by first | rfl | (simp [*]; done)); (with_reducible repeat (first | refine blk_drewN ?_ _ | refine blk_drew ?_ | refine blk_alloc ?_ _)); exact BK157.out), Q_X2_, Q_X3_⟩
            exact steps_nil
          rintro b a w89 hall ⟨gb156, gb157, m2_, m3_, ha, Q_BK153, Q_HB, Q_NB157_156, Q_NB156_157, Q_BK156, Q_GW156, Q_GE156, Q_NB153_156, Q_NB156_153, Q_BK157, Q_GW157, Q_GE157, Q_NB153_157, Q_NB157_153, Q_BK156_e4, Q_BK157_e5, Q_X2_, Q_X3_⟩
          clear BK153 HB
          have hb0_ := hall 0 (by kernel_rfl)
          have hb1_ := hall 1 (by kernel_rfl)
          have hb2_ := hall 2 (by kernel_rfl)
          have hb3_ := hall 3 (by kernel_rfl)
          have hb4_ := hall 4 (by kernel_rfl)
          have hb5_ := hall 5 (by kernel_rfl)
          subst ha
          obtain rfl := Q_X2_ hb2_
          obtain rfl := Q_X3_ hb3_
          simp only [putSel, hb0_, hb1_, hb2_, hb3_, hb4_, hb5_, if_true, Act.put, List.setIfInBounds_toArray, List.set_cons_zero, List.set_cons_succ]
          have BK153 := Aside0.mk Q_BK153
          clear Q_BK153
          have HB := Aside0.mk Q_HB
          clear Q_HB
          have NB157_156 := Aside0.mk (Q_NB157_156 hb2_ hb3_)
          clear Q_NB157_156
          have NB156_157 := Aside0.mk (Q_NB156_157 hb2_ hb3_)
          clear Q_NB156_157
          clear Q_BK156
          have GW156 := Aside0.mk (Q_GW156 hb2_)
          clear Q_GW156
          have GE156 := Aside0.mk (Q_GE156 hb2_)
          clear Q_GE156
          have NB153_156 := Aside0.mk (Q_NB153_156 hb2_)
          clear Q_NB153_156
          have NB156_153 := Aside0.mk (Q_NB156_153 hb2_)
          clear Q_NB156_153
          clear Q_BK157
          have GW157 := Aside0.mk (Q_GW157 hb3_)
          clear Q_GW157
          have GE157 := Aside0.mk (Q_GE157 hb3_)
          clear Q_GE157
          have NB153_157 := Aside0.mk (Q_NB153_157 hb3_)
          clear Q_NB153_157
          have NB157_153 := Aside0.mk (Q_NB157_153 hb3_)
          clear Q_NB157_153
          have BK156 := Aside0.mk (Q_BK156_e4 hb4_)
          clear Q_BK156_e4
          have BK157 := Aside0.mk (Q_BK157_e5 hb5_)
          clear Q_BK157_e5
          clear hall hb0_ hb1_ hb2_ hb3_ hb4_ hb5_
          have hnb90 := NB156_153.out
          have hnc90 := NB153_156.out
          have hnb91 := NB156_157.out
          have hnc91 := NB157_156.out
          have hcz92_0 : w89.cell? ⟨gb156, 0, none⟩ = some (.int .i64 (wrap64 (9 + (wrap64 (Int.tmod (IntKind.u64.wrap (a0)) 4))))) := (blk_cell BK156.out 0).trans rfl
          have hcz92_1 : w89.cell? ⟨gb156, 1, none⟩ = some (.int .i64 (wrap64 (512 * (wrap64 (1 + (wrap64 (Int.tmod (IntKind.u64.wrap (a1)) 2000))))))) := (blk_cell BK156.out 1).trans rfl
          have hcz92_2 : w89.cell? ⟨gb156, 2, none⟩ = some (.int .i64 (wrap64 (200 + (wrap64 (Int.tmod (IntKind.u64.wrap (a2)) 500))))) := (blk_cell BK156.out 2).trans rfl
          have hcz92_3 : w89.cell? ⟨gb156, 3, none⟩ = some (.int .i64 t154) := (blk_cell BK156.out 3).trans rfl
          have hcz92_4 : w89.cell? ⟨gb156, 4, none⟩ = some (.bool false) := (blk_cell BK156.out 4).trans rfl
          have hfz92_0 := blk_frozen BK156.out 0
          have hfz92_1 := blk_frozen BK156.out 1
          have hfz92_2 := blk_frozen BK156.out 2
          have hfz92_3 := blk_frozen BK156.out 3
          have hfz92_4 := blk_frozen BK156.out 4
          have hnb93 := NB153_157.out
          have hnc93 := NB157_153.out
          have hcz94_0 : w89.cell? ⟨gb153, 0, none⟩ = some (.int .i64 (wrap64 (9 + (wrap64 (Int.tmod (IntKind.u64.wrap (a0)) 4))))) := (blk_cell BK153.out 0).trans rfl
          have hcz94_1 : w89.cell? ⟨gb153, 1, none⟩ = some (.int .i64 (wrap64 (512 * (wrap64 (1 + (wrap64 (Int.tmod (IntKind.u64.wrap (a1)) 2000))))))) := (blk_cell BK153.out 1).trans rfl
          have hcz94_2 : w89.cell? ⟨gb153, 2, none⟩ = some (.int .i64 (wrap64 (200 + (wrap64 (Int.tmod (IntKind.u64.wrap (a2)) 500))))) := (blk_cell BK153.out 2).trans rfl
          have hcz94_3 : w89.cell? ⟨gb153, 3, none⟩ = some (.int .i64 t154) := (blk_cell BK153.out 3).trans rfl
          have hcz94_4 : w89.cell? ⟨gb153, 4, none⟩ = some (.bool false) := (blk_cell BK153.out 4).trans rfl
          have hfz94_0 := blk_frozen BK153.out 0
          have hfz94_1 := blk_frozen BK153.out 1
          have hfz94_2 := blk_frozen BK153.out 2
          have hfz94_3 := blk_frozen BK153.out 3
          have hfz94_4 := blk_frozen BK153.out 4
          try go_wp2_with (first | ((with_reducible refine gate_callee (f := 54) rfl ?_); refine goesL_ (some 44) rfl rfl Try.func54 (by kernel_rfl) rfl #[.agg #[.int .i64 (wrap64 (9 + (wrap64 (Int.tmod (IntKind.u64.wrap (a0)) 4)))), .int .i64 (wrap64 (512 * (wrap64 (1 + (wrap64 (Int.tmod (IntKind.u64.wrap (a1)) 2000)))))), .int .i64 (wrap64 (200 + (wrap64 (Int.tmod (IntKind.u64.wrap (a2)) 500)))), .int .i64 t154, .bool false]] rfl (by (try simp only [List.map_toArray, List.map_cons, List.map_nil]); first | done | rfl | (simp only [List.length_drop, List.length_take]; rfl)) ?_; (with_reducible refine (header_Header_First.calls (wrap64 (9 + (wrap64 (Int.tmod (IntKind.u64.wrap (a0)) 4)))) (wrap64 (512 * (wrap64 (1 + (wrap64 (Int.tmod (IntKind.u64.wrap (a1)) 2000)))))) (wrap64 (200 + (wrap64 (Int.tmod (IntKind.u64.wrap (a2)) 500)))) t154 false t158 _ A17.out).mono ?_); rintro e w95 ⟨rfl, hb⟩; refine ⟨_, rfl, ?_⟩; have n0_ := Aside0.mk (blk_below (g := gb153) (o := .cells #[.int .i64 (wrap64 (9 + (wrap64 (Int.tmod (IntKind.u64.wrap (a0)) 4)))), .int .i64 (wrap64 (512 * (wrap64 (1 + (wrap64 (Int.tmod (IntKind.u64.wrap (a1)) 2000)))))), .int .i64 (wrap64 (200 + (wrap64 (Int.tmod (IntKind.u64.wrap (a2)) 500)))), .int .i64 t154, .bool false] 69 (0, 0)) (by (with_reducible repeat (first | refine blk_drewN ?_ _ | refine blk_drew ?_ | refine blk_alloc ?_ _)); refine blk_far ?_ NB153_156.out _; (with_reducible repeat (first | refine blk_drewN ?_ _ | refine blk_drew ?_ | refine blk_alloc ?_ _)); exact BK153.out) hb); have n1_ := Aside0.mk (blk_below (g := gb156) (o := .cells #[.int .i64 (wrap64 (9 + (wrap64 (Int.tmod (IntKind.u64.wrap (a0)) 4)))), .int .i64 (wrap64 (512 * (wrap64 (1 + (wrap64 (Int.tmod (IntKind.u64.wrap (a1)) 2000)))))), .int .i64 (wrap64 (200 + (wrap64 (Int.tmod (IntKind.u64.wrap (a2)) 500)))), .int .i64 (wrap64 (t154 - 1)), .bool false] 69 (0, 0)) (by (with_reducible repeat (first | refine blk_drewN ?_ _ | refine blk_drew ?_ | refine blk_alloc ?_ _)); refine blk_put (cs := #[.int .i64 (wrap64 (9 + (wrap64 (Int.tmod (IntKind.u64.wrap (a0)) 4)))), .int .i64 (wrap64 (512 * (wrap64 (1 + (wrap64 (Int.tmod (IntKind.u64.wrap (a1)) 2000)))))), .int .i64 (wrap64 (200 + (wrap64 (Int.tmod (IntKind.u64.wrap (a2)) 500)))), .int .i64 t154, .bool false]) ?_ 3 _ (by first | rfl | (simp [*]; done)); (with_reducible repeat (first | refine blk_drewN ?_ _ | refine blk_drew ?_ | refine blk_alloc ?_ _)); exact BK156.out) hb); have n2_ := Aside0.mk (blk_below (g := gb157) (o := .cells #[.int .i64 (wrap64 (9 + (wrap64 (Int.tmod (IntKind.u64.wrap (a0)) 4)))), .int .i64 (wrap64 (512 * (wrap64 (1 + (wrap64 (Int.tmod (IntKind.u64.wrap (a1)) 2000)))))), .int .i64 (wrap64 (200 + (wrap64 (Int.tmod (IntKind.u64.wrap (a2)) 500)))), .int .i64 t154, .bool false] 69 (0, 0)) (by (with_reducible repeat (first | refine blk_drewN ?_ _ | refine blk_drew ?_ | refine blk_alloc ?_ _)); refine blk_far ?_ NB157_156.out _; (with_reducible repeat (first | refine blk_drewN ?_ _ | refine blk_drew ?_ | refine blk_alloc ?_ _)); exact BK157.out) hb); have n3_ := Aside0.mk (below_step (by repeat (first | (with_reducible first | exact HB.out | apply below_alloc | apply pw_below_drewN | apply below_drew1 | refine below_set ?_ GE153.out | refine below_set ?_ GE156.out | refine below_set ?_ GE157.out) | exact HB.out)) hb); clear BK153; clear BK156; clear BK157; clear HB; have BK153 := n0_; have BK156 := n1_; have BK157 := n2_; have HB := n3_; clear n0_ n1_ n2_ n3_; (try clear hb); (try clear hb2); (try clear hk); (try clear hi); have hcz96_0 : w95.cell? ⟨gb157, 0, none⟩ = some (.int .i64 (wrap64 (9 + (wrap64 (Int.tmod (IntKind.u64.wrap (a0)) 4))))) := (blk_cell BK157.out 0).trans rfl; have hcz96_1 : w95.cell? ⟨gb157, 1, none⟩ = some (.int .i64 (wrap64 (512 * (wrap64 (1 + (wrap64 (Int.tmod (IntKind.u64.wrap (a1)) 2000))))))) := (blk_cell BK157.out 1).trans rfl; have hcz96_2 : w95.cell? ⟨gb157, 2, none⟩ = some (.int .i64 (wrap64 (200 + (wrap64 (Int.tmod (IntKind.u64.wrap (a2)) 500))))) := (blk_cell BK157.out 2).trans rfl; have hcz96_3 : w95.cell? ⟨gb157, 3, none⟩ = some (.int .i64 t154) := (blk_cell BK157.out 3).trans rfl; have hcz96_4 : w95.cell? ⟨gb157, 4, none⟩ = some (.bool false) := (blk_cell BK157.out 4).trans rfl; have hfz96_0 := blk_frozen BK157.out 0; have hfz96_1 := blk_frozen BK157.out 1; have hfz96_2 := blk_frozen BK157.out 2; have hfz96_3 := blk_frozen BK157.out 3; have hfz96_4 := blk_frozen BK157.out 4))
          have n0_ : Aside0 ((w95.setCell ⟨gb157, 2, none⟩ (.int .i64 (wrap64 (t158 - 1)))).heap[gb153]? = some (.cells #[.int .i64 (wrap64 (9 + (wrap64 (Int.tmod (IntKind.u64.wrap (a0)) 4)))), .int .i64 (wrap64 (512 * (wrap64 (1 + (wrap64 (Int.tmod (IntKind.u64.wrap (a1)) 2000)))))), .int .i64 (wrap64 (200 + (wrap64 (Int.tmod (IntKind.u64.wrap (a2)) 500)))), .int .i64 t154, .bool false] 69 (0, 0))) := ⟨by (with_reducible repeat (first | refine blk_drewN ?_ _ | refine blk_drew ?_ | refine blk_alloc ?_ _)); refine blk_far ?_ NB153_157.out _; (with_reducible repeat (first | refine blk_drewN ?_ _ | refine blk_drew ?_ | refine blk_alloc ?_ _)); exact BK153.out⟩
          have n1_ : Aside0 ((w95.setCell ⟨gb157, 2, none⟩ (.int .i64 (wrap64 (t158 - 1)))).heap[gb156]? = some (.cells #[.int .i64 (wrap64 (9 + (wrap64 (Int.tmod (IntKind.u64.wrap (a0)) 4)))), .int .i64 (wrap64 (512 * (wrap64 (1 + (wrap64 (Int.tmod (IntKind.u64.wrap (a1)) 2000)))))), .int .i64 (wrap64 (200 + (wrap64 (Int.tmod (IntKind.u64.wrap (a2)) 500)))), .int .i64 (wrap64 (t154 - 1)), .bool false] 69 (0, 0))) := ⟨by (with_reducible repeat (first | refine blk_drewN ?_ _ | refine blk_drew ?_ | refine blk_alloc ?_ _)); refine blk_far ?_ NB156_157.out _; (with_reducible repeat (first | refine blk_drewN ?_ _ | refine blk_drew ?_ | refine blk_alloc ?_ _)); exact BK156.out⟩
          have n2_ : Aside0 ((w95.setCell ⟨gb157, 2, none⟩ (.int .i64 (wrap64 (t158 - 1)))).heap[gb157]? = some (.cells #[.int .i64 (wrap64 (9 + (wrap64 (Int.tmod (IntKind.u64.wrap (a0)) 4)))), .int .i64 (wrap64 (512 * (wrap64 (1 + (wrap64 (Int.tmod (IntKind.u64.wrap (a1)) 2000)))))), .int .i64 (wrap64 (t158 - 1)), .int .i64 t154, .bool false] 69 (0, 0))) := ⟨by (with_reducible repeat (first | refine blk_drewN ?_ _ | refine blk_drew ?_ | refine blk_alloc ?_ _)); refine blk_put (cs := #[.int .i64 (wrap64 (9 + (wrap64 (Int.tmod (IntKind.u64.wrap (a0)) 4)))), .int .i64 (wrap64 (512 * (wrap64 (1 + (wrap64 (Int.tmod (IntKind.u64.wrap (a1)) 2000)))))), .int .i64 (wrap64 (200 + (wrap64 (Int.tmod (IntKind.u64.wrap (a2)) 500)))), .int .i64 t154, .bool false]) ?_ 2 _ (by first | rfl | (simp [*]; done)); (with_reducible repeat (first | refine blk_drewN ?_ _ | refine blk_drew ?_ | refine blk_alloc ?_ _)); exact BK157.out⟩
          have n3_ : Aside0 (Below w.heap.size w (w95.setCell ⟨gb157, 2, none⟩ (.int .i64 (wrap64 (t158 - 1))))) := ⟨by repeat (first | (with_reducible first | exact HB.out | apply below_alloc | apply pw_below_drewN | apply below_drew1 | refine below_set ?_ GE153.out | refine below_set ?_ GE156.out | refine below_set ?_ GE157.out) | exact HB.out)⟩
          (try clear BK153)
          (try clear BK156)
          (try clear BK157)
          (try clear HB)
          generalize (w95.setCell ⟨gb157, 2, none⟩ (.int .i64 (wrap64 (t158 - 1)))) = w97 at n0_ n1_ n2_ n3_ ⊢
          have BK153 := n0_
          have BK156 := n1_
          have BK157 := n2_
          have HB := n3_
          clear n0_ n1_ n2_ n3_
          have n0_ := Aside0.mk (blk_drew BK153.out)
          have n1_ := Aside0.mk (blk_drew BK156.out)
          have n2_ := Aside0.mk (blk_drew BK157.out)
          have n3_ := Aside0.mk (below_drew1 HB.out)
          clear BK153
          clear BK156
          clear BK157
          clear HB
          have BK153 := n0_
          have BK156 := n1_
          have BK157 := n2_
          have HB := n3_
          clear n0_ n1_ n2_ n3_
          refine start_ (n := 5) (S := fun w' => w'.cell? ⟨gb157, 0, none⟩ = some (.int .i64 (wrap64 (9 + (wrap64 (Int.tmod (IntKind.u64.wrap (a0)) 4))))) ∧ w'.cell? ⟨gb157, 1, none⟩ = some (.int .i64 (wrap64 (512 * (wrap64 (1 + (wrap64 (Int.tmod (IntKind.u64.wrap (a1)) 2000))))))) ∧ w'.cell? ⟨gb157, 2, none⟩ = some (.int .i64 (wrap64 (t158 - 1))) ∧ w'.cell? ⟨gb157, 3, none⟩ = some (.int .i64 t154) ∧ w'.cell? ⟨gb157, 4, none⟩ = some (.bool false) ∧ w'.cell? ⟨gb153, 0, none⟩ = some (.int .i64 (wrap64 (9 + (wrap64 (Int.tmod (IntKind.u64.wrap (a0)) 4))))) ∧ w'.cell? ⟨gb153, 1, none⟩ = some (.int .i64 (wrap64 (512 * (wrap64 (1 + (wrap64 (Int.tmod (IntKind.u64.wrap (a1)) 2000))))))) ∧ w'.cell? ⟨gb153, 2, none⟩ = some (.int .i64 (wrap64 (200 + (wrap64 (Int.tmod (IntKind.u64.wrap (a2)) 500))))) ∧ w'.cell? ⟨gb153, 3, none⟩ = some (.int .i64 t154) ∧ w'.cell? ⟨gb153, 4, none⟩ = some (.bool false)) (ds := []) #[false, false, false, false, false] (by kernel_rfl) rfl rfl ⟨(blk_cell BK157.out 0).trans rfl, (blk_cell BK157.out 1).trans rfl, (blk_cell BK157.out 2).trans rfl, (blk_cell BK157.out 3).trans rfl, (blk_cell BK157.out 4).trans rfl, (blk_cell BK153.out 0).trans rfl, (blk_cell BK153.out 1).trans rfl, (blk_cell BK153.out 2).trans rfl, (blk_cell BK153.out 3).trans rfl, (blk_cell BK153.out 4).trans rfl⟩ (fun hHeld => ?_)
          generalize w97.drew = w98 at BK153 BK156 BK157 HB hHeld ⊢
          refine take_ (i := 0) (N := some 47) (v := ?_) (a' := ?_) #[true, false, false, false, false] rfl rfl (by kernel_rfl) (fun _ _ _ h => h) (Or.inl ⟨by rfl, ?_⟩) hHeld ?_ ?_
          rotate_left
          · rintro w' ⟨s0, s1, s2, s3, s4, s5, s6, s7, s8, s9⟩
            go_simp
            with_reducible rfl
          rotate_left
          · simp only [Act.put, List.setIfInBounds_toArray, List.set_cons_zero, List.set_cons_succ, i64_w, i32_w]
            rfl
          refine take_ (i := 2) (N := some 49) (v := ?_) (a' := ?_) #[true, false, true, false, false] rfl rfl (by kernel_rfl) (fun _ _ _ h => h) (Or.inl ⟨by rfl, ?_⟩) hHeld ?_ ?_
          rotate_left
          · rintro w' ⟨s0, s1, s2, s3, s4, s5, s6, s7, s8, s9⟩
            go_simp
            with_reducible rfl
          rotate_left
          · simp only [Act.put, List.setIfInBounds_toArray, List.set_cons_zero, List.set_cons_succ, i64_w, i32_w]
            rfl
          refine one_ (i := 1) (N := some 48) #[true, true, true, false, false] rfl rfl (by kernel_rfl) (by decide) (fun K hK => ?_)
          refine goes_ Try.func56 (by kernel_rfl) rfl #[.agg #[.int .i64 (wrap64 (9 + (wrap64 (Int.tmod (IntKind.u64.wrap (a0)) 4)))), .int .i64 (wrap64 (512 * (wrap64 (1 + (wrap64 (Int.tmod (IntKind.u64.wrap (a1)) 2000)))))), .int .i64 (wrap64 (t158 - 1)), .int .i64 t154, .bool false]] (by rfl) rfl rfl (by (try simp only [List.map_toArray, List.map_cons, List.map_nil]); first | done | rfl | (simp only [List.length_drop, List.length_take]; rfl)) ?_
          with_reducible refine (header_Header_Least.calls (wrap64 (9 + (wrap64 (Int.tmod (IntKind.u64.wrap (a0)) 4)))) (wrap64 (512 * (wrap64 (1 + (wrap64 (Int.tmod (IntKind.u64.wrap (a1)) 2000)))))) (wrap64 (t158 - 1)) t154 false t159 _ A18.out).mono ?_
          rintro e w99 ⟨rfl, hb⟩
          refine ⟨_, rfl, ?_⟩
          have n0_ := Aside0.mk (blk_below (g := gb153) (o := .cells #[.int .i64 (wrap64 (9 + (wrap64 (Int.tmod (IntKind.u64.wrap (a0)) 4)))), .int .i64 (wrap64 (512 * (wrap64 (1 + (wrap64 (Int.tmod (IntKind.u64.wrap (a1)) 2000)))))), .int .i64 (wrap64 (200 + (wrap64 (Int.tmod (IntKind.u64.wrap (a2)) 500)))), .int .i64 t154, .bool false] 69 (0, 0)) (by (with_reducible repeat (first | refine blk_drewN ?_ _ | refine blk_drew ?_ | refine blk_alloc ?_ _)); exact BK153.out) hb)
          have n1_ := Aside0.mk (blk_below (g := gb156) (o := .cells #[.int .i64 (wrap64 (9 + (wrap64 (Int.tmod (IntKind.u64.wrap (a0)) 4)))), .int .i64 (wrap64 (512 * (wrap64 (1 + (wrap64 (Int.tmod (IntKind.u64.wrap (a1)) 2000)))))), .int .i64 (wrap64 (200 + (wrap64 (Int.tmod (IntKind.u64.wrap (a2)) 500)))), .int .i64 (wrap64 (t154 - 1)), .bool false] 69 (0, 0)) (by (with_reducible repeat (first | refine blk_drewN ?_ _ | refine blk_drew ?_ | refine blk_alloc ?_ _)); exact BK156.out) hb)
          have n2_ := Aside0.mk (blk_below (g := gb157) (o := .cells #[.int .i64 (wrap64 (9 + (wrap64 (Int.tmod (IntKind.u64.wrap (a0)) 4)))), .int .i64 (wrap64 (512 * (wrap64 (1 + (wrap64 (Int.tmod (IntKind.u64.wrap (a1)) 2000)))))), .int .i64 (wrap64 (t158 - 1)), .int .i64 t154, .bool false] 69 (0, 0)) (by (with_reducible repeat (first | refine blk_drewN ?_ _ | refine blk_drew ?_ | refine blk_alloc ?_ _)); exact BK157.out) hb)
          have n3_ := Aside0.mk (below_step (by repeat (first | (with_reducible first | exact HB.out | apply below_alloc | apply pw_below_drewN | apply below_drew1 | refine below_set ?_ GE153.out | refine below_set ?_ GE156.out | refine below_set ?_ GE157.out) | exact HB.out)) hb)
          clear BK153
          clear BK156
          clear BK157
          clear HB
          have BK153 := n0_
          have BK156 := n1_
          have BK157 := n2_
          have HB := n3_
          clear n0_ n1_ n2_ n3_
          (try clear hb)
          (try clear hb2)
          (try clear hk)
          (try clear hi)
          refine hK.out _ _ ⟨(blk_cell BK157.out 0).trans rfl, (blk_cell BK157.out 1).trans rfl, (blk_cell BK157.out 2).trans rfl, (blk_cell BK157.out 3).trans rfl, (blk_cell BK157.out 4).trans rfl, (blk_cell BK153.out 0).trans rfl, (blk_cell BK153.out 1).trans rfl, (blk_cell BK153.out 2).trans rfl, (blk_cell BK153.out 3).trans rfl, (blk_cell BK153.out 4).trans rfl⟩ (fun hHeld => ?_)
          clear hK K
          refine norm_ (a' := ?_) ?_ ?_
          rotate_left
          · show Act.put _ (some 48) _ = _
            simp only [Act.put, List.setIfInBounds_toArray, List.set_cons_zero, List.set_cons_succ, i64_w, i32_w]
            rfl
          refine one_ (i := 3) (N := some 50) #[true, true, true, true, false] rfl rfl (by kernel_rfl) (by decide) (fun K hK => ?_)
          refine goes_ Try.func56 (by kernel_rfl) rfl #[.agg #[.int .i64 (wrap64 (9 + (wrap64 (Int.tmod (IntKind.u64.wrap (a0)) 4)))), .int .i64 (wrap64 (512 * (wrap64 (1 + (wrap64 (Int.tmod (IntKind.u64.wrap (a1)) 2000)))))), .int .i64 (wrap64 (200 + (wrap64 (Int.tmod (IntKind.u64.wrap (a2)) 500)))), .int .i64 t154, .bool false]] (by rfl) rfl rfl (by (try simp only [List.map_toArray, List.map_cons, List.map_nil]); first | done | rfl | (simp only [List.length_drop, List.length_take]; rfl)) ?_
          with_reducible refine (header_Header_Least.calls (wrap64 (9 + (wrap64 (Int.tmod (IntKind.u64.wrap (a0)) 4)))) (wrap64 (512 * (wrap64 (1 + (wrap64 (Int.tmod (IntKind.u64.wrap (a1)) 2000)))))) (wrap64 (200 + (wrap64 (Int.tmod (IntKind.u64.wrap (a2)) 500)))) t154 false t160 _ A19.out).mono ?_
          rintro e w100 ⟨rfl, hb⟩
          refine ⟨_, rfl, ?_⟩
          have n0_ := Aside0.mk (blk_below (g := gb153) (o := .cells #[.int .i64 (wrap64 (9 + (wrap64 (Int.tmod (IntKind.u64.wrap (a0)) 4)))), .int .i64 (wrap64 (512 * (wrap64 (1 + (wrap64 (Int.tmod (IntKind.u64.wrap (a1)) 2000)))))), .int .i64 (wrap64 (200 + (wrap64 (Int.tmod (IntKind.u64.wrap (a2)) 500)))), .int .i64 t154, .bool false] 69 (0, 0)) (by (with_reducible repeat (first | refine blk_drewN ?_ _ | refine blk_drew ?_ | refine blk_alloc ?_ _)); exact BK153.out) hb)
          have n1_ := Aside0.mk (blk_below (g := gb156) (o := .cells #[.int .i64 (wrap64 (9 + (wrap64 (Int.tmod (IntKind.u64.wrap (a0)) 4)))), .int .i64 (wrap64 (512 * (wrap64 (1 + (wrap64 (Int.tmod (IntKind.u64.wrap (a1)) 2000)))))), .int .i64 (wrap64 (200 + (wrap64 (Int.tmod (IntKind.u64.wrap (a2)) 500)))), .int .i64 (wrap64 (t154 - 1)), .bool false] 69 (0, 0)) (by (with_reducible repeat (first | refine blk_drewN ?_ _ | refine blk_drew ?_ | refine blk_alloc ?_ _)); exact BK156.out) hb)
          have n2_ := Aside0.mk (blk_below (g := gb157) (o := .cells #[.int .i64 (wrap64 (9 + (wrap64 (Int.tmod (IntKind.u64.wrap (a0)) 4)))), .int .i64 (wrap64 (512 * (wrap64 (1 + (wrap64 (Int.tmod (IntKind.u64.wrap (a1)) 2000)))))), .int .i64 (wrap64 (t158 - 1)), .int .i64 t154, .bool false] 69 (0, 0)) (by (with_reducible repeat (first | refine blk_drewN ?_ _ | refine blk_drew ?_ | refine blk_alloc ?_ _)); exact BK157.out) hb)
          have n3_ := Aside0.mk (below_step (by repeat (first | (with_reducible first | exact HB.out | apply below_alloc | apply pw_below_drewN | apply below_drew1 | refine below_set ?_ GE153.out | refine below_set ?_ GE156.out | refine below_set ?_ GE157.out) | exact HB.out)) hb)
          clear BK153
          clear BK156
          clear BK157
          clear HB
          have BK153 := n0_
          have BK156 := n1_
          have BK157 := n2_
          have HB := n3_
          clear n0_ n1_ n2_ n3_
          (try clear hb)
          (try clear hb2)
          (try clear hk)
          (try clear hi)
          refine hK.out _ _ ⟨(blk_cell BK157.out 0).trans rfl, (blk_cell BK157.out 1).trans rfl, (blk_cell BK157.out 2).trans rfl, (blk_cell BK157.out 3).trans rfl, (blk_cell BK157.out 4).trans rfl, (blk_cell BK153.out 0).trans rfl, (blk_cell BK153.out 1).trans rfl, (blk_cell BK153.out 2).trans rfl, (blk_cell BK153.out 3).trans rfl, (blk_cell BK153.out 4).trans rfl⟩ (fun hHeld => ?_)
          clear hK K
          refine norm_ (a' := ?_) ?_ ?_
          rotate_left
          · show Act.put _ (some 50) _ = _
            simp only [Act.put, List.setIfInBounds_toArray, List.set_cons_zero, List.set_cons_succ, i64_w, i32_w]
            rfl
          refine pure_ (i := 4) (N := some 51) (v := ?_) (a' := ?_) #[true, true, true, true, true] rfl rfl (by kernel_rfl) (fun _ _ _ h => h) (Or.inl ⟨by rfl, ?_⟩) ?_ ?_
          rotate_left
          · intro w'
            go_simp
            with_reducible rfl
          rotate_left
          · simp only [Act.put, List.setIfInBounds_toArray, List.set_cons_zero, List.set_cons_succ, i64_w, i32_w]
            rfl
          refine done_ (by kernel_rfl) ?_
          have hcz101_0 : w100.cell? ⟨gb153, 0, none⟩ = some (.int .i64 (wrap64 (9 + (wrap64 (Int.tmod (IntKind.u64.wrap (a0)) 4))))) := (blk_cell BK153.out 0).trans rfl
          have hcz101_1 : w100.cell? ⟨gb153, 1, none⟩ = some (.int .i64 (wrap64 (512 * (wrap64 (1 + (wrap64 (Int.tmod (IntKind.u64.wrap (a1)) 2000))))))) := (blk_cell BK153.out 1).trans rfl
          have hcz101_2 : w100.cell? ⟨gb153, 2, none⟩ = some (.int .i64 (wrap64 (200 + (wrap64 (Int.tmod (IntKind.u64.wrap (a2)) 500))))) := (blk_cell BK153.out 2).trans rfl
          have hcz101_3 : w100.cell? ⟨gb153, 3, none⟩ = some (.int .i64 t154) := (blk_cell BK153.out 3).trans rfl
          have hcz101_4 : w100.cell? ⟨gb153, 4, none⟩ = some (.bool false) := (blk_cell BK153.out 4).trans rfl
          have hfz101_0 := blk_frozen BK153.out 0
          have hfz101_1 := blk_frozen BK153.out 1
          have hfz101_2 := blk_frozen BK153.out 2
          have hfz101_3 := blk_frozen BK153.out 3
          have hfz101_4 := blk_frozen BK153.out 4
          try go_wp2_with (first | ((with_reducible refine gate_callee (f := 58) rfl ?_); refine goesL_ (some 53) rfl rfl Try.func58 (by kernel_rfl) rfl #[.agg #[.int .i64 (wrap64 (9 + (wrap64 (Int.tmod (IntKind.u64.wrap (a0)) 4)))), .int .i64 (wrap64 (512 * (wrap64 (1 + (wrap64 (Int.tmod (IntKind.u64.wrap (a1)) 2000)))))), .int .i64 (wrap64 (200 + (wrap64 (Int.tmod (IntKind.u64.wrap (a2)) 500)))), .int .i64 t154, .bool false]] rfl (by (try simp only [List.map_toArray, List.map_cons, List.map_nil]); first | done | rfl | (simp only [List.length_drop, List.length_take]; rfl)) ?_; (with_reducible refine (header_Header_Check.calls k (wrap64 (9 + (wrap64 (Int.tmod (IntKind.u64.wrap (a0)) 4)))) (wrap64 (512 * (wrap64 (1 + (wrap64 (Int.tmod (IntKind.u64.wrap (a1)) 2000)))))) (wrap64 (200 + (wrap64 (Int.tmod (IntKind.u64.wrap (a2)) 500)))) t154 false t164 _ A65.out).mono ?_); rintro e w102 ⟨rfl, hb⟩; refine ⟨_, rfl, ?_⟩; have n0_ := Aside0.mk (blk_below (g := gb153) (o := .cells #[.int .i64 (wrap64 (9 + (wrap64 (Int.tmod (IntKind.u64.wrap (a0)) 4)))), .int .i64 (wrap64 (512 * (wrap64 (1 + (wrap64 (Int.tmod (IntKind.u64.wrap (a1)) 2000)))))), .int .i64 (wrap64 (200 + (wrap64 (Int.tmod (IntKind.u64.wrap (a2)) 500)))), .int .i64 t154, .bool false] 69 (0, 0)) (by (with_reducible repeat (first | refine blk_drewN ?_ _ | refine blk_drew ?_ | refine blk_alloc ?_ _)); exact BK153.out) hb); have n1_ := Aside0.mk (blk_below (g := gb156) (o := .cells #[.int .i64 (wrap64 (9 + (wrap64 (Int.tmod (IntKind.u64.wrap (a0)) 4)))), .int .i64 (wrap64 (512 * (wrap64 (1 + (wrap64 (Int.tmod (IntKind.u64.wrap (a1)) 2000)))))), .int .i64 (wrap64 (200 + (wrap64 (Int.tmod (IntKind.u64.wrap (a2)) 500)))), .int .i64 (wrap64 (t154 - 1)), .bool false] 69 (0, 0)) (by (with_reducible repeat (first | refine blk_drewN ?_ _ | refine blk_drew ?_ | refine blk_alloc ?_ _)); exact BK156.out) hb); have n2_ := Aside0.mk (blk_below (g := gb157) (o := .cells #[.int .i64 (wrap64 (9 + (wrap64 (Int.tmod (IntKind.u64.wrap (a0)) 4)))), .int .i64 (wrap64 (512 * (wrap64 (1 + (wrap64 (Int.tmod (IntKind.u64.wrap (a1)) 2000)))))), .int .i64 (wrap64 (t158 - 1)), .int .i64 t154, .bool false] 69 (0, 0)) (by (with_reducible repeat (first | refine blk_drewN ?_ _ | refine blk_drew ?_ | refine blk_alloc ?_ _)); exact BK157.out) hb); have n3_ := Aside0.mk (below_step (by repeat (first | (with_reducible first | exact HB.out | apply below_alloc | apply pw_below_drewN | apply below_drew1 | refine below_set ?_ GE153.out | refine below_set ?_ GE156.out | refine below_set ?_ GE157.out) | exact HB.out)) hb); clear BK153; clear BK156; clear BK157; clear HB; have BK153 := n0_; have BK156 := n1_; have BK157 := n2_; have HB := n3_; clear n0_ n1_ n2_ n3_; (try clear hb); (try clear hb2); (try clear hk); (try clear hi); have hcz103_0 : w102.cell? ⟨gb156, 0, none⟩ = some (.int .i64 (wrap64 (9 + (wrap64 (Int.tmod (IntKind.u64.wrap (a0)) 4))))) := (blk_cell BK156.out 0).trans rfl; have hcz103_1 : w102.cell? ⟨gb156, 1, none⟩ = some (.int .i64 (wrap64 (512 * (wrap64 (1 + (wrap64 (Int.tmod (IntKind.u64.wrap (a1)) 2000))))))) := (blk_cell BK156.out 1).trans rfl; have hcz103_2 : w102.cell? ⟨gb156, 2, none⟩ = some (.int .i64 (wrap64 (200 + (wrap64 (Int.tmod (IntKind.u64.wrap (a2)) 500))))) := (blk_cell BK156.out 2).trans rfl; have hcz103_3 : w102.cell? ⟨gb156, 3, none⟩ = some (.int .i64 (wrap64 (t154 - 1))) := (blk_cell BK156.out 3).trans rfl; have hcz103_4 : w102.cell? ⟨gb156, 4, none⟩ = some (.bool false) := (blk_cell BK156.out 4).trans rfl; have hfz103_0 := blk_frozen BK156.out 0; have hfz103_1 := blk_frozen BK156.out 1; have hfz103_2 := blk_frozen BK156.out 2; have hfz103_3 := blk_frozen BK156.out 3; have hfz103_4 := blk_frozen BK156.out 4) | (go_at_call 58; (with_reducible refine (header_Header_Check.calls k (wrap64 (9 + (wrap64 (Int.tmod (IntKind.u64.wrap (a0)) 4)))) (wrap64 (512 * (wrap64 (1 + (wrap64 (Int.tmod (IntKind.u64.wrap (a1)) 2000)))))) (wrap64 (200 + (wrap64 (Int.tmod (IntKind.u64.wrap (a2)) 500)))) (wrap64 (t154 - 1)) false t165 _ A67.out).mono ?_); rintro e w104 ⟨rfl, hb⟩; have n0_ := Aside0.mk (blk_below (g := gb153) (o := .cells #[.int .i64 (wrap64 (9 + (wrap64 (Int.tmod (IntKind.u64.wrap (a0)) 4)))), .int .i64 (wrap64 (512 * (wrap64 (1 + (wrap64 (Int.tmod (IntKind.u64.wrap (a1)) 2000)))))), .int .i64 (wrap64 (200 + (wrap64 (Int.tmod (IntKind.u64.wrap (a2)) 500)))), .int .i64 t154, .bool false] 69 (0, 0)) (by (with_reducible repeat (first | refine blk_drewN ?_ _ | refine blk_drew ?_ | refine blk_alloc ?_ _)); exact BK153.out) hb); have n1_ := Aside0.mk (blk_below (g := gb156) (o := .cells #[.int .i64 (wrap64 (9 + (wrap64 (Int.tmod (IntKind.u64.wrap (a0)) 4)))), .int .i64 (wrap64 (512 * (wrap64 (1 + (wrap64 (Int.tmod (IntKind.u64.wrap (a1)) 2000)))))), .int .i64 (wrap64 (200 + (wrap64 (Int.tmod (IntKind.u64.wrap (a2)) 500)))), .int .i64 (wrap64 (t154 - 1)), .bool false] 69 (0, 0)) (by (with_reducible repeat (first | refine blk_drewN ?_ _ | refine blk_drew ?_ | refine blk_alloc ?_ _)); exact BK156.out) hb); have n2_ := Aside0.mk (blk_below (g := gb157) (o := .cells #[.int .i64 (wrap64 (9 + (wrap64 (Int.tmod (IntKind.u64.wrap (a0)) 4)))), .int .i64 (wrap64 (512 * (wrap64 (1 + (wrap64 (Int.tmod (IntKind.u64.wrap (a1)) 2000)))))), .int .i64 (wrap64 (t158 - 1)), .int .i64 t154, .bool false] 69 (0, 0)) (by (with_reducible repeat (first | refine blk_drewN ?_ _ | refine blk_drew ?_ | refine blk_alloc ?_ _)); exact BK157.out) hb); have n3_ := Aside0.mk (below_step (by repeat (first | (with_reducible first | exact HB.out | apply below_alloc | apply pw_below_drewN | apply below_drew1 | refine below_set ?_ GE153.out | refine below_set ?_ GE156.out | refine below_set ?_ GE157.out) | exact HB.out)) hb); clear BK153; clear BK156; clear BK157; clear HB; have BK153 := n0_; have BK156 := n1_; have BK157 := n2_; have HB := n3_; clear n0_ n1_ n2_ n3_; (try clear hb); (try clear hb2); (try clear hk); (try clear hi)))
          go_ret
          exact ⟨by first | rfl | (simp [errW_none, errW_some] <;> rfl) | (simp [*, errW_none, errW_some] <;> rfl), by repeat (first | (with_reducible first | exact HB.out | apply below_alloc | apply pw_below_drewN | apply below_drew1 | refine below_set ?_ GE153.out | refine below_set ?_ GE156.out | refine below_set ?_ GE157.out) | exact HB.out)⟩
        · rw [if_neg c66] at H
          exact absurd H (by simp)
  · replace c5 := Bool.eq_false_iff.mpr c5
    subst c5
    have H1 : (none) = some r := by rw [if_neg (show ¬ (false = true) by decide)] at H; exact H
    clear H
    have H := H1
    clear H1
    exact absurd H (by simp)

/-- THE ONE PURE STATEMENT of fettlelaw07_HeaderLeasts: yours. -/
def fettlelaw07_HeaderLeasts.Pure : Prop := ∀ (a0 : Int) (a1 : Int) (a2 : Int), (Lit.int .i64 a0).wf = true → (Lit.int .i64 a1).wf = true → (Lit.int .i64 a2).wf = true → ∃ k, fettlelaw07_HeaderLeasts.f k a0 a1 a2 = some true
theorem fettlelaw07_HeaderLeasts.walk (P : fettlelaw07_HeaderLeasts.Pure) (a0 : Int) (a1 : Int) (a2 : Int) (w : World) (w0 : (Lit.int .i64 a0).wf = true) (w1 : (Lit.int .i64 a1).wf = true) (w2 : (Lit.int .i64 a2).wf = true) :
    Calls Try.prog 13 #[.int .i64 a0, .int .i64 a1, .int .i64 a2] w fun e w' => e = .returned (.bool true) ∧ Below w.heap.size w w' := by
  obtain ⟨k, h⟩ := P a0 a1 a2 w0 w1 w2
  refine (fettlelaw07_HeaderLeasts.calls k a0 a1 a2 true w h).mono ?_
  rintro e w' ⟨rfl, hd⟩
  exact ⟨rfl, hd⟩

end Go.Proofs.Ytjhijdkliepkpaa.PLst
