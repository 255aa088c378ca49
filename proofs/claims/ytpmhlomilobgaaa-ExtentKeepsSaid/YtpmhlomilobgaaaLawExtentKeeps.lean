/- The statement ExtentKeepsSaid: for every input the law returns true, and its arguments read behind the call as they did before. No condition. -/
import Derived.Test.YtpmhlomilobgaaaRows
import Derived.Test.YtpmhlomilobgaaaKt
import Derived.Test.YtpmhlomilobgaaaExtK
import Derived.Test.YtpmhlomilobgaaaPureExtentKeeps
import Derived.WalkKit
import Derived.ProofKit
import Derived.OpenShut
import Derived.ShutString
import Derived.ChangeOld
import Derived.Below
import Derived.SizedLaws
namespace Go.Proofs.Ytpmhlomilobgaaa.extentKeeps
open Go.ChangeShapes Go.WideShapes Go.ChangeAt Go.RowKit
open Go.ChangeMaps (open_string shut_string)
open Go.Proofs.Ytpmhlomilobgaaa.PExt Go.Proofs.YtpmhlomilobgaaaW.PrintWords
set_option linter.unusedVariables false
theorem own : ownKnob Try.prog.godebug = none := by kernel_rfl
theorem laidOut : laidOutB Try.prog = true := by kernel_rfl
set_option maxRecDepth 100000 in
theorem lifted (os : Os) (started : os.Started) (H : Type) (enc : TypeId × Value → H) :
    ReturnsInHanded {} Try.checked os 12 .any (Rows.extentKeepsSpec.pre6 enc Try.prog Try.f12 Rows.extentKeepsRow.domain false) (Rows.extentKeepsSpec.post enc Try.prog Try.f12 false true false false) := by
  refine returnsInHanded_of_change_sized (C := Try.checked) own started (by kernel_rfl) Try.func12
    (ChangeSpec.witness6 (enc := enc) (C := Try.checked) false ⟨#[], #[.slice none 0 0, .slice none 0 0], []⟩ 8 (by kernel_rfl) (by kernel_rfl) (by kernel_rfl) (by kernel_rfl)) ?_
  intro W base args ds gs before hval0 hW hcnd hsz0 _
  have hval : ∀ (j : Nat) t v, Try.f12.params[j]? = some t → args[j]? = some v → Value.okWide Try.prog W .any base t v := hval0
  have hW' := hW
  obtain ⟨p, q, hA0, hV, rfl, hfz, hnd⟩ := hW
  have hA : DataW.TrodAll enc Try.prog W 0 (fun _ => true) true Try.f12.params.toList args.toList ds p := hA0
  rw [Try.params12] at hA hval
  obtain ⟨v0, vs0, d0, ds0, p0, q0, hargs, rfl, rfl, h0, r0⟩ := trodAll_cons hA
  obtain ⟨v1, vs1, d1, ds1, p1, q1, rfl, rfl, rfl, h1, r1⟩ := trodAll_cons r0
  obtain ⟨rfl, rfl, rfl⟩ := trodAll_nil r1
  obtain rfl : args = #[v0, v1] := by cases args; simp_all
  obtain ⟨rfl, rfl⟩ := trodVars_none hV
  have k0 := h0
  have lt0 : ∀ x ∈ p0, x.block < W.heap.size := by obtain ⟨m, hm⟩ := k0; exact DataW.trod_lt m _ _ _ hm
  obtain ⟨A0, c0, l0, rfl, hl0, hC0, hm0, hg0⟩ := Kt.arg_slice Try.underlying56 (by kernel_rfl) (Kt.KT.iso (f := (fun x : S65 => (x.f0, x.f1))) (Kt.KT.struct Try.underlying65 (by kernel_rfl) (Kt.KTs.cons (Kt.KT.int Try.underlying2) rfl (by kernel_rfl) (Kt.KTs.last (Kt.KT.int Try.underlying2) rfl (by kernel_rfl)))) (fun y => (⟨y.1, y.2⟩ : S65)) (fun _ => rfl)) (hval 0 56 v0 rfl rfl) h0
  have k1 := h1
  have lt1 : ∀ x ∈ p1, x.block < W.heap.size := by obtain ⟨m, hm⟩ := k1; exact DataW.trod_lt m _ _ _ hm
  obtain ⟨A1, c1, l1, rfl, hl1, hC1, hm1, hg1⟩ := Kt.arg_slice Try.underlying56 (by kernel_rfl) (Kt.KT.iso (f := (fun x : S65 => (x.f0, x.f1))) (Kt.KT.struct Try.underlying65 (by kernel_rfl) (Kt.KTs.cons (Kt.KT.int Try.underlying2) rfl (by kernel_rfl) (Kt.KTs.last (Kt.KT.int Try.underlying2) rfl (by kernel_rfl)))) (fun y => (⟨y.1, y.2⟩ : S65)) (fun _ => rfl)) (hval 1 56 v1 rfl rfl) h1
  clear hA0 hval0 hsz0
  obtain ⟨k, h⟩ := Pure.ExtentKeeps l0 l1 hm0 hg0 hm1 hg1
  refine (fettlelaw03_ExtentKeeps.calls k A0 c0 l0 A1 c1 l1 true W hC0 hl0 hC1 hl1 h).mono fun e W' hh => ?_
  obtain ⟨he, hd⟩ := hh
  have bel : Below W.heap.size W W' := hd
  subst he
  exact ⟨_, rfl, _, _, _, [], _, [], hW', trodAll_mk1 (shut_bool Try.underlying4 _), (trodAll_cons_mk (Below.trod laidOut (by kernel_rfl) (of_decide_eq_true (by kernel_rfl)) k0 bel lt0) (trodAll_cons_mk (Below.trod laidOut (by kernel_rfl) (of_decide_eq_true (by kernel_rfl)) k1 bel lt1) trodAll_mk0)), rfl, bel.frame _, fun h => by cases h⟩
theorem over : Rows.extentKeepsRow.holds Try.pinned (OpenSpec.ofChange Rows.extentKeepsSpec) :=
  OpenClaim.holds_of_wide 12 Try.f12 rfl rfl rfl rfl rfl rfl rfl ⟨rfl, rfl, rfl, rfl, rfl⟩ rfl rfl rfl rfl rfl (by kernel_rfl) Try.func12 (by kernel_rfl)
    (of_decide_eq_true (by kernel_rfl)) (by unfold Func.isWrapper; first | (rw [if_pos (by decide +kernel)]; kernel_rfl) | (rw [if_neg (by decide +kernel)]; exact ⟨rfl, rfl⟩))
    (fun os started H enc _ => lifted os started H enc)
theorem proved : Rows.ExtentKeepsSaid := over
#print axioms proved
end Go.Proofs.Ytpmhlomilobgaaa.extentKeeps
namespace Go.Proofs.Ytpmhlomilobgaaa
/-- The row, under a short name, for the claim. -/
theorem extentKeeps_holds : Rows.ExtentKeepsSaid := extentKeeps.proved
end Go.Proofs.Ytpmhlomilobgaaa
