/- The statement HeaderPlacesSaid: for every input the law returns true, and its arguments read behind the call as they did before. No condition. -/
import Derived.Test.YtjhijdkliepkpaaRows
import Derived.Test.YtjhijdkliepkpaaKt
import Derived.Test.YtjhijdkliepkpaaPPlcx7
import Derived.Test.YtjhijdkliepkpaaPureHeaderPlaces
import Derived.WalkKit
import Derived.ProofKit
import Derived.OpenShut
import Derived.ShutString
import Derived.ChangeOld
import Derived.Below
import Derived.SizedLaws
namespace Go.Proofs.Ytjhijdkliepkpaa.headerPlaces
open Go.ChangeShapes Go.WideShapes Go.ChangeAt Go.RowKit
open Go.ChangeMaps (open_string shut_string)
open Go.Proofs.Ytjhijdkliepkpaa.PPlc Go.Proofs.YtjhijdkliepkpaaW.PrintWords
set_option linter.unusedVariables false
theorem own : ownKnob Try.prog.godebug = none := by kernel_rfl
theorem laidOut : laidOutB Try.prog = true := by kernel_rfl
set_option maxRecDepth 100000 in
theorem lifted (os : Os) (started : os.Started) (H : Type) (enc : TypeId × Value → H) :
    ReturnsInHanded {} Try.checked os 11 .any (Rows.headerPlacesSpec.pre6 enc Try.prog Try.f11 Rows.headerPlacesRow.domain false) (Rows.headerPlacesSpec.post enc Try.prog Try.f11 false true false false) := by
  refine returnsInHanded_of_change_sized (C := Try.checked) own started (by kernel_rfl) Try.func11
    (ChangeSpec.witness6 (enc := enc) (C := Try.checked) false ⟨#[], #[.agg #[.int .i64 0, .int .i64 0, .int .i64 0, .int .i64 0, .bool false]], []⟩ 8 (by kernel_rfl) (by kernel_rfl) (by kernel_rfl) (by kernel_rfl)) ?_
  intro W base args ds gs before hval0 hW hcnd hsz0 _
  have hval : ∀ (j : Nat) t v, Try.f11.params[j]? = some t → args[j]? = some v → Value.okWide Try.prog W .any base t v := hval0
  have hW' := hW
  obtain ⟨p, q, hA0, hV, rfl, hfz, hnd⟩ := hW
  have hA : DataW.TrodAll enc Try.prog W 0 (fun _ => true) true Try.f11.params.toList args.toList ds p := hA0
  rw [Try.params11] at hA hval
  obtain ⟨v0, vs0, d0, ds0, p0, q0, hargs, rfl, rfl, h0, r0⟩ := trodAll_cons hA
  obtain ⟨rfl, rfl, rfl⟩ := trodAll_nil r0
  obtain rfl : args = #[v0] := by cases args; simp_all
  obtain ⟨rfl, rfl⟩ := trodVars_none hV
  have k0 := h0
  have lt0 : ∀ x ∈ p0, x.block < W.heap.size := by obtain ⟨m, hm⟩ := k0; exact DataW.trod_lt m _ _ _ hm
  obtain ⟨cs0, y0, rfl, hk0, hg0⟩ := Kt.arg_struct Try.underlying69 (Kt.KT.iso (f := (fun x : S69 => (x.f0, x.f1, x.f2, x.f3, x.f4))) (Kt.KT.struct Try.underlying69 (by kernel_rfl) (Kt.KTs.cons (Kt.KT.int Try.underlying3) rfl (by kernel_rfl) (Kt.KTs.cons (Kt.KT.int Try.underlying2) rfl (by kernel_rfl) (Kt.KTs.cons (Kt.KT.int Try.underlying2) rfl (by kernel_rfl) (Kt.KTs.cons (Kt.KT.int Try.underlying2) rfl (by kernel_rfl) (Kt.KTs.last (Kt.KT.bool Try.underlying4) rfl (by kernel_rfl))))))) (fun y => (⟨y.1, y.2.1, y.2.2.1, y.2.2.2.1, y.2.2.2.2⟩ : S69)) (fun _ => rfl)) (hval 0 69 v0 rfl rfl) h0
  obtain rfl := k69_open hk0
  clear hA0 hval0 hsz0
  obtain ⟨k, h⟩ := Pure.HeaderPlaces y0.f0 y0.f1 y0.f2 y0.f3 y0.f4 hg0.1 hg0.2.1 hg0.2.2.1 hg0.2.2.2.1
  refine (fettlelaw07_HeaderPlaces.calls k y0.f0 y0.f1 y0.f2 y0.f3 y0.f4 true W  h).mono fun e W' hh => ?_
  obtain ⟨he, hd⟩ := hh
  have bel : Below W.heap.size W W' := hd
  subst he
  exact ⟨_, rfl, _, _, _, [], _, [], hW', trodAll_mk1 (shut_bool Try.underlying4 _), (trodAll_cons_mk (Below.trod laidOut (by kernel_rfl) (of_decide_eq_true (by kernel_rfl)) k0 bel lt0) trodAll_mk0), rfl, bel.frame _, fun h => by cases h⟩
theorem over : Rows.headerPlacesRow.holds Try.pinned (OpenSpec.ofChange Rows.headerPlacesSpec) :=
  OpenClaim.holds_of_wide 11 Try.f11 rfl rfl rfl rfl rfl rfl rfl ⟨rfl, rfl, rfl, rfl, rfl⟩ rfl rfl rfl rfl rfl (by kernel_rfl) Try.func11 (by kernel_rfl)
    (of_decide_eq_true (by kernel_rfl)) (by unfold Func.isWrapper; first | (rw [if_pos (by decide +kernel)]; kernel_rfl) | (rw [if_neg (by decide +kernel)]; exact ⟨rfl, rfl⟩))
    (fun os started H enc _ => lifted os started H enc)
theorem proved : Rows.HeaderPlacesSaid := over
#print axioms proved
end Go.Proofs.Ytjhijdkliepkpaa.headerPlaces
namespace Go.Proofs.Ytjhijdkliepkpaa
/-- The row, under a short name, for the claim. -/
theorem headerPlaces_holds : Rows.HeaderPlacesSaid := headerPlaces.proved
end Go.Proofs.Ytjhijdkliepkpaa
