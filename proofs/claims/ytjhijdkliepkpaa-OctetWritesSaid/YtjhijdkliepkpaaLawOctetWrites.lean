/- The statement OctetWritesSaid: for every input the law returns true, and its arguments read behind the call as they did before. No condition. -/
import Derived.Test.YtjhijdkliepkpaaRows
import Derived.Test.YtjhijdkliepkpaaKt
import Derived.Test.YtjhijdkliepkpaaPOctx4
import Derived.Test.YtjhijdkliepkpaaPureOctetWrites
import Derived.WalkKit
import Derived.ProofKit
import Derived.OpenShut
import Derived.ShutString
import Derived.ChangeOld
import Derived.Below
import Derived.SizedLaws
namespace Go.Proofs.Ytjhijdkliepkpaa.octetWrites
open Go.ChangeShapes Go.WideShapes Go.ChangeAt Go.RowKit
open Go.ChangeMaps (open_string shut_string)
open Go.Proofs.Ytjhijdkliepkpaa.POct Go.Proofs.YtjhijdkliepkpaaW.PrintWords
set_option linter.unusedVariables false
theorem own : ownKnob Try.prog.godebug = none := by kernel_rfl
theorem laidOut : laidOutB Try.prog = true := by kernel_rfl
set_option maxRecDepth 100000 in
theorem lifted (os : Os) (started : os.Started) (H : Type) (enc : TypeId × Value → H) :
    ReturnsInHanded {} Try.checked os 8 .any (Rows.octetWritesSpec.pre6 enc Try.prog Try.f8 Rows.octetWritesRow.domain false) (Rows.octetWritesSpec.post enc Try.prog Try.f8 false true false false) := by
  refine returnsInHanded_of_change_sized (C := Try.checked) own started (by kernel_rfl) Try.func8
    (ChangeSpec.witness6 (enc := enc) (C := Try.checked) false ⟨#[], #[.agg #[.slice none 0 0, .int .i64 0, .int .i64 0, .int .u64 0]], []⟩ 8 (by kernel_rfl) (by kernel_rfl) (by kernel_rfl) (by kernel_rfl)) ?_
  intro W base args ds gs before hval0 hW hcnd hsz0 _
  have hval : ∀ (j : Nat) t v, Try.f8.params[j]? = some t → args[j]? = some v → Value.okWide Try.prog W .any base t v := hval0
  have hW' := hW
  obtain ⟨p, q, hA0, hV, rfl, hfz, hnd⟩ := hW
  have hA : DataW.TrodAll enc Try.prog W 0 (fun _ => true) true Try.f8.params.toList args.toList ds p := hA0
  rw [Try.params8] at hA hval
  obtain ⟨v0, vs0, d0, ds0, p0, q0, hargs, rfl, rfl, h0, r0⟩ := trodAll_cons hA
  obtain ⟨rfl, rfl, rfl⟩ := trodAll_nil r0
  obtain rfl : args = #[v0] := by cases args; simp_all
  obtain ⟨rfl, rfl⟩ := trodVars_none hV
  have k0 := h0
  have lt0 : ∀ x ∈ p0, x.block < W.heap.size := by obtain ⟨m, hm⟩ := k0; exact DataW.trod_lt m _ _ _ hm
  obtain ⟨cs0, y0, rfl, hk0, hg0⟩ := Kt.arg_struct Try.underlying53 (Kt.KT.iso (f := (fun x : S53 => (x.f0, x.f1, x.f2, x.f3))) (Kt.KT.struct Try.underlying53 (by kernel_rfl) (Kt.KTs.cons (Kt.KT.slice Try.underlying22 (by kernel_rfl) (Kt.KT.int Try.underlying5)) rfl (by kernel_rfl) (Kt.KTs.cons (Kt.KT.int Try.underlying3) rfl (by kernel_rfl) (Kt.KTs.cons (Kt.KT.int Try.underlying3) rfl (by kernel_rfl) (Kt.KTs.last (Kt.KT.int Try.underlying30) rfl (by kernel_rfl)))))) (fun y => (⟨y.1, y.2.1, y.2.2.1, y.2.2.2⟩ : S53)) (fun _ => rfl)) (hval 0 53 v0 rfl rfl) h0
  obtain ⟨A0_0, c0_0, rfl, hl0_0, hC0_0⟩ := k53_open hk0
  clear hA0 hval0 hsz0
  obtain ⟨k, h⟩ := Pure.OctetWrites y0.f0 y0.f1 y0.f2 y0.f3 hg0.1.1 hg0.1.2 hg0.2.1 hg0.2.2.1 hg0.2.2.2
  refine (fettlelaw01_OctetWrites.calls k A0_0 c0_0 y0.f0 y0.f1 y0.f2 y0.f3 true W hC0_0 hl0_0 h).mono fun e W' hh => ?_
  obtain ⟨he, hd⟩ := hh
  have bel : Below W.heap.size W W' := hd
  subst he
  exact ⟨_, rfl, _, _, _, [], _, [], hW', trodAll_mk1 (shut_bool Try.underlying4 _), (trodAll_cons_mk (Below.trod laidOut (by kernel_rfl) (of_decide_eq_true (by kernel_rfl)) k0 bel lt0) trodAll_mk0), rfl, bel.frame _, fun h => by cases h⟩
theorem over : Rows.octetWritesRow.holds Try.pinned (OpenSpec.ofChange Rows.octetWritesSpec) :=
  OpenClaim.holds_of_wide 8 Try.f8 rfl rfl rfl rfl rfl rfl rfl ⟨rfl, rfl, rfl, rfl, rfl⟩ rfl rfl rfl rfl rfl (by kernel_rfl) Try.func8 (by kernel_rfl)
    (of_decide_eq_true (by kernel_rfl)) (by unfold Func.isWrapper; first | (rw [if_pos (by decide +kernel)]; kernel_rfl) | (rw [if_neg (by decide +kernel)]; exact ⟨rfl, rfl⟩))
    (fun os started H enc _ => lifted os started H enc)
theorem proved : Rows.OctetWritesSaid := over
#print axioms proved
end Go.Proofs.Ytjhijdkliepkpaa.octetWrites
namespace Go.Proofs.Ytjhijdkliepkpaa
/-- The row, under a short name, for the claim. -/
theorem octetWrites_holds : Rows.OctetWritesSaid := octetWrites.proved
end Go.Proofs.Ytjhijdkliepkpaa
