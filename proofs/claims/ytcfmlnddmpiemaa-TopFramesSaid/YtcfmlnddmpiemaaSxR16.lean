/- The statement TopFramesSaid: for every input the law returns true, and its arguments read behind the call as they did before. No condition. -/
import Derived.Test.YtcfmlnddmpiemaaSxU3
import Derived.Test.YtcfmlnddmpiemaaSxEc
import Derived.Test.YtcfmlnddmpiemaaRows
import Derived.WalkKit
import Derived.ProofKit
import Derived.OpenShut
import Derived.ShutString
import Derived.ChangeOld
import Derived.Below
import Derived.SizedLaws
namespace Go.Proofs.Ytcfmlnddmpiemaa.Sx.TopFrames
open Go.ChangeShapes Go.WideShapes Go.ChangeAt Go.RowKit
open Go.ChangeMaps (open_string shut_string)
open Go.Proofs.Ytcfmlnddmpiemaa.Sx Go.Proofs.Ytcfmlnddmpiemaa.Sx.Tb Go.Proofs
set_option linter.unusedVariables false
theorem own : ownKnob Try.prog.godebug = none := by kernel_rfl
theorem laidOut : laidOutB Try.prog = true := by kernel_rfl

theorem B8_of_wf {l : List Int} (h : ∀ y ∈ l, (Lit.int .u8 y).wf = true) : B8 l := fun y hy => by
  have := inR_of_wf (h y hy)
  simp only [inR] at this
  omega
set_option maxRecDepth 100000 in
theorem framesAT : AT Try.prog 101 4 (fun x : List (List Int) × Int × Int × Int => [.im true 1 x.1.length (partsC true x.1), .v (.int .i64 x.2.1), .v (.int .i64 x.2.2.1), .v (.int .u32 x.2.2.2)]) (fun x => (x.1.length ≤ maxLen ∧ ∀ p ∈ x.1, p.length ≤ maxLen ∧ ∀ y ∈ p, (Lit.int .u8 y).wf = true) ∧ (Lit.int .i64 x.2.1).wf = true ∧ (Lit.int .i64 x.2.2.1).wf = true ∧ (Lit.int .u32 x.2.2.2).wf = true) :=
  AT.struct Try.underlying101 (by kernel_rfl) (ATs.cons (AT.recs ([] : List Int) Try.underlying62 (by kernel_rfl) (by decide) (AT.ints Try.underlying29 (by kernel_rfl) Try.underlying5)) rfl (by kernel_rfl) (ATs.cons (AT.int Try.underlying3) rfl (by kernel_rfl) (ATs.cons (AT.int Try.underlying3) rfl (by kernel_rfl) (ATs.last (AT.int Try.underlying99) rfl (by kernel_rfl)))))
set_option maxRecDepth 100000 in
theorem lifted (os : Os) (started : os.Started) (H : Type) (enc : TypeId × Value → H) :
    ReturnsInHanded {} Try.checked os 7 .any (Go.Proofs.Ytcfmlnddmpiemaa.Rows.topFramesSpec.pre6 enc Try.prog Try.f7 Go.Proofs.Ytcfmlnddmpiemaa.Rows.topFramesRow.domain false) (Go.Proofs.Ytcfmlnddmpiemaa.Rows.topFramesSpec.post enc Try.prog Try.f7 false true false false) := by
  refine returnsInHanded_of_change_sized (C := Try.checked) own started (by kernel_rfl) Try.func7
    (ChangeSpec.witness6 (enc := enc) (C := Try.checked) false ⟨#[], #[.agg #[.slice none 0 0, .int .i64 0, .int .i64 0, .int .u32 0]], []⟩ 8 (by kernel_rfl) (by kernel_rfl) (by kernel_rfl) (by kernel_rfl)) ?_
  intro W base args ds gs before hval0 hW hcnd hsz0 _
  have hval : ∀ (j : Nat) t v, Try.f7.params[j]? = some t → args[j]? = some v → Value.okWide Try.prog W .any base t v := hval0
  have hW' := hW
  obtain ⟨p, q, hA0, hV, rfl, hfz, hnd⟩ := hW
  have hA : DataW.TrodAll enc Try.prog W 0 (fun _ => true) true Try.f7.params.toList args.toList ds p := hA0
  rw [Try.params7] at hA hval
  obtain ⟨v0, vs0, d0, ds0, p0, q0, hargs, rfl, rfl, h0, r0⟩ := trodAll_cons hA
  obtain ⟨rfl, rfl, rfl⟩ := trodAll_nil r0
  obtain rfl : args = #[v0] := by cases args; simp_all
  obtain ⟨rfl, rfl⟩ := trodVars_none hV
  have k0 := h0
  have lt0 : ∀ x ∈ p0, x.block < W.heap.size := by obtain ⟨m, hm⟩ := k0; exact DataW.trod_lt m _ _ _ hm
  obtain ⟨a0, R0, g0⟩ := arg_struct Try.underlying101 framesAT (hval 0 101 v0 rfl rfl) h0
  have hR := R0
  refine (evFunc_row (T := tab) (g := []) (pl := p7) mix Try.func7 hR (by rw [Try.ntmps7]; exact Nat.le_of_ble_eq_true rfl) (topframes_c a0.1 a0.2.1 a0.2.2.1 a0.2.2.2 _ ⟨(by have := g0.1.1; simp only [maxLen] at this; omega), (fun p hp => ⟨B8_of_wf (g0.1.2 p hp).2, (by have := (g0.1.2 p hp).1; simp only [maxLen] at this; omega)⟩), inR_of_wf g0.2.1, inR_of_wf g0.2.2.1, (by have := inR_of_wf g0.2.2.2; simp only [inR] at this; omega)⟩ rfl)).mono fun e W' hh => ?_
  obtain ⟨he, bel⟩ := hh
  subst he
  exact ⟨_, rfl, _, _, _, [], _, [], hW', trodAll_mk1 (shut_bool Try.underlying4 _), (trodAll_cons_mk (Below.trod laidOut (by kernel_rfl) (of_decide_eq_true (by kernel_rfl)) k0 bel lt0) trodAll_mk0), rfl, bel.frame _, fun h => by cases h⟩
set_option maxRecDepth 100000 in
theorem over : Go.Proofs.Ytcfmlnddmpiemaa.Rows.topFramesRow.holds Go.Proofs.Ytcfmlnddmpiemaa.Try.pinned (OpenSpec.ofChange Go.Proofs.Ytcfmlnddmpiemaa.Rows.topFramesSpec) :=
  OpenClaim.holds_of_wide 7 Try.f7 rfl rfl rfl rfl rfl rfl rfl ⟨rfl, rfl, rfl, rfl, rfl⟩ rfl rfl rfl rfl rfl (by kernel_rfl) Try.func7 (by kernel_rfl)
    (of_decide_eq_true (by kernel_rfl)) (by unfold Func.isWrapper; first | (rw [if_pos (by decide +kernel)]; kernel_rfl) | (rw [if_neg (by decide +kernel)]; exact ⟨rfl, rfl⟩))
    (fun os started H enc _ => lifted os started H enc)
theorem proved : Go.Proofs.Ytcfmlnddmpiemaa.Rows.TopFramesSaid := over
#print axioms proved
end Go.Proofs.Ytcfmlnddmpiemaa.Sx.TopFrames
namespace Go.Proofs.Ytcfmlnddmpiemaa
/-- The row, under a short name, for the claim. -/
theorem topFrames_holds : Rows.TopFramesSaid := Go.Proofs.Ytcfmlnddmpiemaa.Sx.TopFrames.proved
end Go.Proofs.Ytcfmlnddmpiemaa

