/- The statement TxCrashesSaid: for every input the law returns true, and its arguments read behind the call as they did before. No condition. -/
import Derived.Test.YtcfmlnddmpiemaaSxU7
import Derived.Test.YtcfmlnddmpiemaaSxEc
import Derived.Test.YtcfmlnddmpiemaaRows
import Derived.WalkKit
import Derived.ProofKit
import Derived.OpenShut
import Derived.ShutString
import Derived.ChangeOld
import Derived.Below
import Derived.SizedLaws
namespace Go.Proofs.Ytcfmlnddmpiemaa.Sx.TxCrashes
open Go.ChangeShapes Go.WideShapes Go.ChangeAt Go.RowKit
open Go.ChangeMaps (open_string shut_string)
open Go.Proofs.Ytcfmlnddmpiemaa.Sx Go.Proofs.Ytcfmlnddmpiemaa.Sx.Tb Go.Proofs
set_option linter.unusedVariables false
theorem own : ownKnob Try.prog.godebug = none := by kernel_rfl
theorem laidOut : laidOutB Try.prog = true := by kernel_rfl

set_option maxRecDepth 100000 in
theorem opxAT : AT Try.prog 85 4 (opAV true) (fun o : OpR => (Lit.int .i64 o.kind).wf = true ∧ (Lit.int .i64 o.pos).wf = true ∧ (Lit.int .i64 o.n).wf = true ∧ o.b.length ≤ maxLen ∧ ∀ y ∈ o.b, (Lit.int .u8 y).wf = true) :=
  AT.iso (AT.struct Try.underlying85 (by kernel_rfl) (ATs.cons (AT.int Try.underlying3) rfl (by kernel_rfl) (ATs.cons (AT.int Try.underlying3) rfl (by kernel_rfl) (ATs.cons (AT.int Try.underlying3) rfl (by kernel_rfl) (ATs.last (AT.ints Try.underlying29 (by kernel_rfl) Try.underlying5) rfl (by kernel_rfl))))))
    (fun y => (⟨y.1, y.2.1, y.2.2.1, y.2.2.2⟩ : OpR)) (fun _ => rfl) (fun _ h => h)
theorem B8_of_wf {l : List Int} (h : ∀ y ∈ l, (Lit.int .u8 y).wf = true) : B8 l := fun y hy => by
  have := inR_of_wf (h y hy)
  simp only [inR] at this
  omega

set_option maxRecDepth 100000 in
theorem crash6AT : AT Try.prog 95 5 (fun x : Int × Int × List OpR × Int × List Bool => [.v (.int .i64 x.1), .v (.int .u8 x.2.1), .im true 4 x.2.2.1.length (opsC true x.2.2.1), .v (.int .i64 x.2.2.2.1), .im true 1 x.2.2.2.2.length (boolsC x.2.2.2.2)]) (fun x => (Lit.int .i64 x.1).wf = true ∧ (Lit.int .u8 x.2.1).wf = true ∧ (x.2.2.1.length ≤ maxLen ∧ ∀ o ∈ x.2.2.1, (Lit.int .i64 o.kind).wf = true ∧ (Lit.int .i64 o.pos).wf = true ∧ (Lit.int .i64 o.n).wf = true ∧ o.b.length ≤ maxLen ∧ ∀ y ∈ o.b, (Lit.int .u8 y).wf = true) ∧ (Lit.int .i64 x.2.2.2.1).wf = true ∧ x.2.2.2.2.length ≤ maxLen ∧ ∀ y ∈ x.2.2.2.2, True) :=
  AT.struct Try.underlying95 (by kernel_rfl) (ATs.cons (AT.int Try.underlying3) rfl (by kernel_rfl) (ATs.cons (AT.int Try.underlying5) rfl (by kernel_rfl) (ATs.cons (AT.recs OpR.z Try.underlying77 (by kernel_rfl) (by decide) opxAT) rfl (by kernel_rfl) (ATs.last (AT.struct Try.underlying93 (by kernel_rfl) (ATs.cons (AT.int Try.underlying3) rfl (by kernel_rfl) (ATs.last (AT.bools Try.underlying23 (by kernel_rfl) Try.underlying4) rfl (by kernel_rfl)))) rfl (by kernel_rfl)))))
set_option maxRecDepth 100000 in
theorem lifted (os : Os) (started : os.Started) (H : Type) (enc : TypeId × Value → H) :
    ReturnsInHanded {} Try.checked os 6 .any (Go.Proofs.Ytcfmlnddmpiemaa.Rows.txCrashesSpec.pre6 enc Try.prog Try.f6 Go.Proofs.Ytcfmlnddmpiemaa.Rows.txCrashesRow.domain false) (Go.Proofs.Ytcfmlnddmpiemaa.Rows.txCrashesSpec.post enc Try.prog Try.f6 false true false false) := by
  refine returnsInHanded_of_change_sized (C := Try.checked) own started (by kernel_rfl) Try.func6
    (ChangeSpec.witness6 (enc := enc) (C := Try.checked) false ⟨#[], #[.agg #[.int .i64 0, .int .u8 0, .slice none 0 0, .int .i64 0, .slice none 0 0]], []⟩ 8 (by kernel_rfl) (by kernel_rfl) (by kernel_rfl) (by kernel_rfl)) ?_
  intro W base args ds gs before hval0 hW hcnd hsz0 _
  have hval : ∀ (j : Nat) t v, Try.f6.params[j]? = some t → args[j]? = some v → Value.okWide Try.prog W .any base t v := hval0
  have hW' := hW
  obtain ⟨p, q, hA0, hV, rfl, hfz, hnd⟩ := hW
  have hA : DataW.TrodAll enc Try.prog W 0 (fun _ => true) true Try.f6.params.toList args.toList ds p := hA0
  rw [Try.params6] at hA hval
  obtain ⟨v0, vs0, d0, ds0, p0, q0, hargs, rfl, rfl, h0, r0⟩ := trodAll_cons hA
  obtain ⟨rfl, rfl, rfl⟩ := trodAll_nil r0
  obtain rfl : args = #[v0] := by cases args; simp_all
  obtain ⟨rfl, rfl⟩ := trodVars_none hV
  have k0 := h0
  have lt0 : ∀ x ∈ p0, x.block < W.heap.size := by obtain ⟨m, hm⟩ := k0; exact DataW.trod_lt m _ _ _ hm
  obtain ⟨a0, R0, g0⟩ := arg_struct Try.underlying95 crash6AT (hval 0 95 v0 rfl rfl) h0
  have hR := R0
  refine (evFunc_row (T := tab) (g := [148]) (pl := p6) mix Try.func6 hR (by rw [Try.ntmps6]; exact Nat.le_of_ble_eq_true rfl) (txcrashes_c a0.1 a0.2.1 a0.2.2.1 a0.2.2.2.1 a0.2.2.2.2 _ ⟨inR_of_wf g0.1, (by have := inR_of_wf g0.2.1; simp only [inR] at this; omega), (by have := g0.2.2.1.1; simp only [maxLen] at this; omega), (fun o ho => ⟨inR_of_wf (g0.2.2.1.2 o ho).1, inR_of_wf (g0.2.2.1.2 o ho).2.1, inR_of_wf (g0.2.2.1.2 o ho).2.2.1, B8_of_wf (g0.2.2.1.2 o ho).2.2.2.2⟩), inR_of_wf g0.2.2.2.1, (by have := g0.2.2.2.2.1; simp only [maxLen] at this; omega)⟩ rfl)).mono fun e W' hh => ?_
  obtain ⟨he, bel⟩ := hh
  subst he
  exact ⟨_, rfl, _, _, _, [], _, [], hW', trodAll_mk1 (shut_bool Try.underlying4 _), (trodAll_cons_mk (Below.trod laidOut (by kernel_rfl) (of_decide_eq_true (by kernel_rfl)) k0 bel lt0) trodAll_mk0), rfl, bel.frame _, fun h => by cases h⟩
set_option maxRecDepth 100000 in
theorem over : Go.Proofs.Ytcfmlnddmpiemaa.Rows.txCrashesRow.holds Go.Proofs.Ytcfmlnddmpiemaa.Try.pinned (OpenSpec.ofChange Go.Proofs.Ytcfmlnddmpiemaa.Rows.txCrashesSpec) :=
  OpenClaim.holds_of_wide 6 Try.f6 rfl rfl rfl rfl rfl rfl rfl ⟨rfl, rfl, rfl, rfl, rfl⟩ rfl rfl rfl rfl rfl (by kernel_rfl) Try.func6 (by kernel_rfl)
    (of_decide_eq_true (by kernel_rfl)) (by unfold Func.isWrapper; first | (rw [if_pos (by decide +kernel)]; kernel_rfl) | (rw [if_neg (by decide +kernel)]; exact ⟨rfl, rfl⟩))
    (fun os started H enc _ => lifted os started H enc)
theorem proved : Go.Proofs.Ytcfmlnddmpiemaa.Rows.TxCrashesSaid := over
#print axioms proved
end Go.Proofs.Ytcfmlnddmpiemaa.Sx.TxCrashes
namespace Go.Proofs.Ytcfmlnddmpiemaa
/-- The row, under a short name, for the claim. -/
theorem txCrashes_holds : Rows.TxCrashesSaid := Go.Proofs.Ytcfmlnddmpiemaa.Sx.TxCrashes.proved
end Go.Proofs.Ytcfmlnddmpiemaa

