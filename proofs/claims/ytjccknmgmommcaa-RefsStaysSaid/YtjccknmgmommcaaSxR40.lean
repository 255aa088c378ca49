/- The statement RefsStaysSaid: for every input the law returns true, and its arguments read behind the call as they did before. No condition. -/
import Derived.Test.YtjccknmgmommcaaSxU9
import Derived.Test.YtjccknmgmommcaaSxEc
import Derived.Test.YtjccknmgmommcaaRows
import Derived.WalkKit
import Derived.ProofKit
import Derived.OpenShut
import Derived.ShutString
import Derived.ChangeOld
import Derived.Below
import Derived.SizedLaws
namespace Go.Proofs.Ytjccknmgmommcaa.Sx.RefsStays
open Go.ChangeShapes Go.WideShapes Go.ChangeAt Go.RowKit
open Go.ChangeMaps (open_string shut_string)
open Go.Proofs.Ytjccknmgmommcaa.Sx Go.Proofs.Ytjccknmgmommcaa.Sx.Tb Go.Proofs
set_option linter.unusedVariables false
theorem own : ownKnob Try.prog.godebug = none := by kernel_rfl
theorem laidOut : laidOutB Try.prog = true := by kernel_rfl

set_option maxRecDepth 100000 in
theorem op8AT : AT Try.prog 101 3 op8AV (fun o : Op8 => (Lit.int .i64 o.kind).wf = true ∧ (Lit.int .i64 o.n).wf = true ∧ (Lit.int .i64 o.v).wf = true) :=
  AT.iso (AT.struct Try.underlying101 (by kernel_rfl) (ATs.cons (AT.int Try.underlying3) rfl (by kernel_rfl) (ATs.cons (AT.int Try.underlying2) rfl (by kernel_rfl) (ATs.last (AT.int Try.underlying3) rfl (by kernel_rfl)))))
    (fun y => (⟨y.1, y.2.1, y.2.2⟩ : Op8)) (fun _ => rfl) (fun _ h => h)
set_option maxRecDepth 100000 in
theorem lifted (os : Os) (started : os.Started) (H : Type) (enc : TypeId × Value → H) :
    ReturnsInHanded {} Try.checked os 10 .any (Go.Proofs.Ytjccknmgmommcaa.Rows.refsStaysSpec.pre6 enc Try.prog Try.f10 Go.Proofs.Ytjccknmgmommcaa.Rows.refsStaysRow.domain false) (Go.Proofs.Ytjccknmgmommcaa.Rows.refsStaysSpec.post enc Try.prog Try.f10 false true false false) := by
  refine returnsInHanded_of_change_sized (C := Try.checked) own started (by kernel_rfl) Try.func10
    (ChangeSpec.witness6 (enc := enc) (C := Try.checked) false ⟨#[], #[.int .i64 0, .slice none 0 0], []⟩ 8 (by kernel_rfl) (by kernel_rfl) (by kernel_rfl) (by kernel_rfl)) ?_
  intro W base args ds gs before hval0 hW hcnd hsz0 _
  have hval : ∀ (j : Nat) t v, Try.f10.params[j]? = some t → args[j]? = some v → Value.okWide Try.prog W .any base t v := hval0
  have hW' := hW
  obtain ⟨p, q, hA0, hV, rfl, hfz, hnd⟩ := hW
  have hA : DataW.TrodAll enc Try.prog W 0 (fun _ => true) true Try.f10.params.toList args.toList ds p := hA0
  rw [Try.params10] at hA hval
  obtain ⟨v0, vs0, d0, ds0, p0, q0, hargs, rfl, rfl, h0, r0⟩ := trodAll_cons hA
  obtain ⟨v1, vs1, d1, ds1, p1, q1, rfl, rfl, rfl, h1, r1⟩ := trodAll_cons r0
  obtain ⟨rfl, rfl, rfl⟩ := trodAll_nil r1
  obtain rfl : args = #[v0, v1] := by cases args; simp_all
  obtain ⟨rfl, rfl⟩ := trodVars_none hV
  have k1 := h1
  have lt1 : ∀ x ∈ p1, x.block < W.heap.size := by obtain ⟨m, hm⟩ := k1; exact DataW.trod_lt m _ _ _ hm
  obtain ⟨a0, rfl, rfl, rfl, w0⟩ := open_int Try.underlying3 (hval 0 3 v0 rfl rfl) h0
  have R0 : Reps (fun _ => none) (J1 W) W [.v (.int .i64 a0)] [.int .i64 a0] := .cons (.v _) .nil
  obtain ⟨a1, R1, g1⟩ := arg_slice Try.underlying98 (AT.recs Op8.z Try.underlying98 (by kernel_rfl) (by decide) op8AT) (hval 1 98 v1 rfl rfl) h1
  have hR := (R0.append R1)
  refine (evFunc_row (T := tab) (g := []) (pl := p10) mix Try.func10 hR (by rw [Try.ntmps10]; exact Nat.le_of_ble_eq_true rfl) (rstays_c a0 a1 _ ⟨inR_of_wf w0, (by have := g1.1; simp only [maxLen] at this; omega), fun o ho => ⟨inR_of_wf (g1.2 o ho).1, inR_of_wf (g1.2 o ho).2.1, inR_of_wf (g1.2 o ho).2.2⟩⟩ rfl)).mono fun e W' hh => ?_
  obtain ⟨he, bel⟩ := hh
  subst he
  exact ⟨_, rfl, _, _, _, [], _, [], hW', trodAll_mk1 (shut_bool Try.underlying4 _), (trodAll_cons_mk (shut_int Try.underlying3 w0) (trodAll_cons_mk (Below.trod laidOut (by kernel_rfl) (of_decide_eq_true (by kernel_rfl)) k1 bel lt1) trodAll_mk0)), rfl, bel.frame _, fun h => by cases h⟩
set_option maxRecDepth 100000 in
theorem over : Go.Proofs.Ytjccknmgmommcaa.Rows.refsStaysRow.holds Go.Proofs.Ytjccknmgmommcaa.Try.pinned (OpenSpec.ofChange Go.Proofs.Ytjccknmgmommcaa.Rows.refsStaysSpec) :=
  OpenClaim.holds_of_wide 10 Try.f10 rfl rfl rfl rfl rfl rfl rfl ⟨rfl, rfl, rfl, rfl, rfl⟩ rfl rfl rfl rfl rfl (by kernel_rfl) Try.func10 (by kernel_rfl)
    (of_decide_eq_true (by kernel_rfl)) (by unfold Func.isWrapper; first | (rw [if_pos (by decide +kernel)]; kernel_rfl) | (rw [if_neg (by decide +kernel)]; exact ⟨rfl, rfl⟩))
    (fun os started H enc _ => lifted os started H enc)
theorem proved : Go.Proofs.Ytjccknmgmommcaa.Rows.RefsStaysSaid := over
#print axioms proved
end Go.Proofs.Ytjccknmgmommcaa.Sx.RefsStays
namespace Go.Proofs.Ytjccknmgmommcaa
/-- The row, under a short name, for the claim. -/
theorem refsStays_holds : Rows.RefsStaysSaid := Go.Proofs.Ytjccknmgmommcaa.Sx.RefsStays.proved
end Go.Proofs.Ytjccknmgmommcaa

