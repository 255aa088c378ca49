/- The statement RefsNilsSaid: for every input the law returns true, and its arguments read behind the call as they did before. No condition. -/
import Derived.Test.YtjccknmgmommcaaSxN6
import Derived.Test.YtjccknmgmommcaaSxEc
import Derived.Test.YtjccknmgmommcaaRows
import Derived.WalkKit
import Derived.ProofKit
import Derived.OpenShut
import Derived.ShutString
import Derived.ChangeOld
import Derived.Below
import Derived.SizedLaws
namespace Go.Proofs.Ytjccknmgmommcaa.Sx.RefsNils
open Go.ChangeShapes Go.WideShapes Go.ChangeAt Go.RowKit
open Go.ChangeMaps (open_string shut_string)
open Go.Proofs.Ytjccknmgmommcaa.Sx Go.Proofs.Ytjccknmgmommcaa.Sx.Tb Go.Proofs
set_option linter.unusedVariables false
theorem own : ownKnob Try.prog.godebug = none := by kernel_rfl
theorem laidOut : laidOutB Try.prog = true := by kernel_rfl

set_option maxRecDepth 100000 in
theorem hdAT : AT Try.prog 64 5 (fun x : HD => [.v (.int .i64 x.bits), .v (.int .i64 x.size), .v (.int .i64 x.host), .v (.int .i64 x.jr), .v (.bool x.backed)]) (fun x => (Lit.int .i64 x.bits).wf = true ∧ (Lit.int .i64 x.size).wf = true ∧ (Lit.int .i64 x.host).wf = true ∧ (Lit.int .i64 x.jr).wf = true ∧ True) :=
  AT.iso (AT.struct Try.underlying64 (by kernel_rfl) (ATs.cons (AT.int Try.underlying3) rfl (by kernel_rfl) (ATs.cons (AT.int Try.underlying2) rfl (by kernel_rfl) (ATs.cons (AT.int Try.underlying2) rfl (by kernel_rfl) (ATs.cons (AT.int Try.underlying2) rfl (by kernel_rfl) (ATs.last (AT.bool Try.underlying4) rfl (by kernel_rfl)))))))
    (fun y => (⟨y.1, y.2.1, y.2.2.1, y.2.2.2.1, y.2.2.2.2⟩ : HD)) (fun _ => rfl) (fun _ h => h)
theorem hdR {h : HD} (g : (Lit.int .i64 h.bits).wf = true ∧ (Lit.int .i64 h.size).wf = true ∧ (Lit.int .i64 h.host).wf = true ∧ (Lit.int .i64 h.jr).wf = true ∧ True) : hR h := ⟨inR_of_wf g.1, inR_of_wf g.2.1, inR_of_wf g.2.2.1, inR_of_wf g.2.2.2.1⟩
set_option maxRecDepth 100000 in
theorem lifted (os : Os) (started : os.Started) (H : Type) (enc : TypeId × Value → H) :
    ReturnsInHanded {} Try.checked os 9 .any (Go.Proofs.Ytjccknmgmommcaa.Rows.refsNilsSpec.pre6 enc Try.prog Try.f9 Go.Proofs.Ytjccknmgmommcaa.Rows.refsNilsRow.domain false) (Go.Proofs.Ytjccknmgmommcaa.Rows.refsNilsSpec.post enc Try.prog Try.f9 false true false false) := by
  refine returnsInHanded_of_change_sized (C := Try.checked) own started (by kernel_rfl) Try.func9
    (ChangeSpec.witness6 (enc := enc) (C := Try.checked) false ⟨#[], #[.agg #[.int .i64 0, .int .i64 0, .int .i64 0, .int .i64 0, .bool false], .int .i64 0], []⟩ 8 (by kernel_rfl) (by kernel_rfl) (by kernel_rfl) (by kernel_rfl)) ?_
  intro W base args ds gs before hval0 hW hcnd hsz0 _
  have hval : ∀ (j : Nat) t v, Try.f9.params[j]? = some t → args[j]? = some v → Value.okWide Try.prog W .any base t v := hval0
  have hW' := hW
  obtain ⟨p, q, hA0, hV, rfl, hfz, hnd⟩ := hW
  have hA : DataW.TrodAll enc Try.prog W 0 (fun _ => true) true Try.f9.params.toList args.toList ds p := hA0
  rw [Try.params9] at hA hval
  obtain ⟨v0, vs0, d0, ds0, p0, q0, hargs, rfl, rfl, h0, r0⟩ := trodAll_cons hA
  obtain ⟨v1, vs1, d1, ds1, p1, q1, rfl, rfl, rfl, h1, r1⟩ := trodAll_cons r0
  obtain ⟨rfl, rfl, rfl⟩ := trodAll_nil r1
  obtain rfl : args = #[v0, v1] := by cases args; simp_all
  obtain ⟨rfl, rfl⟩ := trodVars_none hV
  have k0 := h0
  have lt0 : ∀ x ∈ p0, x.block < W.heap.size := by obtain ⟨m, hm⟩ := k0; exact DataW.trod_lt m _ _ _ hm
  obtain ⟨a0, R0, g0⟩ := arg_struct Try.underlying64 hdAT (hval 0 64 v0 rfl rfl) h0
  obtain ⟨a1, rfl, rfl, rfl, w1⟩ := open_int Try.underlying2 (hval 1 2 v1 rfl rfl) h1
  have R1 : Reps (fun _ => none) (J1 W) W [.v (.int .i64 a1)] [.int .i64 a1] := .cons (.v _) .nil
  have hR := (R0.append R1)
  refine (evFunc_row (T := tab) (g := []) (pl := []) mix Try.func9 hR (by rw [Try.ntmps9]; exact Nat.le_of_ble_eq_true rfl) (rnils_c a0 a1 _ (hdR g0) rfl)).mono fun e W' hh => ?_
  obtain ⟨he, bel⟩ := hh
  subst he
  exact ⟨_, rfl, _, _, _, [], _, [], hW', trodAll_mk1 (shut_bool Try.underlying4 _), (trodAll_cons_mk (Below.trod laidOut (by kernel_rfl) (of_decide_eq_true (by kernel_rfl)) k0 bel lt0) (trodAll_cons_mk (shut_int Try.underlying2 w1) trodAll_mk0)), rfl, bel.frame _, fun h => by cases h⟩
set_option maxRecDepth 100000 in
theorem over : Go.Proofs.Ytjccknmgmommcaa.Rows.refsNilsRow.holds Go.Proofs.Ytjccknmgmommcaa.Try.pinned (OpenSpec.ofChange Go.Proofs.Ytjccknmgmommcaa.Rows.refsNilsSpec) :=
  OpenClaim.holds_of_wide 9 Try.f9 rfl rfl rfl rfl rfl rfl rfl ⟨rfl, rfl, rfl, rfl, rfl⟩ rfl rfl rfl rfl rfl (by kernel_rfl) Try.func9 (by kernel_rfl)
    (of_decide_eq_true (by kernel_rfl)) (by unfold Func.isWrapper; first | (rw [if_pos (by decide +kernel)]; kernel_rfl) | (rw [if_neg (by decide +kernel)]; exact ⟨rfl, rfl⟩))
    (fun os started H enc _ => lifted os started H enc)
theorem proved : Go.Proofs.Ytjccknmgmommcaa.Rows.RefsNilsSaid := over
#print axioms proved
end Go.Proofs.Ytjccknmgmommcaa.Sx.RefsNils
namespace Go.Proofs.Ytjccknmgmommcaa
/-- The row, under a short name, for the claim. -/
theorem refsNils_holds : Rows.RefsNilsSaid := Go.Proofs.Ytjccknmgmommcaa.Sx.RefsNils.proved
end Go.Proofs.Ytjccknmgmommcaa

