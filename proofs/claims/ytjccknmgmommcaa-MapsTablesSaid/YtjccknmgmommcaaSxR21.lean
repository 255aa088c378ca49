/- The statement MapsTablesSaid: for every input the law returns true, and its arguments read behind the call as they did before. No condition. -/
import Derived.Test.YtjccknmgmommcaaSxT2
import Derived.Test.YtjccknmgmommcaaSxEc
import Derived.Test.YtjccknmgmommcaaRows
import Derived.WalkKit
import Derived.ProofKit
import Derived.OpenShut
import Derived.ShutString
import Derived.ChangeOld
import Derived.Below
import Derived.SizedLaws
namespace Go.Proofs.Ytjccknmgmommcaa.Sx.MapsTables
open Go.ChangeShapes Go.WideShapes Go.ChangeAt Go.RowKit
open Go.ChangeMaps (open_string shut_string)
open Go.Proofs.Ytjccknmgmommcaa.Sx Go.Proofs.Ytjccknmgmommcaa.Sx.Tb Go.Proofs
set_option linter.unusedVariables false
theorem own : ownKnob Try.prog.godebug = none := by kernel_rfl
theorem laidOut : laidOutB Try.prog = true := by kernel_rfl

set_option maxRecDepth 100000 in
theorem entAT : AT Try.prog 72 3 (fun x : ER => [.v (.int .i64 x.kind), .v (.int .i64 x.cl), .v (.bool x.own)]) (fun x => (Lit.int .i64 x.kind).wf = true ∧ (Lit.int .i64 x.cl).wf = true ∧ True) :=
  AT.iso (AT.struct Try.underlying72 (by kernel_rfl) (ATs.cons (AT.int Try.underlying3) rfl (by kernel_rfl) (ATs.cons (AT.int Try.underlying2) rfl (by kernel_rfl) (ATs.last (AT.bool Try.underlying4) rfl (by kernel_rfl)))))
    (fun y => (⟨y.1, y.2.1, y.2.2⟩ : ER)) (fun _ => rfl) (fun _ h => h)
set_option maxRecDepth 100000 in
theorem lifted (os : Os) (started : os.Started) (H : Type) (enc : TypeId × Value → H) :
    ReturnsInHanded {} Try.checked os 7 .any (Go.Proofs.Ytjccknmgmommcaa.Rows.mapsTablesSpec.pre6 enc Try.prog Try.f7 Go.Proofs.Ytjccknmgmommcaa.Rows.mapsTablesRow.domain false) (Go.Proofs.Ytjccknmgmommcaa.Rows.mapsTablesSpec.post enc Try.prog Try.f7 false true false false) := by
  refine returnsInHanded_of_change_sized (C := Try.checked) own started (by kernel_rfl) Try.func7
    (ChangeSpec.witness6 (enc := enc) (C := Try.checked) false ⟨#[], #[.int .i64 0, .slice none 0 0, .slice none 0 0], []⟩ 8 (by kernel_rfl) (by kernel_rfl) (by kernel_rfl) (by kernel_rfl)) ?_
  intro W base args ds gs before hval0 hW hcnd hsz0 _
  have hval : ∀ (j : Nat) t v, Try.f7.params[j]? = some t → args[j]? = some v → Value.okWide Try.prog W .any base t v := hval0
  have hW' := hW
  obtain ⟨p, q, hA0, hV, rfl, hfz, hnd⟩ := hW
  have hA : DataW.TrodAll enc Try.prog W 0 (fun _ => true) true Try.f7.params.toList args.toList ds p := hA0
  rw [Try.params7] at hA hval
  obtain ⟨v0, vs0, d0, ds0, p0, q0, hargs, rfl, rfl, h0, r0⟩ := trodAll_cons hA
  obtain ⟨v1, vs1, d1, ds1, p1, q1, rfl, rfl, rfl, h1, r1⟩ := trodAll_cons r0
  obtain ⟨v2, vs2, d2, ds2, p2, q2, rfl, rfl, rfl, h2, r2⟩ := trodAll_cons r1
  obtain ⟨rfl, rfl, rfl⟩ := trodAll_nil r2
  obtain rfl : args = #[v0, v1, v2] := by cases args; simp_all
  obtain ⟨rfl, rfl⟩ := trodVars_none hV
  have k1 := h1
  have lt1 : ∀ x ∈ p1, x.block < W.heap.size := by obtain ⟨m, hm⟩ := k1; exact DataW.trod_lt m _ _ _ hm
  have k2 := h2
  have lt2 : ∀ x ∈ p2, x.block < W.heap.size := by obtain ⟨m, hm⟩ := k2; exact DataW.trod_lt m _ _ _ hm
  obtain ⟨a0, rfl, rfl, rfl, w0⟩ := open_int Try.underlying2 (hval 0 2 v0 rfl rfl) h0
  have R0 : Reps (fun _ => none) (J1 W) W [.v (.int .i64 a0)] [.int .i64 a0] := .cons (.v _) .nil
  obtain ⟨a1, R1, g1⟩ := arg_slice Try.underlying55 (AT.ints Try.underlying55 (by kernel_rfl) Try.underlying2) (hval 1 55 v1 rfl rfl) h1
  obtain ⟨a2, R2, g2⟩ := arg_slice Try.underlying56 (AT.recs (⟨0, 0, false⟩ : ER) Try.underlying56 (by kernel_rfl) (by decide) entAT) (hval 2 56 v2 rfl rfl) h2
  have hR := (R0.append (R1.append R2))
  refine (evFunc_row (T := tab) (g := []) (pl := p7) mix Try.func7 hR (by rw [Try.ntmps7]; exact Nat.le_of_ble_eq_true rfl) (mtables_c a0 a1 a2 _ ⟨inR_of_wf w0, fun v hv => inR_of_wf (g1.2 v hv), fun x hx => ⟨inR_of_wf (g2.2 x hx).1, inR_of_wf (g2.2 x hx).2.1⟩, (by have := g1.1; simp only [maxLen] at this; omega), (by have := g2.1; simp only [maxLen] at this; omega)⟩ rfl)).mono fun e W' hh => ?_
  obtain ⟨he, bel⟩ := hh
  subst he
  exact ⟨_, rfl, _, _, _, [], _, [], hW', trodAll_mk1 (shut_bool Try.underlying4 _), (trodAll_cons_mk (shut_int Try.underlying2 w0) (trodAll_cons_mk (Below.trod laidOut (by kernel_rfl) (of_decide_eq_true (by kernel_rfl)) k1 bel lt1) (trodAll_cons_mk (Below.trod laidOut (by kernel_rfl) (of_decide_eq_true (by kernel_rfl)) k2 bel lt2) trodAll_mk0))), rfl, bel.frame _, fun h => by cases h⟩
set_option maxRecDepth 100000 in
theorem over : Go.Proofs.Ytjccknmgmommcaa.Rows.mapsTablesRow.holds Go.Proofs.Ytjccknmgmommcaa.Try.pinned (OpenSpec.ofChange Go.Proofs.Ytjccknmgmommcaa.Rows.mapsTablesSpec) :=
  OpenClaim.holds_of_wide 7 Try.f7 rfl rfl rfl rfl rfl rfl rfl ⟨rfl, rfl, rfl, rfl, rfl⟩ rfl rfl rfl rfl rfl (by kernel_rfl) Try.func7 (by kernel_rfl)
    (of_decide_eq_true (by kernel_rfl)) (by unfold Func.isWrapper; first | (rw [if_pos (by decide +kernel)]; kernel_rfl) | (rw [if_neg (by decide +kernel)]; exact ⟨rfl, rfl⟩))
    (fun os started H enc _ => lifted os started H enc)
theorem proved : Go.Proofs.Ytjccknmgmommcaa.Rows.MapsTablesSaid := over
#print axioms proved
end Go.Proofs.Ytjccknmgmommcaa.Sx.MapsTables
namespace Go.Proofs.Ytjccknmgmommcaa
/-- The row, under a short name, for the claim. -/
theorem mapsTables_holds : Rows.MapsTablesSaid := Go.Proofs.Ytjccknmgmommcaa.Sx.MapsTables.proved
end Go.Proofs.Ytjccknmgmommcaa

