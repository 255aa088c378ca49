/- The statement TxPlaysSaid: for every input the law returns true, and its arguments read behind the call as they did before. No condition. -/
import Derived.Test.YtjccknmgmommcaaSxU6
import Derived.Test.YtjccknmgmommcaaSxEc
import Derived.Test.YtjccknmgmommcaaRows
import Derived.WalkKit
import Derived.ProofKit
import Derived.OpenShut
import Derived.ShutString
import Derived.ChangeOld
import Derived.Below
import Derived.SizedLaws
namespace Go.Proofs.Ytjccknmgmommcaa.Sx.TxPlays
open Go.ChangeShapes Go.WideShapes Go.ChangeAt Go.RowKit
open Go.ChangeMaps (open_string shut_string)
open Go.Proofs.Ytjccknmgmommcaa.Sx Go.Proofs.Ytjccknmgmommcaa.Sx.Tb Go.Proofs
set_option linter.unusedVariables false
theorem own : ownKnob Try.prog.godebug = none := by kernel_rfl
theorem laidOut : laidOutB Try.prog = true := by kernel_rfl

set_option maxRecDepth 100000 in
theorem opxAT : AT Try.prog 140 4 (opAV true) (fun o : OpR => (Lit.int .i64 o.kind).wf = true ∧ (Lit.int .i64 o.pos).wf = true ∧ (Lit.int .i64 o.n).wf = true ∧ o.b.length ≤ maxLen ∧ ∀ y ∈ o.b, (Lit.int .u8 y).wf = true) :=
  AT.iso (AT.struct Try.underlying140 (by kernel_rfl) (ATs.cons (AT.int Try.underlying3) rfl (by kernel_rfl) (ATs.cons (AT.int Try.underlying3) rfl (by kernel_rfl) (ATs.cons (AT.int Try.underlying3) rfl (by kernel_rfl) (ATs.last (AT.ints Try.underlying22 (by kernel_rfl) Try.underlying5) rfl (by kernel_rfl))))))
    (fun y => (⟨y.1, y.2.1, y.2.2.1, y.2.2.2⟩ : OpR)) (fun _ => rfl) (fun _ h => h)
theorem B8_of_wf {l : List Int} (h : ∀ y ∈ l, (Lit.int .u8 y).wf = true) : B8 l := fun y hy => by
  have := inR_of_wf (h y hy)
  simp only [inR] at this
  omega
set_option maxRecDepth 100000 in
theorem lifted (os : Os) (started : os.Started) (H : Type) (enc : TypeId × Value → H) :
    ReturnsInHanded {} Try.checked os 14 .any (Go.Proofs.Ytjccknmgmommcaa.Rows.txPlaysSpec.pre6 enc Try.prog Try.f14 Go.Proofs.Ytjccknmgmommcaa.Rows.txPlaysRow.domain false) (Go.Proofs.Ytjccknmgmommcaa.Rows.txPlaysSpec.post enc Try.prog Try.f14 false true false false) := by
  refine returnsInHanded_of_change_sized (C := Try.checked) own started (by kernel_rfl) Try.func14
    (ChangeSpec.witness6 (enc := enc) (C := Try.checked) false ⟨#[], #[.int .i64 0, .int .u8 0, .slice none 0 0], []⟩ 8 (by kernel_rfl) (by kernel_rfl) (by kernel_rfl) (by kernel_rfl)) ?_
  intro W base args ds gs before hval0 hW hcnd hsz0 _
  have hval : ∀ (j : Nat) t v, Try.f14.params[j]? = some t → args[j]? = some v → Value.okWide Try.prog W .any base t v := hval0
  have hW' := hW
  obtain ⟨p, q, hA0, hV, rfl, hfz, hnd⟩ := hW
  have hA : DataW.TrodAll enc Try.prog W 0 (fun _ => true) true Try.f14.params.toList args.toList ds p := hA0
  rw [Try.params14] at hA hval
  obtain ⟨v0, vs0, d0, ds0, p0, q0, hargs, rfl, rfl, h0, r0⟩ := trodAll_cons hA
  obtain ⟨v1, vs1, d1, ds1, p1, q1, rfl, rfl, rfl, h1, r1⟩ := trodAll_cons r0
  obtain ⟨v2, vs2, d2, ds2, p2, q2, rfl, rfl, rfl, h2, r2⟩ := trodAll_cons r1
  obtain ⟨rfl, rfl, rfl⟩ := trodAll_nil r2
  obtain rfl : args = #[v0, v1, v2] := by cases args; simp_all
  obtain ⟨rfl, rfl⟩ := trodVars_none hV
  have k2 := h2
  have lt2 : ∀ x ∈ p2, x.block < W.heap.size := by obtain ⟨m, hm⟩ := k2; exact DataW.trod_lt m _ _ _ hm
  obtain ⟨a0, rfl, rfl, rfl, w0⟩ := open_int Try.underlying3 (hval 0 3 v0 rfl rfl) h0
  have R0 : Reps (fun _ => none) (J1 W) W [.v (.int .i64 a0)] [.int .i64 a0] := .cons (.v _) .nil
  obtain ⟨a1, rfl, rfl, rfl, w1⟩ := open_int Try.underlying5 (hval 1 5 v1 rfl rfl) h1
  have R1 : Reps (fun _ => none) (J1 W) W [.v (.int .u8 a1)] [.int .u8 a1] := .cons (.v _) .nil
  obtain ⟨a2, R2, g2⟩ := arg_slice Try.underlying136 (AT.recs OpR.z Try.underlying136 (by kernel_rfl) (by decide) opxAT) (hval 2 136 v2 rfl rfl) h2
  have hR := (R0.append (R1.append R2))
  refine (evFunc_row (T := tab) (g := [68]) (pl := p14) mix Try.func14 hR (by rw [Try.ntmps14]; exact Nat.le_of_ble_eq_true rfl) (txplays_c a0 a1 a2 _ ⟨inR_of_wf w0, (by have := inR_of_wf w1; simp only [inR] at this; omega), (by have := g2.1; simp only [maxLen] at this; omega), fun o ho => ⟨inR_of_wf (g2.2 o ho).1, inR_of_wf (g2.2 o ho).2.1, inR_of_wf (g2.2 o ho).2.2.1, B8_of_wf (g2.2 o ho).2.2.2.2⟩⟩ rfl)).mono fun e W' hh => ?_
  obtain ⟨he, bel⟩ := hh
  subst he
  exact ⟨_, rfl, _, _, _, [], _, [], hW', trodAll_mk1 (shut_bool Try.underlying4 _), (trodAll_cons_mk (shut_int Try.underlying3 w0) (trodAll_cons_mk (shut_int Try.underlying5 w1) (trodAll_cons_mk (Below.trod laidOut (by kernel_rfl) (of_decide_eq_true (by kernel_rfl)) k2 bel lt2) trodAll_mk0))), rfl, bel.frame _, fun h => by cases h⟩
set_option maxRecDepth 100000 in
theorem over : Go.Proofs.Ytjccknmgmommcaa.Rows.txPlaysRow.holds Go.Proofs.Ytjccknmgmommcaa.Try.pinned (OpenSpec.ofChange Go.Proofs.Ytjccknmgmommcaa.Rows.txPlaysSpec) :=
  OpenClaim.holds_of_wide 14 Try.f14 rfl rfl rfl rfl rfl rfl rfl ⟨rfl, rfl, rfl, rfl, rfl⟩ rfl rfl rfl rfl rfl (by kernel_rfl) Try.func14 (by kernel_rfl)
    (of_decide_eq_true (by kernel_rfl)) (by unfold Func.isWrapper; first | (rw [if_pos (by decide +kernel)]; kernel_rfl) | (rw [if_neg (by decide +kernel)]; exact ⟨rfl, rfl⟩))
    (fun os started H enc _ => lifted os started H enc)
theorem proved : Go.Proofs.Ytjccknmgmommcaa.Rows.TxPlaysSaid := over
#print axioms proved
end Go.Proofs.Ytjccknmgmommcaa.Sx.TxPlays
namespace Go.Proofs.Ytjccknmgmommcaa
/-- The row, under a short name, for the claim. -/
theorem txPlays_holds : Rows.TxPlaysSaid := Go.Proofs.Ytjccknmgmommcaa.Sx.TxPlays.proved
end Go.Proofs.Ytjccknmgmommcaa

