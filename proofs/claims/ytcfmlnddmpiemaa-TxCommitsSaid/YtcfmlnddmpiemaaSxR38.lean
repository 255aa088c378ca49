/- The statement TxCommitsSaid: for every input the law returns true, and its arguments read behind the call as they did before. No condition. -/
import Derived.Test.YtcfmlnddmpiemaaSxU7
import Derived.Test.YtcfmlnddmpiemaaSxEc
import Derived.Test.YtcfmlnddmpiemaaRows
import Derived.WalkKit
import Derived.ProofKit
import Derived.OpenShut
import Derived.ShutString
import Derived.ChangeOld
import Derived.Below
import Derived.SizedLaws
namespace Go.Proofs.Ytcfmlnddmpiemaa.Sx.TxCommits
open Go.ChangeShapes Go.WideShapes Go.ChangeAt Go.RowKit
open Go.ChangeMaps (open_string shut_string)
open Go.Proofs.Ytcfmlnddmpiemaa.Sx Go.Proofs.Ytcfmlnddmpiemaa.Sx.Tb Go.Proofs
set_option linter.unusedVariables false
theorem own : ownKnob Try.prog.godebug = none := by kernel_rfl
theorem laidOut : laidOutB Try.prog = true := by kernel_rfl

set_option maxRecDepth 100000 in
theorem opxAT : AT Try.prog 85 4 (opAV true) (fun o : OpR => (Lit.int .i64 o.kind).wf = true ∧ (Lit.int .i64 o.pos).wf = true ∧ (Lit.int .i64 o.n).wf = true ∧ o.b.length ≤ maxLen ∧ ∀ y ∈ o.b, (Lit.int .u8 y).wf = true) :=
  AT.iso (AT.struct Try.underlying85 (by kernel_rfl) (ATs.cons (AT.int Try.underlying3) rfl (by kernel_rfl) (ATs.cons (AT.int Try.underlying3) rfl (by kernel_rfl) (ATs.cons (AT.int Try.underlying3) rfl (by kernel_rfl) (ATs.last (AT.ints Try.underlying29 (by kernel_rfl) Try.underlying5) rfl (by kernel_rfl))))))
    (fun y => (⟨y.1, y.2.1, y.2.2.1, y.2.2.2⟩ : OpR)) (fun _ => rfl) (fun _ h => h)
theorem B8_of_wf {l : List Int} (h : ∀ y ∈ l, (Lit.int .u8 y).wf = true) : B8 l := fun y hy => by
  have := inR_of_wf (h y hy)
  simp only [inR] at this
  omega
set_option maxRecDepth 100000 in
theorem lifted (os : Os) (started : os.Started) (H : Type) (enc : TypeId × Value → H) :
    ReturnsInHanded {} Try.checked os 5 .any (Go.Proofs.Ytcfmlnddmpiemaa.Rows.txCommitsSpec.pre6 enc Try.prog Try.f5 Go.Proofs.Ytcfmlnddmpiemaa.Rows.txCommitsRow.domain false) (Go.Proofs.Ytcfmlnddmpiemaa.Rows.txCommitsSpec.post enc Try.prog Try.f5 false true false false) := by
  refine returnsInHanded_of_change_sized (C := Try.checked) own started (by kernel_rfl) Try.func5
    (ChangeSpec.witness6 (enc := enc) (C := Try.checked) false ⟨#[], #[.int .i64 0, .int .u8 0, .slice none 0 0], []⟩ 8 (by kernel_rfl) (by kernel_rfl) (by kernel_rfl) (by kernel_rfl)) ?_
  intro W base args ds gs before hval0 hW hcnd hsz0 _
  have hval : ∀ (j : Nat) t v, Try.f5.params[j]? = some t → args[j]? = some v → Value.okWide Try.prog W .any base t v := hval0
  have hW' := hW
  obtain ⟨p, q, hA0, hV, rfl, hfz, hnd⟩ := hW
  have hA : DataW.TrodAll enc Try.prog W 0 (fun _ => true) true Try.f5.params.toList args.toList ds p := hA0
  rw [Try.params5] at hA hval
  obtain ⟨v0, vs0, d0, ds0, p0, q0, hargs, rfl, rfl, h0, r0⟩ := trodAll_cons hA
  obtain ⟨v1, vs1, d1, ds1, p1, q1, rfl, rfl, rfl, h1, r1⟩ := trodAll_cons r0
  obtain ⟨v2, vs2, d2, ds2, p2, q2, rfl, rfl, rfl, h2, r2⟩ := trodAll_cons r1
  obtain ⟨rfl, rfl, rfl⟩ := trodAll_nil r2
  obtain rfl : args = #[v0, v1, v2] := by cases args; simp_all
  obtain ⟨rfl, rfl⟩ := trodVars_none hV
  have k2 := h2
  have lt2 : ∀ x ∈ p2, x.block < W.heap.size := by obtain ⟨m, hm⟩ := k2; exact DataW.trod_lt m _ _ _ hm
  obtain ⟨a0, rfl, rfl, rfl, w0⟩ := open_int Try.underlying3 (hval 0 3 v0 rfl rfl) h0
  have R0 : Reps (fun _ => none) (J1 W) W [.v (.int .i64 a0)] [.int .i64 a0] := .cons (.v _) .nil
  obtain ⟨a1, rfl, rfl, rfl, w1⟩ := open_int Try.underlying5 (hval 1 5 v1 rfl rfl) h1
  have R1 : Reps (fun _ => none) (J1 W) W [.v (.int .u8 a1)] [.int .u8 a1] := .cons (.v _) .nil
  obtain ⟨a2, R2, g2⟩ := arg_slice Try.underlying77 (AT.recs OpR.z Try.underlying77 (by kernel_rfl) (by decide) opxAT) (hval 2 77 v2 rfl rfl) h2
  have hR := (R0.append (R1.append R2))
  refine (evFunc_row (T := tab) (g := []) (pl := p5) mix Try.func5 hR (by rw [Try.ntmps5]; exact Nat.le_of_ble_eq_true rfl) (txcommits_c a0 a1 a2 _ ⟨inR_of_wf w0, (by have := inR_of_wf w1; simp only [inR] at this; omega), (by have := g2.1; simp only [maxLen] at this; omega), fun o ho => ⟨inR_of_wf (g2.2 o ho).1, inR_of_wf (g2.2 o ho).2.1, inR_of_wf (g2.2 o ho).2.2.1, B8_of_wf (g2.2 o ho).2.2.2.2⟩⟩ rfl)).mono fun e W' hh => ?_
  obtain ⟨he, bel⟩ := hh
  subst he
  exact ⟨_, rfl, _, _, _, [], _, [], hW', trodAll_mk1 (shut_bool Try.underlying4 _), (trodAll_cons_mk (shut_int Try.underlying3 w0) (trodAll_cons_mk (shut_int Try.underlying5 w1) (trodAll_cons_mk (Below.trod laidOut (by kernel_rfl) (of_decide_eq_true (by kernel_rfl)) k2 bel lt2) trodAll_mk0))), rfl, bel.frame _, fun h => by cases h⟩
set_option maxRecDepth 100000 in
theorem over : Go.Proofs.Ytcfmlnddmpiemaa.Rows.txCommitsRow.holds Go.Proofs.Ytcfmlnddmpiemaa.Try.pinned (OpenSpec.ofChange Go.Proofs.Ytcfmlnddmpiemaa.Rows.txCommitsSpec) :=
  OpenClaim.holds_of_wide 5 Try.f5 rfl rfl rfl rfl rfl rfl rfl ⟨rfl, rfl, rfl, rfl, rfl⟩ rfl rfl rfl rfl rfl (by kernel_rfl) Try.func5 (by kernel_rfl)
    (of_decide_eq_true (by kernel_rfl)) (by unfold Func.isWrapper; first | (rw [if_pos (by decide +kernel)]; kernel_rfl) | (rw [if_neg (by decide +kernel)]; exact ⟨rfl, rfl⟩))
    (fun os started H enc _ => lifted os started H enc)
theorem proved : Go.Proofs.Ytcfmlnddmpiemaa.Rows.TxCommitsSaid := over
#print axioms proved
end Go.Proofs.Ytcfmlnddmpiemaa.Sx.TxCommits
namespace Go.Proofs.Ytcfmlnddmpiemaa
/-- The row, under a short name, for the claim. -/
theorem txCommits_holds : Rows.TxCommitsSaid := Go.Proofs.Ytcfmlnddmpiemaa.Sx.TxCommits.proved
end Go.Proofs.Ytcfmlnddmpiemaa

