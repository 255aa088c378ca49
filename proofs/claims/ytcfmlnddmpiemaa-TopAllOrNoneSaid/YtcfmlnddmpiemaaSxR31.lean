/- The statement TopAllOrNoneSaid: for every input the law returns true, and its arguments read behind the call as they did before. No condition. -/
import Derived.Test.YtcfmlnddmpiemaaSxU7
import Derived.Test.YtcfmlnddmpiemaaSxEc
import Derived.Test.YtcfmlnddmpiemaaRows
import Derived.WalkKit
import Derived.ProofKit
import Derived.OpenShut
import Derived.ShutString
import Derived.ChangeOld
import Derived.Below
import Derived.SizedLaws
namespace Go.Proofs.Ytcfmlnddmpiemaa.Sx.TopAllOrNone
open Go.ChangeShapes Go.WideShapes Go.ChangeAt Go.RowKit
open Go.ChangeMaps (open_string shut_string)
open Go.Proofs.Ytcfmlnddmpiemaa.Sx Go.Proofs.Ytcfmlnddmpiemaa.Sx.Tb Go.Proofs
set_option linter.unusedVariables false
theorem own : ownKnob Try.prog.godebug = none := by kernel_rfl
theorem laidOut : laidOutB Try.prog = true := by kernel_rfl

theorem B8_of_wf {l : List Int} (h : ∀ y ∈ l, (Lit.int .u8 y).wf = true) : B8 l := fun y hy => by
  have := inR_of_wf (h y hy)
  simp only [inR] at this
  omega
set_option maxRecDepth 100000 in
theorem chAT : AT Try.prog 67 2 chAV (fun x : ChR => (x.1.length ≤ maxLen ∧ ∀ y ∈ x.1, (Lit.int .i64 y).wf = true) ∧ x.2.length ≤ maxLen ∧ ∀ y ∈ x.2, (Lit.int .u8 y).wf = true) :=
  AT.struct Try.underlying67 (by kernel_rfl) (ATs.cons (AT.ints Try.underlying51 (by kernel_rfl) Try.underlying3) rfl (by kernel_rfl) (ATs.last (AT.ints Try.underlying29 (by kernel_rfl) Try.underlying5) rfl (by kernel_rfl)))
set_option maxRecDepth 100000 in
theorem lifted (os : Os) (started : os.Started) (H : Type) (enc : TypeId × Value → H) :
    ReturnsInHanded {} Try.checked os 4 .any (Go.Proofs.Ytcfmlnddmpiemaa.Rows.topAllOrNoneSpec.pre6 enc Try.prog Try.f4 Go.Proofs.Ytcfmlnddmpiemaa.Rows.topAllOrNoneRow.domain false) (Go.Proofs.Ytcfmlnddmpiemaa.Rows.topAllOrNoneSpec.post enc Try.prog Try.f4 false true false false) := by
  refine returnsInHanded_of_change_sized (C := Try.checked) own started (by kernel_rfl) Try.func4
    (ChangeSpec.witness6 (enc := enc) (C := Try.checked) false ⟨#[], #[.slice none 0 0, .int .i64 0, .slice none 0 0], []⟩ 8 (by kernel_rfl) (by kernel_rfl) (by kernel_rfl) (by kernel_rfl)) ?_
  intro W base args ds gs before hval0 hW hcnd hsz0 _
  have hval : ∀ (j : Nat) t v, Try.f4.params[j]? = some t → args[j]? = some v → Value.okWide Try.prog W .any base t v := hval0
  have hW' := hW
  obtain ⟨p, q, hA0, hV, rfl, hfz, hnd⟩ := hW
  have hA : DataW.TrodAll enc Try.prog W 0 (fun _ => true) true Try.f4.params.toList args.toList ds p := hA0
  rw [Try.params4] at hA hval
  obtain ⟨v0, vs0, d0, ds0, p0, q0, hargs, rfl, rfl, h0, r0⟩ := trodAll_cons hA
  obtain ⟨v1, vs1, d1, ds1, p1, q1, rfl, rfl, rfl, h1, r1⟩ := trodAll_cons r0
  obtain ⟨v2, vs2, d2, ds2, p2, q2, rfl, rfl, rfl, h2, r2⟩ := trodAll_cons r1
  obtain ⟨rfl, rfl, rfl⟩ := trodAll_nil r2
  obtain rfl : args = #[v0, v1, v2] := by cases args; simp_all
  obtain ⟨rfl, rfl⟩ := trodVars_none hV
  have k0 := h0
  have lt0 : ∀ x ∈ p0, x.block < W.heap.size := by obtain ⟨m, hm⟩ := k0; exact DataW.trod_lt m _ _ _ hm
  have k2 := h2
  have lt2 : ∀ x ∈ p2, x.block < W.heap.size := by obtain ⟨m, hm⟩ := k2; exact DataW.trod_lt m _ _ _ hm
  obtain ⟨a0, R0, g0⟩ := arg_slice Try.underlying58 (AT.recs (([], []) : ChR) Try.underlying58 (by kernel_rfl) (by decide) chAT) (hval 0 58 v0 rfl rfl) h0
  obtain ⟨a1, rfl, rfl, rfl, w1⟩ := open_int Try.underlying3 (hval 1 3 v1 rfl rfl) h1
  have R1 : Reps (fun _ => none) (J1 W) W [.v (.int .i64 a1)] [.int .i64 a1] := .cons (.v _) .nil
  obtain ⟨a2, R2, g2⟩ := arg_slice Try.underlying23 (AT.bools Try.underlying23 (by kernel_rfl) Try.underlying4) (hval 2 23 v2 rfl rfl) h2
  have hR := (R0.append (R1.append R2))
  refine (evFunc_row (T := tab) (g := []) (pl := p4) mix Try.func4 hR (by rw [Try.ntmps4]; exact Nat.le_of_ble_eq_true rfl) (topall_c a0 a1 a2 _ ⟨(by have := g0.1; simp only [maxLen] at this; omega), (fun x hx => ⟨fun v hv => inR_of_wf ((g0.2 x hx).1.2 v hv), B8_of_wf (g0.2 x hx).2.2, (by have := (g0.2 x hx).1.1; simp only [maxLen] at this; omega), (by have := (g0.2 x hx).2.1; simp only [maxLen] at this; omega)⟩), inR_of_wf w1, (by have := g2.1; simp only [maxLen] at this; omega)⟩ rfl)).mono fun e W' hh => ?_
  obtain ⟨he, bel⟩ := hh
  subst he
  exact ⟨_, rfl, _, _, _, [], _, [], hW', trodAll_mk1 (shut_bool Try.underlying4 _), (trodAll_cons_mk (Below.trod laidOut (by kernel_rfl) (of_decide_eq_true (by kernel_rfl)) k0 bel lt0) (trodAll_cons_mk (shut_int Try.underlying3 w1) (trodAll_cons_mk (Below.trod laidOut (by kernel_rfl) (of_decide_eq_true (by kernel_rfl)) k2 bel lt2) trodAll_mk0))), rfl, bel.frame _, fun h => by cases h⟩
set_option maxRecDepth 100000 in
theorem over : Go.Proofs.Ytcfmlnddmpiemaa.Rows.topAllOrNoneRow.holds Go.Proofs.Ytcfmlnddmpiemaa.Try.pinned (OpenSpec.ofChange Go.Proofs.Ytcfmlnddmpiemaa.Rows.topAllOrNoneSpec) :=
  OpenClaim.holds_of_wide 4 Try.f4 rfl rfl rfl rfl rfl rfl rfl ⟨rfl, rfl, rfl, rfl, rfl⟩ rfl rfl rfl rfl rfl (by kernel_rfl) Try.func4 (by kernel_rfl)
    (of_decide_eq_true (by kernel_rfl)) (by unfold Func.isWrapper; first | (rw [if_pos (by decide +kernel)]; kernel_rfl) | (rw [if_neg (by decide +kernel)]; exact ⟨rfl, rfl⟩))
    (fun os started H enc _ => lifted os started H enc)
theorem proved : Go.Proofs.Ytcfmlnddmpiemaa.Rows.TopAllOrNoneSaid := over
#print axioms proved
end Go.Proofs.Ytcfmlnddmpiemaa.Sx.TopAllOrNone
namespace Go.Proofs.Ytcfmlnddmpiemaa
/-- The row, under a short name, for the claim. -/
theorem topAllOrNone_holds : Rows.TopAllOrNoneSaid := Go.Proofs.Ytcfmlnddmpiemaa.Sx.TopAllOrNone.proved
end Go.Proofs.Ytcfmlnddmpiemaa

