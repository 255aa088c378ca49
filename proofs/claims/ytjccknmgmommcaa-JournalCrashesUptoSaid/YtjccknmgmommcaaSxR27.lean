/- The statement JournalCrashesUptoSaid: for every input of bulk at most 1048576 the law returns true, and its arguments read behind the call as they did before. The condition: the bulk. -/
import Derived.Test.YtjccknmgmommcaaSxK4
import Derived.Test.YtjccknmgmommcaaSx28
import Derived.Test.YtjccknmgmommcaaSxEc
import Derived.Test.YtjccknmgmommcaaRows
import Derived.WalkKit
import Derived.ProofKit
import Derived.OpenShut
import Derived.ShutString
import Derived.ChangeOld
import Derived.Below
import Derived.SizedLaws
import Derived.JoinedCond
import Derived.Deep.CondSized
namespace Go.Proofs.Ytjccknmgmommcaa.Sx.JournalCrashes
open Go.ChangeShapes Go.WideShapes Go.ChangeAt Go.RowKit
open Go.ChangeMaps (open_string shut_string)
open Go.Proofs.Ytjccknmgmommcaa.Sx Go.Proofs.Ytjccknmgmommcaa.Sx.Tb Go.Proofs
set_option linter.unusedVariables false
theorem own : ownKnob Try.prog.godebug = none := by kernel_rfl
theorem laidOut : laidOutB Try.prog = true := by kernel_rfl

theorem bulk : Bulk (fun H => @Go.Proofs.Ytjccknmgmommcaa.Rows.uptoBulk H) := by
  have all : ∀ (H : Type) (l : List (DataW H)), Go.Proofs.Ytjccknmgmommcaa.Rows.uptoBulkAll l = (l.map (fun d => Go.Proofs.Ytjccknmgmommcaa.Rows.uptoBulk d)).sum := by
    intro H l
    induction l with
    | nil => rfl
    | cons d l ih => simp only [Go.Proofs.Ytjccknmgmommcaa.Rows.uptoBulkAll, List.map_cons, List.sum_cons, ih]
  refine ⟨fun H e s => ?_, fun H p => ?_, fun H d => ?_⟩
  · show _ ≤ Go.Proofs.Ytjccknmgmommcaa.Rows.uptoBulk (.slice e s)
    simp only [Go.Proofs.Ytjccknmgmommcaa.Rows.uptoBulk]
    rw [all H e]
    exact Nat.add_le_add_right (Nat.le_add_right _ _) 1
  · show _ ≤ Go.Proofs.Ytjccknmgmommcaa.Rows.uptoBulk (.agg p)
    simp only [Go.Proofs.Ytjccknmgmommcaa.Rows.uptoBulk]
    rw [all H p]
    exact Nat.le_refl _
  · show 1 ≤ Go.Proofs.Ytjccknmgmommcaa.Rows.uptoBulk d
    cases d with
    | lit l => cases l <;> simp [Go.Proofs.Ytjccknmgmommcaa.Rows.uptoBulk]
    | _ => simp [Go.Proofs.Ytjccknmgmommcaa.Rows.uptoBulk]
def recG (r : RecR) : Prop := (Lit.int .i64 r.1).wf = true ∧ r.2.length ≤ maxLen ∧ ∀ y ∈ r.2, (Lit.int .u8 y).wf = true
set_option maxRecDepth 100000 in
theorem recAT : ATb (fun H => @Go.Proofs.Ytjccknmgmommcaa.Rows.uptoBulk H) Try.prog 174 2 (recAV true) recG (fun r => r.2.length + 1) :=
  have s := ATb.struct bulk Try.underlying174 (by kernel_rfl) (ATbs.cons (AT.int Try.underlying2).b rfl (by kernel_rfl) (ATbs.last (ATb.ints bulk Try.underlying22 (by kernel_rfl) Try.underlying5) rfl (by kernel_rfl)))
  ATb.iso s (fun y => ((y.1, y.2) : RecR)) (fun _ => rfl) (fun _ h => h) (fun y => by show y.2.length + 1 ≤ 0 + (y.2.length + 1); omega)
def caseG (c : CaseR) : Prop := (Lit.int .i64 c.n).wf = true ∧ (c.fill.length ≤ maxLen ∧ ∀ y ∈ c.fill, (Lit.int .u8 y).wf = true) ∧ (Lit.int .i64 c.pos).wf = true ∧ (Lit.int .i64 c.size).wf = true ∧ c.recs.length ≤ maxLen ∧ ∀ r ∈ c.recs, recG r
def caseF (c : CaseR) : List AV := [.v (.int .i64 c.n), .im true 1 c.fill.length (.ints .u8 c.fill), .v (.int .i64 c.pos), .v (.int .i64 c.size), .im true 2 c.recs.length (recsC true c.recs)]
set_option maxRecDepth 100000 in
theorem caseAT : ATb (fun H => @Go.Proofs.Ytjccknmgmommcaa.Rows.uptoBulk H) Try.prog 119 5 caseF caseG (fun c => (c.recs.map (fun r => r.2.length + 1)).sum) :=
  have s := ATb.struct bulk Try.underlying119 (by kernel_rfl) (ATbs.cons (AT.int Try.underlying3).b rfl (by kernel_rfl) (ATbs.cons (AT.ints Try.underlying22 (by kernel_rfl) Try.underlying5).b rfl (by kernel_rfl) (ATbs.cons (AT.int Try.underlying3).b rfl (by kernel_rfl) (ATbs.cons (AT.int Try.underlying3).b rfl (by kernel_rfl) (ATbs.last (ATb.recs bulk (0, []) Try.underlying113 (by kernel_rfl) (by decide) recAT) rfl (by kernel_rfl))))))
  ATb.iso s (fun y => (⟨y.1, y.2.1, y.2.2.1, y.2.2.2.1, y.2.2.2.2⟩ : CaseR)) (fun _ => rfl) (fun _ h => h) (fun y => by show (List.map _ y.2.2.2.2).sum ≤ 0 + (0 + (0 + (0 + (List.map _ y.2.2.2.2).sum))); omega)
set_option maxRecDepth 100000 in
theorem cutAT : AT Try.prog 121 2 (fun x : Int × List Bool => [.v (.int .i64 x.1), .im true 1 x.2.length (boolsC x.2)]) (fun x => (Lit.int .i64 x.1).wf = true ∧ x.2.length ≤ maxLen ∧ ∀ y ∈ x.2, True) :=
  AT.struct Try.underlying121 (by kernel_rfl) (ATs.cons (AT.int Try.underlying3) rfl (by kernel_rfl) (ATs.last (AT.bools Try.underlying24 (by kernel_rfl) Try.underlying4) rfl (by kernel_rfl)))
theorem sums (rs : List RecR) : (encL rs).length ≤ 12 * (rs.map (fun r => r.2.length + 1)).sum ∧ rs.length ≤ (rs.map (fun r => r.2.length + 1)).sum ∧ ∀ r ∈ rs, r.2.length ≤ (rs.map (fun r => r.2.length + 1)).sum := by
  induction rs with
  | nil => simp [encL]
  | cons r rs ih =>
    obtain ⟨i1, i2, i3⟩ := ih
    have e : (encL (r :: rs)).length = 12 + r.2.length + (encL rs).length := by
      show (enc1 r ++ encL rs).length = _
      rw [List.length_append, enc1_length]
    simp only [List.map_cons, List.sum_cons, List.length_cons]
    refine ⟨by omega, by omega, fun q hq => ?_⟩
    rcases List.mem_cons.1 hq with rfl | hq
    · omega
    · have := i3 q hq; omega
theorem B8_of_wf {l : List Int} (h : ∀ y ∈ l, (Lit.int .u8 y).wf = true) : B8 l := fun y hy => by
  have := inR_of_wf (h y hy)
  simp only [inR] at this
  omega
theorem okC {c : CaseR} (h : caseG c) (hm : (c.recs.map (fun r => r.2.length + 1)).sum ≤ 1048576) : caseOk c := by
  obtain ⟨h1, ⟨h2, h3⟩, h4, h5, h6, h7⟩ := h
  obtain ⟨s1, s2, s3⟩ := sums c.recs
  have h2 : c.fill.length ≤ 2 ^ 63 - 1 := h2
  exact ⟨⟨by omega, by omega, fun r hr => ⟨inR_of_wf (h7 r hr).1, by have := s3 r hr; omega, B8_of_wf (h7 r hr).2.2⟩⟩, by omega, B8_of_wf h3, inR_of_wf h1, inR_of_wf h4, inR_of_wf h5⟩
set_option maxRecDepth 100000 in
theorem lifted (os : Os) (started : os.Started) (H : Type) (enc : TypeId × Value → H) (F : Stop.Interp) :
    ReturnsInHanded {} Try.checked os 12 .any ((Go.Proofs.Ytjccknmgmommcaa.Rows.OpenSpec.upto Go.Proofs.Ytjccknmgmommcaa.Rows.journalCrashesSpec).pre6 enc Try.prog Try.f12 Go.Proofs.Ytjccknmgmommcaa.Rows.journalCrashesUptoRow.domain false) (((Go.Proofs.Ytjccknmgmommcaa.Rows.OpenSpec.upto Go.Proofs.Ytjccknmgmommcaa.Rows.journalCrashesSpec).at F).post enc Try.prog Try.f12 false true false false) := by
  refine returnsInHanded_of_cond_sized (C := Try.checked) (s := (Go.Proofs.Ytjccknmgmommcaa.Rows.OpenSpec.upto Go.Proofs.Ytjccknmgmommcaa.Rows.journalCrashesSpec)) (k := Go.Proofs.Ytjccknmgmommcaa.Rows.uptoSmall) rfl own started (by kernel_rfl) Try.func12
    (OpenSpec.witness (enc := enc) (C := Try.checked) (s := (Go.Proofs.Ytjccknmgmommcaa.Rows.OpenSpec.upto Go.Proofs.Ytjccknmgmommcaa.Rows.journalCrashesSpec)) (k := Go.Proofs.Ytjccknmgmommcaa.Rows.uptoSmall) rfl false ⟨#[], #[.agg #[.int .i64 0, .slice none 0 0, .int .i64 0, .int .i64 0, .slice none 0 0], .agg #[.int .i64 0, .slice none 0 0], .agg #[.int .i64 0, .slice none 0 0]], []⟩ 8 (by kernel_rfl) (by kernel_rfl) (by kernel_rfl) (x := ([.agg [.lit (.int .i64 0), .nil, .lit (.int .i64 0), .lit (.int .i64 0), .nil], .agg [.lit (.int .i64 0), .nil], .agg [.lit (.int .i64 0), .nil]], [], [])) (by kernel_rfl) rfl (by kernel_rfl)) ?_
  intro W base args ds gs before hval0 hW hcnd hkk hsz0 _
  have hval : ∀ (j : Nat) t v, Try.f12.params[j]? = some t → args[j]? = some v → Value.okWide Try.prog W .any base t v := hval0
  have hW' := hW
  obtain ⟨p, q, hA0, hV, rfl, hfz, hnd⟩ := hW
  have hA : DataW.TrodAll enc Try.prog W 0 (fun _ => true) true Try.f12.params.toList args.toList ds p := hA0
  rw [Try.params12] at hA hval
  obtain ⟨v0, vs0, d0, ds0, p0, q0, hargs, rfl, rfl, h0, r0⟩ := trodAll_cons hA
  obtain ⟨v1, vs1, d1, ds1, p1, q1, rfl, rfl, rfl, h1, r1⟩ := trodAll_cons r0
  obtain ⟨v2, vs2, d2, ds2, p2, q2, rfl, rfl, rfl, h2, r2⟩ := trodAll_cons r1
  obtain ⟨rfl, rfl, rfl⟩ := trodAll_nil r2
  obtain rfl : args = #[v0, v1, v2] := by cases args; simp_all
  obtain ⟨rfl, rfl⟩ := trodVars_none hV
  have k0 := h0
  have lt0 : ∀ x ∈ p0, x.block < W.heap.size := by obtain ⟨m, hm⟩ := k0; exact DataW.trod_lt m _ _ _ hm
  have k1 := h1
  have lt1 : ∀ x ∈ p1, x.block < W.heap.size := by obtain ⟨m, hm⟩ := k1; exact DataW.trod_lt m _ _ _ hm
  have k2 := h2
  have lt2 : ∀ x ∈ p2, x.block < W.heap.size := by obtain ⟨m, hm⟩ := k2; exact DataW.trod_lt m _ _ _ hm
  obtain ⟨a0, R0, g0⟩ := arg_structb Try.underlying119 caseAT (hval 0 119 v0 rfl rfl) h0
  obtain ⟨a1, R1, g1⟩ := arg_struct Try.underlying121 cutAT (hval 1 121 v1 rfl rfl) h1
  obtain ⟨a2, R2, g2⟩ := arg_struct Try.underlying121 cutAT (hval 2 121 v2 rfl rfl) h2
  have hb : (a0.recs.map (fun r => r.2.length + 1)).sum ≤ 1048576 := by
    have h : Go.Proofs.Ytjccknmgmommcaa.Rows.uptoBulkAll _ ≤ 1048576 := of_decide_eq_true hkk
    simp only [List.append_nil, Go.Proofs.Ytjccknmgmommcaa.Rows.uptoBulkAll] at h
    have := g0.2
    omega
  have hR := (R0.append (R1.append R2))
  refine (evFunc_row (T := tab) (g := [81, 111]) (pl := []) mix Try.func12 hR (by rw [Try.ntmps12]; exact Nat.le_of_ble_eq_true rfl) (jcrash_c a0 a1.1 0 a1.2 a2.1 0 a2.2 ⟨okC g0.1 hb, inR_of_wf g1.1, inR_of_wf g2.1⟩ _ rfl)).mono fun e W' hh => ?_
  obtain ⟨he, bel⟩ := hh
  subst he
  exact ⟨_, rfl, _, _, _, [], _, [], hW', trodAll_mk1 (shut_bool Try.underlying4 _), (trodAll_cons_mk (Below.trod laidOut (by kernel_rfl) (of_decide_eq_true (by kernel_rfl)) k0 bel lt0) (trodAll_cons_mk (Below.trod laidOut (by kernel_rfl) (of_decide_eq_true (by kernel_rfl)) k1 bel lt1) (trodAll_cons_mk (Below.trod laidOut (by kernel_rfl) (of_decide_eq_true (by kernel_rfl)) k2 bel lt2) trodAll_mk0))), rfl, bel.frame _, fun h => by cases h⟩
set_option maxRecDepth 100000 in
theorem over : Go.Proofs.Ytjccknmgmommcaa.Rows.journalCrashesUptoRow.holds Go.Proofs.Ytjccknmgmommcaa.Try.pinned (Go.Proofs.Ytjccknmgmommcaa.Rows.OpenSpec.upto Go.Proofs.Ytjccknmgmommcaa.Rows.journalCrashesSpec) :=
  OpenClaim.holds_of_cond 12 Try.f12 rfl rfl rfl rfl rfl rfl rfl ⟨rfl, rfl, rfl, rfl, rfl⟩ rfl rfl rfl rfl rfl (by kernel_rfl) Try.func12 (by kernel_rfl)
    (of_decide_eq_true (by kernel_rfl)) (by unfold Func.isWrapper; first | (rw [if_pos (by decide +kernel)]; kernel_rfl) | (rw [if_neg (by decide +kernel)]; exact ⟨rfl, rfl⟩))
    (fun os started H enc _ F => lifted os started H enc F)
theorem proved : Go.Proofs.Ytjccknmgmommcaa.Rows.JournalCrashesUptoSaid := over
#print axioms proved
end Go.Proofs.Ytjccknmgmommcaa.Sx.JournalCrashes
namespace Go.Proofs.Ytjccknmgmommcaa
/-- The row, under a short name, for the claim. -/
theorem journalCrashesUpto_holds : Rows.JournalCrashesUptoSaid := Go.Proofs.Ytjccknmgmommcaa.Sx.JournalCrashes.proved
end Go.Proofs.Ytjccknmgmommcaa

