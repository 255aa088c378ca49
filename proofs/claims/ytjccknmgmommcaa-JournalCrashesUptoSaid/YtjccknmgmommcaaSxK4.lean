import Derived.Test.YtjccknmgmommcaaSxK3
import Derived.Test.YtjccknmgmommcaaSxP11
set_option linter.unusedVariables false
set_option linter.unusedSimpArgs false
set_option maxRecDepth 10000
namespace Go.Proofs.Ytjccknmgmommcaa.Sx
open Go.RowKit Go.Proofs.Ytjccknmgmommcaa.Sx.Tb
/-! ### The law JournalCrashes -/
def caseOk (c : CaseR) : Prop := (c.recs.length ≤ 1048576 ∧ (encL c.recs).length ≤ 1099511627776 ∧ ∀ r ∈ c.recs, inR .i64 r.1 ∧ r.2.length ≤ 1099511627776 ∧ B8 r.2) ∧ c.fill.length ≤ 9223372036854775807 ∧ B8 c.fill ∧ inR .i64 c.n ∧ inR .i64 c.pos ∧ inR .i64 c.size
set_option maxHeartbeats 16000000 in
theorem jcrash_c (c : CaseR) (a1 a2 : Int) (a3 : List Bool) (c1 c2 : Int) (c3 : List Bool) (h0 : caseOk c ∧ inR .i64 a1 ∧ inR .i64 c1) (k : K) (hk : k (.v (.bool true)) []) : evFunc tab [81, 111] [] Go.Proofs.Try.f12 [.agg [.v (.int .i64 c.n), .im true 1 c.fill.length (.ints .u8 c.fill), .v (.int .i64 c.pos), .v (.int .i64 c.size), .im true 2 c.recs.length (recsC true c.recs)], .agg [.v (.int .i64 a1), .im true 1 a3.length (boolsC a3)], .agg [.v (.int .i64 c1), .im true 1 c3.length (boolsC c3)]] [] k := by
  obtain ⟨⟨⟨h1, h2, h3⟩, h4, h5, h6, h7, h8⟩, h9, h10⟩ := h0
  repeat' (first
 | (with_reducible first | exact True.intro | apply And.intro | apply If_true | apply If_false | apply If_not)
 | ((with_reducible apply VC.mk); (first | trivial | omega | (simp only [inR]; omega) | (exact ⟨rfl, List.prefix_rfl⟩) | (refine ⟨rfl, rfl, rfl, ?_, rfl⟩; (simp; done)) | (focus (repeat' (first | exact True.intro | apply And.intro | rfl | exact Nat.le_of_ble_eq_true rfl)); done) | (simp [inR, Cont.cells]; done) | (simp [inR, Cont.cells]; omega)))
 | ((with_reducible apply If_dec) <;> intro hc <;> (try (exfalso; omega)))
 | ((with_reducible apply If_any) <;> intro hc)
 | ((with_reducible first | apply PF.mk | apply DrawP.mk); (focus kernel_rfl))
 | ((with_reducible apply Same.mk); (focus rfl); (first | exact trivial | exact rfl))
 | (intro cap hcap)
 | ((fail_if_success (with_reducible first | apply Fin.mk | apply CallP.mk | apply LoopP.mk | apply VC.mk | apply falseMk | apply Round.mk | apply Eq.symm)); conv => whnf))
  refine lfile_at c ⟨by omega, h4, h5, h6, h7, h8, fun q hq => by have := (h3 q hq).2.1; omega⟩ ⟨⟨rfl, rfl, rfl, rfl, rfl, trivial⟩, trivial⟩ ?_
  rintro ⟨b, p, z, ok⟩ hf
  repeat' (first
 | (with_reducible first | exact True.intro | apply And.intro | apply If_true | apply If_false | apply If_not)
 | ((with_reducible apply VC.mk); (first | trivial | omega | (simp only [inR]; omega) | (exact ⟨rfl, List.prefix_rfl⟩) | (refine ⟨rfl, rfl, rfl, ?_, rfl⟩; (simp; done)) | (focus (repeat' (first | exact True.intro | apply And.intro | rfl | exact Nat.le_of_ble_eq_true rfl)); done) | (simp [inR, Cont.cells]; done) | (simp [inR, Cont.cells]; omega)))
 | ((with_reducible apply If_dec) <;> intro hc <;> (try (exfalso; omega)))
 | ((with_reducible apply If_any) <;> intro hc)
 | ((with_reducible first | apply PF.mk | apply DrawP.mk); (focus kernel_rfl))
 | ((with_reducible apply Same.mk); (focus rfl); (first | exact trivial | exact rfl))
 | (intro cap hcap)
 | ((fail_if_success (with_reducible first | apply Fin.mk | apply CallP.mk | apply LoopP.mk | apply VC.mk | apply falseMk | apply Round.mk | apply Eq.symm)); conv => whnf))
  have hpz : 0 ≤ p ∧ p ≤ 4194304 ∧ 0 ≤ z ∧ z ≤ 4194304 := by
    rcases hf with ⟨_, _, q1, q2⟩ | ⟨_, _, _, q1, q2, q3, q4, q5, q6, _⟩
    · simp only at q1 q2; omega
    · simp only at q1 q2 q3 q4 q5 q6; omega
  refine recs_at c.recs p z ⟨⟨by omega, h2, fun q hq => ⟨(h3 q hq).1, (h3 q hq).2.1⟩⟩, hpz⟩ ⟨rfl, rfl, rfl, trivial⟩ ?_
  rintro ⟨may, rs, room⟩ ⟨e1, e2, e3⟩
  have e2 : rs = c.recs := e2
  have e1 : may = true ↔ ∀ q ∈ c.recs, mayP p z q := e1
  have e3 : room = true ↔ ((encL c.recs).length : Int) ≤ z - 512 := e3
  subst e2
  repeat' (first
 | (with_reducible first | exact True.intro | apply And.intro | apply If_true | apply If_false | apply If_not)
 | ((with_reducible apply VC.mk); (first | trivial | omega | (simp only [inR]; omega) | (exact ⟨rfl, List.prefix_rfl⟩) | (refine ⟨rfl, rfl, rfl, ?_, rfl⟩; (simp; done)) | (focus (repeat' (first | exact True.intro | apply And.intro | rfl | exact Nat.le_of_ble_eq_true rfl)); done) | (simp [inR, Cont.cells]; done) | (simp [inR, Cont.cells]; omega)))
 | ((with_reducible apply If_dec) <;> intro hc <;> (try (exfalso; omega)))
 | ((with_reducible apply If_any) <;> intro hc)
 | ((with_reducible first | apply PF.mk | apply DrawP.mk); (focus kernel_rfl))
 | ((with_reducible apply Same.mk); (focus rfl); (first | exact trivial | exact rfl))
 | (intro cap hcap)
 | ((fail_if_success (with_reducible first | apply Fin.mk | apply CallP.mk | apply LoopP.mk | apply VC.mk | apply falseMk | apply Round.mk | apply Eq.symm)); conv => whnf))
  all_goals (try (refine begun_at trivial ?_))
  all_goals (try (repeat' (first
 | (with_reducible first | exact True.intro | apply And.intro | apply If_true | apply If_false | apply If_not)
 | ((with_reducible apply VC.mk); (first | trivial | omega | (simp only [inR]; omega) | (exact ⟨rfl, List.prefix_rfl⟩) | (refine ⟨rfl, rfl, rfl, ?_, rfl⟩; (simp; done)) | (focus (repeat' (first | exact True.intro | apply And.intro | rfl | exact Nat.le_of_ble_eq_true rfl)); done) | (simp [inR, Cont.cells]; done) | (simp [inR, Cont.cells]; omega)))
 | ((with_reducible apply If_dec) <;> intro hc <;> (try (exfalso; omega)))
 | ((with_reducible apply If_any) <;> intro hc)
 | ((with_reducible first | apply PF.mk | apply DrawP.mk); (focus kernel_rfl))
 | ((with_reducible apply Same.mk); (focus rfl); (first | exact trivial | exact rfl))
 | (intro cap hcap)
 | ((fail_if_success (with_reducible first | apply Fin.mk | apply CallP.mk | apply LoopP.mk | apply VC.mk | apply falseMk | apply Round.mk | apply Eq.symm)); conv => whnf)); exact Fin.bool rfl hk))
  have hok : ok = true := by assumption
  have hmay := e1.1 (by assumption)
  have hroom := e3.1 (by assumption)
  subst hok
  rcases hf with ⟨q0, _⟩ | ⟨_, f1, f2, f3, f4, f5, f6, f7, f8, f9, f10⟩
  · cases q0
  simp only at f2 f3 f4 f5 f6 f7 f8 f9 f10
  obtain ⟨j, hj⟩ : ∃ j : JR, j = ⟨p, z, 0⟩ := ⟨_, rfl⟩
  have hjp : j.pos = p := by rw [hj]
  have hjz : j.size = z := by rw [hj]
  have hJ : JCase j b c.recs := by
    refine ⟨⟨by omega, by omega, by omega, by omega, by rw [hj]; exact Int.le_refl _, by rw [hj]; show (0 : Int) < 18446744073709551616; decide⟩, by rw [hjp]; exact f4, by omega, f9, fun r hr => ?_, fun r hr => ?_, fun r hr => (h3 r hr).2.2, fun r hr => ?_, by omega, by omega⟩
    · have m := hmay r hr
      unfold mayP at m
      unfold JR.out
      omega
    · have m := hmay r hr
      have := (f2 r hr).1
      exact ⟨m.1, m.2.1, by omega⟩
    · have m := hmay r hr
      have := (f2 r hr).2
      have := m.2.1
      omega
  have hz0 : ∀ i, i < 512 → b.getD (j.pos.toNat + i) 0 = 0 := fun i hi => by rw [hjp]; exact f10 i hi
  have hend : endL c.recs b.length ≤ 4194304 := endL_bound _ _ _ (by omega) (fun r hr => by have m := hmay r hr; unfold mayP at m; omega)
  have crl : ∀ C, Cr j b c.recs C → C.length ≤ 4194304 ∧ p + z ≤ C.length := fun C hC => by
    have := hC.len hJ
    omega
  obtain ⟨zz, hzz⟩ : ∃ zz : List Int, zz = List.replicate 512 0 := ⟨_, rfl⟩
  have hzzl : zz.length = 512 := by rw [hzz]; exact List.length_replicate ..
  refine lopen_at b p z ⟨by omega, by omega, f4, f5, f6, by omega⟩ ⟨rfl, rfl, rfl, trivial⟩ ?_
  have v1 : 0 ≤ IntKind.u64.wrap a1 := by rw [wrap_u64]; omega
  have v2 : 0 ≤ IntKind.u64.wrap c1 := by rw [wrap_u64]; omega
  repeat' (first
 | (with_reducible first | exact True.intro | apply And.intro | apply If_true | apply If_false | apply If_not)
 | ((with_reducible apply VC.mk); (first | trivial | omega | (simp only [inR]; omega) | (exact ⟨rfl, List.prefix_rfl⟩) | (refine ⟨rfl, rfl, rfl, ?_, rfl⟩; (simp; done)) | (focus (repeat' (first | exact True.intro | apply And.intro | rfl | exact Nat.le_of_ble_eq_true rfl)); done) | (simp [inR, Cont.cells]; done) | (simp [inR, Cont.cells]; omega)))
 | ((with_reducible apply If_dec) <;> intro hc <;> (try (exfalso; omega)))
 | ((with_reducible apply If_any) <;> intro hc)
 | ((with_reducible first | apply PF.mk | apply DrawP.mk); (focus kernel_rfl))
 | ((with_reducible apply Same.mk); (focus rfl); (first | exact trivial | exact rfl))
 | (intro cap hcap)
 | ((fail_if_success (with_reducible first | apply Fin.mk | apply CallP.mk | apply LoopP.mk | apply VC.mk | apply falseMk | apply Round.mk | apply Eq.symm)); conv => whnf))
  refine begun_at trivial ?_
  repeat' (first
 | (with_reducible first | exact True.intro | apply And.intro | apply If_true | apply If_false | apply If_not)
 | ((with_reducible apply VC.mk); (first | trivial | omega | (simp only [inR]; omega) | (exact ⟨rfl, List.prefix_rfl⟩) | (refine ⟨rfl, rfl, rfl, ?_, rfl⟩; (simp; done)) | (focus (repeat' (first | exact True.intro | apply And.intro | rfl | exact Nat.le_of_ble_eq_true rfl)); done) | (simp [inR, Cont.cells]; done) | (simp [inR, Cont.cells]; omega)))
 | ((with_reducible apply If_dec) <;> intro hc <;> (try (exfalso; omega)))
 | ((with_reducible apply If_any) <;> intro hc)
 | ((with_reducible first | apply PF.mk | apply DrawP.mk); (focus kernel_rfl))
 | ((with_reducible apply Same.mk); (focus rfl); (first | exact trivial | exact rfl))
 | (intro cap hcap)
 | ((fail_if_success (with_reducible first | apply Fin.mk | apply CallP.mk | apply LoopP.mk | apply VC.mk | apply falseMk | apply Round.mk | apply Eq.symm)); conv => whnf))
  refine stop_at (DF.mk0 b) (1 + IntKind.u64.wrap a1 % 30) 3 ⟨Int.le_refl _, by show (0 : Int) ≤ _; decide⟩ rfl ⟨rfl, rfl, trivial⟩ (fun _ => ?_)
  obtain ⟨s1, hs1⟩ : ∃ s1 : DF, s1 = { DF.mk0 b with stop := if 0 < 1 + IntKind.u64.wrap a1 % 30 ∧ 1 + IntKind.u64.wrap a1 % 30 ≤ 65536 then (DF.mk0 b).ops + (1 + IntKind.u64.wrap a1 % 30) else 0 } := ⟨_, rfl⟩
  rw [← hs1]
  have a1 : s1.safe = b := by rw [hs1]; rfl
  have a2 : s1.now = b := by rw [hs1]; rfl
  have a4 : s1.items = [] := by rw [hs1]; rfl
  have a5 : s1.Ok 0 := by
    rw [hs1]
    have o := DF.Ok.zero (b := b) (by omega)
    exact ⟨o.safe, o.now, o.its, o.len, o.ops, o.wrote, o.all⟩
  clear hs1
  repeat' (first
 | (with_reducible first | exact True.intro | apply And.intro | apply If_true | apply If_false | apply If_not)
 | ((with_reducible apply VC.mk); (first | trivial | omega | (simp only [inR]; omega) | (exact ⟨rfl, List.prefix_rfl⟩) | (refine ⟨rfl, rfl, rfl, ?_, rfl⟩; (simp; done)) | (focus (repeat' (first | exact True.intro | apply And.intro | rfl | exact Nat.le_of_ble_eq_true rfl)); done) | (simp [inR, Cont.cells]; done) | (simp [inR, Cont.cells]; omega)))
 | ((with_reducible apply If_dec) <;> intro hc <;> (try (exfalso; omega)))
 | ((with_reducible apply If_any) <;> intro hc)
 | ((with_reducible first | apply PF.mk | apply DrawP.mk); (focus kernel_rfl))
 | ((with_reducible apply Same.mk); (focus rfl); (first | exact trivial | exact rfl))
 | (intro cap hcap)
 | ((fail_if_success (with_reducible first | apply Fin.mk | apply CallP.mk | apply LoopP.mk | apply VC.mk | apply falseMk | apply Round.mk | apply Eq.symm)); conv => whnf))
  refine commit_at (⟨p, z, 0⟩ : JR) s1 0 c.recs 4 3 ⟨?_, a5, by decide, by omega, by omega, fun r hr => ⟨by have := (f2 r hr).1; omega, (h3 r hr).2.2⟩⟩ rfl rfl rfl ⟨rfl, ⟨rfl, rfl, ⟨rfl, rfl, fun _ _ => rfl⟩⟩, trivial⟩ ?_
  · rw [← hj]; exact hJ.ok
  rintro ⟨r1, r2, s2⟩ hr
  rw [← hj] at hr
  have hr : comRel j s1 c.recs (r1, r2, s2) := hr
  obtain ⟨g1, g2⟩ := commit_cr hJ hz0 a1 a2 a4 hr
  obtain ⟨g3, g4⟩ := comRel_ok hr a5 (by omega)
  have g1 : CrS j b c.recs s2 := g1
  have g2 : r1 = 0 → r2 = j.next ∧ s2.items = [] ∧ s2.now = s2.safe ∧ Mid j b c.recs s2.safe ∧ pendB j (j.partL s2.safe) = some c.recs := g2
  have g3 : s2.Ok (0 + 5000000) := g3
  have g4 : r2 = j ∨ r2 = j.next := g4
  clear hr
  have big : (encL c.recs).length ≤ 4194304 := by omega
  have cst := cost_wrs_le c.recs
  have ap : r1 = 0 → ∀ x : Int × DF, x = s2.run (wrs c.recs ++ [.fl, .wr r2.pos zz, .fl]) → CrS j b c.recs x.2 ∧ x.2.Ok 10000000 := fun hr1 x hx => by
    obtain ⟨q1, q2, q3, q4, q5⟩ := g2 hr1
    have e : x = s2.run (applyOps j zz c.recs) := by rw [hx, q1]; rfl
    refine ⟨by rw [e]; exact (apply_cr hJ hzz q4 q5 rfl q3 q2).1, ?_⟩
    rw [e]
    refine (DF.run_ok _ g3).mono ?_
    unfold applyOps
    rw [cost_append]
    simp only [cost, FOp.size]
    omega
  have r2ok : r2.Ok := by
    rcases g4 with e | e
    · rw [e]; exact hJ.ok
    · rw [e]; exact JR.next_ok hJ.ok
  repeat' (first
 | (with_reducible first | exact True.intro | apply And.intro | apply If_true | apply If_false | apply If_not)
 | ((with_reducible apply VC.mk); (first | trivial | omega | (simp only [inR]; omega) | (exact ⟨rfl, List.prefix_rfl⟩) | (refine ⟨rfl, rfl, rfl, ?_, rfl⟩; (simp; done)) | (focus (repeat' (first | exact True.intro | apply And.intro | rfl | exact Nat.le_of_ble_eq_true rfl)); done) | (simp [inR, Cont.cells]; done) | (simp [inR, Cont.cells]; omega)))
 | ((with_reducible apply If_dec) <;> intro hc <;> (try (exfalso; omega)))
 | ((with_reducible apply If_any) <;> intro hc)
 | ((with_reducible first | apply PF.mk | apply DrawP.mk); (focus kernel_rfl))
 | ((with_reducible apply Same.mk); (focus rfl); (first | exact trivial | exact rfl))
 | (intro cap hcap)
 | ((fail_if_success (with_reducible first | apply Fin.mk | apply CallP.mk | apply LoopP.mk | apply VC.mk | apply falseMk | apply Round.mk | apply Eq.symm)); conv => whnf))
  refine apply_at r2 s2 (0 + 5000000) zz c.recs 4 3 ⟨r2ok, g3, by decide, by omega, fun r hr => by have := (f2 r hr).1; omega, by omega, hzz⟩ rfl rfl rfl ⟨rfl, ⟨rfl, rfl, ⟨rfl, rfl, fun _ _ => rfl⟩⟩, trivial⟩ ?_
  rintro ⟨x1, s3⟩ hx
  obtain ⟨g1, g3⟩ := ap (by assumption) _ hx
  have g1 : CrS j b c.recs s3 := g1
  have g3 : s3.Ok 10000000 := g3
  clear hx
  repeat' (first
 | (with_reducible first | exact True.intro | apply And.intro | apply If_true | apply If_false | apply If_not)
 | ((with_reducible apply VC.mk); (first | trivial | omega | (simp only [inR]; omega) | (exact ⟨rfl, List.prefix_rfl⟩) | (refine ⟨rfl, rfl, rfl, ?_, rfl⟩; (simp; done)) | (focus (repeat' (first | exact True.intro | apply And.intro | rfl | exact Nat.le_of_ble_eq_true rfl)); done) | (simp [inR, Cont.cells]; done) | (simp [inR, Cont.cells]; omega)))
 | ((with_reducible apply If_dec) <;> intro hc <;> (try (exfalso; omega)))
 | ((with_reducible apply If_any) <;> intro hc)
 | ((with_reducible first | apply PF.mk | apply DrawP.mk); (focus kernel_rfl))
 | ((with_reducible apply Same.mk); (focus rfl); (first | exact trivial | exact rfl))
 | (intro cap hcap)
 | ((fail_if_success (with_reducible first | apply Fin.mk | apply CallP.mk | apply LoopP.mk | apply VC.mk | apply falseMk | apply Round.mk | apply Eq.symm)); conv => whnf))
  rotate_left
  obtain ⟨s3, hs3⟩ : ∃ s3, s3 = s2 := ⟨_, rfl⟩
  subst hs3
  have g3 : s3.Ok 10000000 := g3.mono (by decide)
  all_goals
    refine crash_at s3 a3 3 ⟨g3.safe, by omega, by have := g3.len; omega, g3.its⟩ rfl ⟨rfl, ⟨rfl, rfl, ⟨rfl, rfl, fun _ _ => rfl⟩⟩, trivial⟩ ?_
    intro C1 hC1
    have cr1 : Cr j b c.recs C1 := by rw [hC1]; exact g1 a3
    have l1 := crl C1 cr1
    clear hC1
    repeat' (first
 | (with_reducible first | exact True.intro | apply And.intro | apply If_true | apply If_false | apply If_not)
 | ((with_reducible apply VC.mk); (first | trivial | omega | (simp only [inR]; omega) | (exact ⟨rfl, List.prefix_rfl⟩) | (refine ⟨rfl, rfl, rfl, ?_, rfl⟩; (simp; done)) | (focus (repeat' (first | exact True.intro | apply And.intro | rfl | exact Nat.le_of_ble_eq_true rfl)); done) | (simp [inR, Cont.cells]; done) | (simp [inR, Cont.cells]; omega)))
 | ((with_reducible apply If_dec) <;> intro hc <;> (try (exfalso; omega)))
 | ((with_reducible apply If_any) <;> intro hc)
 | ((with_reducible first | apply PF.mk | apply DrawP.mk); (focus kernel_rfl))
 | ((with_reducible apply Same.mk); (focus rfl); (first | exact trivial | exact rfl))
 | (intro cap hcap)
 | ((fail_if_success (with_reducible first | apply Fin.mk | apply CallP.mk | apply LoopP.mk | apply VC.mk | apply falseMk | apply Round.mk | apply Eq.symm)); conv => whnf))
    refine lopen_at C1 p z ⟨l1.1, by omega, f4, f5, f6, l1.2⟩ ⟨rfl, rfl, rfl, trivial⟩ ?_
    repeat' (first
 | (with_reducible first | exact True.intro | apply And.intro | apply If_true | apply If_false | apply If_not)
 | ((with_reducible apply VC.mk); (first | trivial | omega | (simp only [inR]; omega) | (exact ⟨rfl, List.prefix_rfl⟩) | (refine ⟨rfl, rfl, rfl, ?_, rfl⟩; (simp; done)) | (focus (repeat' (first | exact True.intro | apply And.intro | rfl | exact Nat.le_of_ble_eq_true rfl)); done) | (simp [inR, Cont.cells]; done) | (simp [inR, Cont.cells]; omega)))
 | ((with_reducible apply If_dec) <;> intro hc <;> (try (exfalso; omega)))
 | ((with_reducible apply If_any) <;> intro hc)
 | ((with_reducible first | apply PF.mk | apply DrawP.mk); (focus kernel_rfl))
 | ((with_reducible apply Same.mk); (focus rfl); (first | exact trivial | exact rfl))
 | (intro cap hcap)
 | ((fail_if_success (with_reducible first | apply Fin.mk | apply CallP.mk | apply LoopP.mk | apply VC.mk | apply falseMk | apply Round.mk | apply Eq.symm)); conv => whnf))
    refine stop_at (DF.mk0 C1) (1 + IntKind.u64.wrap c1 % 30) 5 ⟨Int.le_refl _, by show (0 : Int) ≤ _; decide⟩ rfl ⟨rfl, rfl, trivial⟩ (fun _ => ?_)
    obtain ⟨s4, hs4⟩ : ∃ s4 : DF, s4 = { DF.mk0 C1 with stop := if 0 < 1 + IntKind.u64.wrap c1 % 30 ∧ 1 + IntKind.u64.wrap c1 % 30 ≤ 65536 then (DF.mk0 C1).ops + (1 + IntKind.u64.wrap c1 % 30) else 0 } := ⟨_, rfl⟩
    rw [← hs4]
    have b1 : s4.safe = C1 := by rw [hs4]; rfl
    have b2 : s4.now = C1 := by rw [hs4]; rfl
    have b4 : s4.items = [] := by rw [hs4]; rfl
    have b5 : s4.Ok 0 := by
      rw [hs4]
      have o := DF.Ok.zero (b := C1) l1.1
      exact ⟨o.safe, o.now, o.its, o.len, o.ops, o.wrote, o.all⟩
    clear hs4
    have b6 := replay_cr (s := s4) hJ hzz cr1 b1 b2 b4
    have b7 := (replay_ok (z := zz) b5 (by rw [b2]; exact cr1.1) hJ.ok hzzl).1
    rw [hj] at b6 b7
    repeat' (first
 | (with_reducible first | exact True.intro | apply And.intro | apply If_true | apply If_false | apply If_not)
 | ((with_reducible apply VC.mk); (first | trivial | omega | (simp only [inR]; omega) | (exact ⟨rfl, List.prefix_rfl⟩) | (refine ⟨rfl, rfl, rfl, ?_, rfl⟩; (simp; done)) | (focus (repeat' (first | exact True.intro | apply And.intro | rfl | exact Nat.le_of_ble_eq_true rfl)); done) | (simp [inR, Cont.cells]; done) | (simp [inR, Cont.cells]; omega)))
 | ((with_reducible apply If_dec) <;> intro hc <;> (try (exfalso; omega)))
 | ((with_reducible apply If_any) <;> intro hc)
 | ((with_reducible first | apply PF.mk | apply DrawP.mk); (focus kernel_rfl))
 | ((with_reducible apply Same.mk); (focus rfl); (first | exact trivial | exact rfl))
 | (intro cap hcap)
 | ((fail_if_success (with_reducible first | apply Fin.mk | apply CallP.mk | apply LoopP.mk | apply VC.mk | apply falseMk | apply Round.mk | apply Eq.symm)); conv => whnf))
    refine replay_at (⟨p, z, 0⟩ : JR) s4 0 zz 6 5 ⟨by rw [← hj]; exact hJ.ok, b5, by decide, by rw [b2]; exact cr1.1, hzz⟩ rfl rfl rfl ⟨rfl, trivial⟩ ?_
    intro x hx
    rw [← hx] at b6 b7
    rw [← hj] at b6
    repeat' (first
 | (with_reducible first | exact True.intro | apply And.intro | apply If_true | apply If_false | apply If_not)
 | ((with_reducible apply VC.mk); (first | trivial | omega | (simp only [inR]; omega) | (exact ⟨rfl, List.prefix_rfl⟩) | (refine ⟨rfl, rfl, rfl, ?_, rfl⟩; (simp; done)) | (focus (repeat' (first | exact True.intro | apply And.intro | rfl | exact Nat.le_of_ble_eq_true rfl)); done) | (simp [inR, Cont.cells]; done) | (simp [inR, Cont.cells]; omega)))
 | ((with_reducible apply If_dec) <;> intro hc <;> (try (exfalso; omega)))
 | ((with_reducible apply If_any) <;> intro hc)
 | ((with_reducible first | apply PF.mk | apply DrawP.mk); (focus kernel_rfl))
 | ((with_reducible apply Same.mk); (focus rfl); (first | exact trivial | exact rfl))
 | (intro cap hcap)
 | ((fail_if_success (with_reducible first | apply Fin.mk | apply CallP.mk | apply LoopP.mk | apply VC.mk | apply falseMk | apply Round.mk | apply Eq.symm)); conv => whnf))
    refine crash_at x.2.2.2 c3 5 ⟨b7.safe, by omega, by have := b7.len; omega, b7.its⟩ rfl ⟨rfl, ⟨rfl, rfl, ⟨rfl, rfl, fun _ _ => rfl⟩⟩, trivial⟩ ?_
    intro C2 hC2
    have cr2 : Cr j b c.recs C2 := by rw [hC2]; exact b6 c3
    have l2 := crl C2 cr2
    clear hC2
    repeat' (first
 | (with_reducible first | exact True.intro | apply And.intro | apply If_true | apply If_false | apply If_not)
 | ((with_reducible apply VC.mk); (first | trivial | omega | (simp only [inR]; omega) | (exact ⟨rfl, List.prefix_rfl⟩) | (refine ⟨rfl, rfl, rfl, ?_, rfl⟩; (simp; done)) | (focus (repeat' (first | exact True.intro | apply And.intro | rfl | exact Nat.le_of_ble_eq_true rfl)); done) | (simp [inR, Cont.cells]; done) | (simp [inR, Cont.cells]; omega)))
 | ((with_reducible apply If_dec) <;> intro hc <;> (try (exfalso; omega)))
 | ((with_reducible apply If_any) <;> intro hc)
 | ((with_reducible first | apply PF.mk | apply DrawP.mk); (focus kernel_rfl))
 | ((with_reducible apply Same.mk); (focus rfl); (first | exact trivial | exact rfl))
 | (intro cap hcap)
 | ((fail_if_success (with_reducible first | apply Fin.mk | apply CallP.mk | apply LoopP.mk | apply VC.mk | apply falseMk | apply Round.mk | apply Eq.symm)); conv => whnf))
    refine lopen_at C2 p z ⟨l2.1, by omega, f4, f5, f6, l2.2⟩ ⟨rfl, rfl, rfl, trivial⟩ ?_
    have d1 := replay_end (s := DF.mk0 C2) hJ hzz cr2 rfl rfl rfl ⟨rfl, rfl⟩
    have d2 := replay_ok (z := zz) (DF.Ok.zero l2.1) cr2.1 hJ.ok hzzl
    repeat' (first
 | (with_reducible first | exact True.intro | apply And.intro | apply If_true | apply If_false | apply If_not)
 | ((with_reducible apply VC.mk); (first | trivial | omega | (simp only [inR]; omega) | (exact ⟨rfl, List.prefix_rfl⟩) | (refine ⟨rfl, rfl, rfl, ?_, rfl⟩; (simp; done)) | (focus (repeat' (first | exact True.intro | apply And.intro | rfl | exact Nat.le_of_ble_eq_true rfl)); done) | (simp [inR, Cont.cells]; done) | (simp [inR, Cont.cells]; omega)))
 | ((with_reducible apply If_dec) <;> intro hc <;> (try (exfalso; omega)))
 | ((with_reducible apply If_any) <;> intro hc)
 | ((with_reducible first | apply PF.mk | apply DrawP.mk); (focus kernel_rfl))
 | ((with_reducible apply Same.mk); (focus rfl); (first | exact trivial | exact rfl))
 | (intro cap hcap)
 | ((fail_if_success (with_reducible first | apply Fin.mk | apply CallP.mk | apply LoopP.mk | apply VC.mk | apply falseMk | apply Round.mk | apply Eq.symm)); conv => whnf))
    rw [hj] at d1 d2
    refine replay_at (⟨p, z, 0⟩ : JR) (DF.mk0 C2) 0 zz 8 7 ⟨by rw [← hj]; exact hJ.ok, DF.Ok.zero l2.1, by decide, cr2.1, hzz⟩ rfl rfl rfl ⟨rfl, trivial⟩ ?_
    intro y hy
    rw [← hy] at d1 d2
    rw [← hj] at d1 d2
    clear hy
    obtain ⟨n1, n2, n3, n4, n5, n6, n7⟩ := d1
    obtain ⟨o1, o2, q, o3⟩ := d2
    have lj : p + z ≤ y.2.2.2.safe.length ∧ y.2.2.2.safe.length ≤ 4194304 := by
      rcases n6 with n6 | n6
      · rw [n6.1]; omega
      · have := doneL_length c.recs b hJ.at_
        have := endL_ge c.recs b.length
        rw [n6.1]; omega
    have ra := replay_again (j := j) (q := q) (z := zz) n2 n4 n7 (by rw [n4]; omega)
    rw [← o3] at ra
    repeat' (first
 | (with_reducible first | exact True.intro | apply And.intro | apply If_true | apply If_false | apply If_not)
 | ((with_reducible apply VC.mk); (first | trivial | omega | (simp only [inR]; omega) | (exact ⟨rfl, List.prefix_rfl⟩) | (refine ⟨rfl, rfl, rfl, ?_, rfl⟩; (simp; done)) | (focus (repeat' (first | exact True.intro | apply And.intro | rfl | exact Nat.le_of_ble_eq_true rfl)); done) | (simp [inR, Cont.cells]; done) | (simp [inR, Cont.cells]; omega)))
 | ((with_reducible apply If_dec) <;> intro hc <;> (try (exfalso; omega)))
 | ((with_reducible apply If_any) <;> intro hc)
 | ((with_reducible first | apply PF.mk | apply DrawP.mk); (focus kernel_rfl))
 | ((with_reducible apply Same.mk); (focus rfl); (first | exact trivial | exact rfl))
 | (intro cap hcap)
 | ((fail_if_success (with_reducible first | apply Fin.mk | apply CallP.mk | apply LoopP.mk | apply VC.mk | apply falseMk | apply Round.mk | apply Eq.symm)); conv => whnf))
    refine replay_at y.2.2.1 y.2.2.2 (0 + 5000000) zz 8 7 ⟨o2, o1, by decide, by rw [n4]; exact n5, hzz⟩ rfl rfl rfl ⟨rfl, trivial⟩ ?_
    intro w hw
    rw [ra] at hw
    have w1 : w.1 = 0 := by rw [hw]
    have w2 : w.2.1 = 0 := by rw [hw]
    have w3 : w.2.2.2.now = y.2.2.2.safe := by rw [hw]; exact n4
    have w4 : w.2.2.2.now.length ≤ 1099511627776 := by rw [w3]; omega
    clear hw ra
    repeat' (first
 | (with_reducible first | exact True.intro | apply And.intro | apply If_true | apply If_false | apply If_not)
 | ((with_reducible apply VC.mk); (first | trivial | omega | (simp only [inR]; omega) | (exact ⟨rfl, List.prefix_rfl⟩) | (refine ⟨rfl, rfl, rfl, ?_, rfl⟩; (simp; done)) | (focus (repeat' (first | exact True.intro | apply And.intro | rfl | exact Nat.le_of_ble_eq_true rfl)); done) | (simp [inR, Cont.cells]; done) | (simp [inR, Cont.cells]; omega)))
 | ((with_reducible apply If_dec) <;> intro hc <;> (try (exfalso; omega)))
 | ((with_reducible apply If_any) <;> intro hc)
 | ((with_reducible first | apply PF.mk | apply DrawP.mk); (focus kernel_rfl))
 | ((with_reducible apply Same.mk); (focus rfl); (first | exact trivial | exact rfl))
 | (intro cap hcap)
 | ((fail_if_success (with_reducible first | apply Fin.mk | apply CallP.mk | apply LoopP.mk | apply VC.mk | apply falseMk | apply Round.mk | apply Eq.symm)); conv => whnf))
    refine bytes_at w.2.2.2 7 w4 rfl ⟨rfl, trivial⟩ ?_
    intro now hnow
    rw [w3] at hnow
    repeat' (first
 | (with_reducible first | exact True.intro | apply And.intro | apply If_true | apply If_false | apply If_not)
 | ((with_reducible apply VC.mk); (first | trivial | omega | (simp only [inR]; omega) | (exact ⟨rfl, List.prefix_rfl⟩) | (refine ⟨rfl, rfl, rfl, ?_, rfl⟩; (simp; done)) | (focus (repeat' (first | exact True.intro | apply And.intro | rfl | exact Nat.le_of_ble_eq_true rfl)); done) | (simp [inR, Cont.cells]; done) | (simp [inR, Cont.cells]; omega)))
 | ((with_reducible apply If_dec) <;> intro hc <;> (try (exfalso; omega)))
 | ((with_reducible apply If_any) <;> intro hc)
 | ((with_reducible first | apply PF.mk | apply DrawP.mk); (focus kernel_rfl))
 | ((with_reducible apply Same.mk); (focus rfl); (first | exact trivial | exact rfl))
 | (intro cap hcap)
 | ((fail_if_success (with_reducible first | apply Fin.mk | apply CallP.mk | apply LoopP.mk | apply VC.mk | apply falseMk | apply Round.mk | apply Eq.symm)); conv => whnf))
    refine zeros_at z ⟨by omega, by omega⟩ ⟨rfl, trivial⟩ ?_
    intro blank hblank
    have hbl : blank.length = z.toNat := by rw [hblank]; exact List.length_replicate ..
    clear hblank
    repeat' (first
 | (with_reducible first | exact True.intro | apply And.intro | apply If_true | apply If_false | apply If_not)
 | ((with_reducible apply VC.mk); (first | trivial | omega | (simp only [inR]; omega) | (exact ⟨rfl, List.prefix_rfl⟩) | (refine ⟨rfl, rfl, rfl, ?_, rfl⟩; (simp; done)) | (focus (repeat' (first | exact True.intro | apply And.intro | rfl | exact Nat.le_of_ble_eq_true rfl)); done) | (simp [inR, Cont.cells]; done) | (simp [inR, Cont.cells]; omega)))
 | ((with_reducible apply If_dec) <;> intro hc <;> (try (exfalso; omega)))
 | ((with_reducible apply If_any) <;> intro hc)
 | ((with_reducible first | apply PF.mk | apply DrawP.mk); (focus kernel_rfl))
 | ((with_reducible apply Same.mk); (focus rfl); (first | exact trivial | exact rfl))
 | (intro cap hcap)
 | ((fail_if_success (with_reducible first | apply Fin.mk | apply CallP.mk | apply LoopP.mk | apply VC.mk | apply falseMk | apply Round.mk | apply Eq.symm)); conv => whnf))
    refine with_at b p.toNat blank ⟨by omega, by omega⟩ ⟨⟨rfl, rfl, rfl⟩, by show _ = AV.v (.int .i64 _); rw [Int.toNat_of_nonneg hpz.1], ⟨rfl, rfl, rfl⟩, trivial⟩ ?_
    intro old hold
    have hol : old.length = b.length := by rw [hold, putG_length (by omega)]; omega
    have hdl : (doneL c.recs b).length = endL c.recs b.length := doneL_length c.recs b hJ.at_
    have hge := endL_ge c.recs b.length
    repeat' (first
 | (with_reducible first | exact True.intro | apply And.intro | apply If_true | apply If_false | apply If_not)
 | ((with_reducible apply VC.mk); (first | trivial | omega | (simp only [inR]; omega) | (exact ⟨rfl, List.prefix_rfl⟩) | (refine ⟨rfl, rfl, rfl, ?_, rfl⟩; (simp; done)) | (focus (repeat' (first | exact True.intro | apply And.intro | rfl | exact Nat.le_of_ble_eq_true rfl)); done) | (simp [inR, Cont.cells]; done) | (simp [inR, Cont.cells]; omega)))
 | ((with_reducible apply If_dec) <;> intro hc <;> (try (exfalso; omega)))
 | ((with_reducible apply If_any) <;> intro hc)
 | ((with_reducible first | apply PF.mk | apply DrawP.mk); (focus kernel_rfl))
 | ((with_reducible apply Same.mk); (focus rfl); (first | exact trivial | exact rfl))
 | (intro cap hcap)
 | ((fail_if_success (with_reducible first | apply Fin.mk | apply CallP.mk | apply LoopP.mk | apply VC.mk | apply falseMk | apply Round.mk | apply Eq.symm)); conv => whnf))
    refine rdone_at b c.recs p ⟨by omega, by omega, fun r hr => by have m := hmay r hr; unfold mayP at m; exact ⟨m.1, hJ.at_ r hr, m.2.2.1⟩, by omega, by omega⟩ ⟨rfl, rfl, rfl, trivial⟩ ?_
    intro dn hdn
    have hdnl : dn.length = endL c.recs b.length := by rw [hdn, putG_length (by omega), List.length_replicate]; omega
    repeat' (first
 | (with_reducible first | exact True.intro | apply And.intro | apply If_true | apply If_false | apply If_not)
 | ((with_reducible apply VC.mk); (first | trivial | omega | (simp only [inR]; omega) | (exact ⟨rfl, List.prefix_rfl⟩) | (refine ⟨rfl, rfl, rfl, ?_, rfl⟩; (simp; done)) | (focus (repeat' (first | exact True.intro | apply And.intro | rfl | exact Nat.le_of_ble_eq_true rfl)); done) | (simp [inR, Cont.cells]; done) | (simp [inR, Cont.cells]; omega)))
 | ((with_reducible apply If_dec) <;> intro hc <;> (try (exfalso; omega)))
 | ((with_reducible apply If_any) <;> intro hc)
 | ((with_reducible first | apply PF.mk | apply DrawP.mk); (focus kernel_rfl))
 | ((with_reducible apply Same.mk); (focus rfl); (first | exact trivial | exact rfl))
 | (intro cap hcap)
 | ((fail_if_success (with_reducible first | apply Fin.mk | apply CallP.mk | apply LoopP.mk | apply VC.mk | apply falseMk | apply Round.mk | apply Eq.symm)); conv => whnf))
    refine with_at dn p.toNat blank ⟨by omega, by omega⟩ ⟨⟨rfl, rfl, rfl⟩, by show _ = AV.v (.int .i64 _); rw [Int.toNat_of_nonneg hpz.1], ⟨rfl, rfl, rfl⟩, trivial⟩ ?_
    intro new hnew
    have hnl : b.length ≤ now.length := by
      rw [hnow]
      rcases n6 with n6 | n6
      · rw [n6.1]; omega
      · rw [n6.1]; omega
    have hcmp : putG now p.toNat blank = old ∨ putG now p.toNat blank = new := by
      rw [hnow, hold, hnew, hdn]
      rcases n6 with n6 | n6
      · left
        have := eqJ_put (blank := blank) n6 (by omega) (by omega)
        rw [hjp] at this
        exact this
      · right
        have := eqJ_put (blank := blank) n6 (by omega) (by omega)
        rw [hjp] at this
        rw [this, putG_over (by omega) (by rw [List.length_replicate]; omega)]
    have hn2 : now.length ≤ 4194304 := by rw [hnow]; exact lj.2
    have hn3 : p.toNat + blank.length ≤ now.length := by rw [hnow]; omega
    clear hnow hold hnew hdn
    repeat' (first
 | (with_reducible first | exact True.intro | apply And.intro | apply If_true | apply If_false | apply If_not)
 | ((with_reducible apply VC.mk); (first | trivial | omega | (simp only [inR]; omega) | (exact ⟨rfl, List.prefix_rfl⟩) | (refine ⟨rfl, rfl, rfl, ?_, rfl⟩; (simp; done)) | (focus (repeat' (first | exact True.intro | apply And.intro | rfl | exact Nat.le_of_ble_eq_true rfl)); done) | (simp [inR, Cont.cells]; done) | (simp [inR, Cont.cells]; omega)))
 | ((with_reducible apply If_dec) <;> intro hc <;> (try (exfalso; omega)))
 | ((with_reducible apply If_any) <;> intro hc)
 | ((with_reducible first | apply PF.mk | apply DrawP.mk); (focus kernel_rfl))
 | ((with_reducible apply Same.mk); (focus rfl); (first | exact trivial | exact rfl))
 | (intro cap hcap)
 | ((fail_if_success (with_reducible first | apply Fin.mk | apply CallP.mk | apply LoopP.mk | apply VC.mk | apply falseMk | apply Round.mk | apply Eq.symm)); conv => whnf))
    refine with_at now p.toNat blank ⟨hn3, by omega⟩ ⟨⟨rfl, rfl, rfl⟩, by show _ = AV.v (.int .i64 _); rw [Int.toNat_of_nonneg hpz.1], ⟨rfl, rfl, rfl⟩, trivial⟩ ?_
    intro rest hrest
    rw [← hrest] at hcmp
    clear hrest
    repeat' (first
 | (with_reducible first | exact True.intro | apply And.intro | apply If_true | apply If_false | apply If_not)
 | ((with_reducible apply VC.mk); (first | trivial | omega | (simp only [inR]; omega) | (exact ⟨rfl, List.prefix_rfl⟩) | (refine ⟨rfl, rfl, rfl, ?_, rfl⟩; (simp; done)) | (focus (repeat' (first | exact True.intro | apply And.intro | rfl | exact Nat.le_of_ble_eq_true rfl)); done) | (simp [inR, Cont.cells]; done) | (simp [inR, Cont.cells]; omega)))
 | ((with_reducible apply If_dec) <;> intro hc <;> (try (exfalso; omega)))
 | ((with_reducible apply If_any) <;> intro hc)
 | ((with_reducible first | apply PF.mk | apply DrawP.mk); (focus kernel_rfl))
 | ((with_reducible apply Same.mk); (focus rfl); (first | exact trivial | exact rfl))
 | (intro cap hcap)
 | ((fail_if_success (with_reducible first | apply Fin.mk | apply CallP.mk | apply LoopP.mk | apply VC.mk | apply falseMk | apply Round.mk | apply Eq.symm)); conv => whnf))
    refine same_at rest old ⟨⟨rfl, rfl, rfl⟩, ⟨rfl, rfl, rfl⟩, trivial⟩ ?_
    by_cases hs : strOf rest = strOf old
    · rw [decide_eq_true hs]
      repeat' (first
 | (with_reducible first | exact True.intro | apply And.intro | apply If_true | apply If_false | apply If_not)
 | ((with_reducible apply VC.mk); (first | trivial | omega | (simp only [inR]; omega) | (exact ⟨rfl, List.prefix_rfl⟩) | (refine ⟨rfl, rfl, rfl, ?_, rfl⟩; (simp; done)) | (focus (repeat' (first | exact True.intro | apply And.intro | rfl | exact Nat.le_of_ble_eq_true rfl)); done) | (simp [inR, Cont.cells]; done) | (simp [inR, Cont.cells]; omega)))
 | ((with_reducible apply If_dec) <;> intro hc <;> (try (exfalso; omega)))
 | ((with_reducible apply If_any) <;> intro hc)
 | ((with_reducible first | apply PF.mk | apply DrawP.mk); (focus kernel_rfl))
 | ((with_reducible apply Same.mk); (focus rfl); (first | exact trivial | exact rfl))
 | (intro cap hcap)
 | ((fail_if_success (with_reducible first | apply Fin.mk | apply CallP.mk | apply LoopP.mk | apply VC.mk | apply falseMk | apply Round.mk | apply Eq.symm)); conv => whnf))
      exact Fin.bool rfl hk
    · rw [decide_eq_false hs]
      have hn : rest = new := by
        rcases hcmp with h | h
        · exact absurd (congrArg strOf h) hs
        · exact h
      repeat' (first
 | (with_reducible first | exact True.intro | apply And.intro | apply If_true | apply If_false | apply If_not)
 | ((with_reducible apply VC.mk); (first | trivial | omega | (simp only [inR]; omega) | (exact ⟨rfl, List.prefix_rfl⟩) | (refine ⟨rfl, rfl, rfl, ?_, rfl⟩; (simp; done)) | (focus (repeat' (first | exact True.intro | apply And.intro | rfl | exact Nat.le_of_ble_eq_true rfl)); done) | (simp [inR, Cont.cells]; done) | (simp [inR, Cont.cells]; omega)))
 | ((with_reducible apply If_dec) <;> intro hc <;> (try (exfalso; omega)))
 | ((with_reducible apply If_any) <;> intro hc)
 | ((with_reducible first | apply PF.mk | apply DrawP.mk); (focus kernel_rfl))
 | ((with_reducible apply Same.mk); (focus rfl); (first | exact trivial | exact rfl))
 | (intro cap hcap)
 | ((fail_if_success (with_reducible first | apply Fin.mk | apply CallP.mk | apply LoopP.mk | apply VC.mk | apply falseMk | apply Round.mk | apply Eq.symm)); conv => whnf))
      refine same_at rest new ⟨⟨rfl, rfl, rfl⟩, ⟨rfl, rfl, rfl⟩, trivial⟩ ?_
      rw [decide_eq_true (congrArg strOf hn)]
      repeat' (first
 | (with_reducible first | exact True.intro | apply And.intro | apply If_true | apply If_false | apply If_not)
 | ((with_reducible apply VC.mk); (first | trivial | omega | (simp only [inR]; omega) | (exact ⟨rfl, List.prefix_rfl⟩) | (refine ⟨rfl, rfl, rfl, ?_, rfl⟩; (simp; done)) | (focus (repeat' (first | exact True.intro | apply And.intro | rfl | exact Nat.le_of_ble_eq_true rfl)); done) | (simp [inR, Cont.cells]; done) | (simp [inR, Cont.cells]; omega)))
 | ((with_reducible apply If_dec) <;> intro hc <;> (try (exfalso; omega)))
 | ((with_reducible apply If_any) <;> intro hc)
 | ((with_reducible first | apply PF.mk | apply DrawP.mk); (focus kernel_rfl))
 | ((with_reducible apply Same.mk); (focus rfl); (first | exact trivial | exact rfl))
 | (intro cap hcap)
 | ((fail_if_success (with_reducible first | apply Fin.mk | apply CallP.mk | apply LoopP.mk | apply VC.mk | apply falseMk | apply Round.mk | apply Eq.symm)); conv => whnf))
      exact Fin.bool rfl hk
end Go.Proofs.Ytjccknmgmommcaa.Sx

