import Derived.Test.YtjccknmgmommcaaSxJ6
import Derived.Test.YtjccknmgmommcaaSxL5
set_option linter.unusedVariables false
set_option linter.unusedSimpArgs false
set_option maxRecDepth 10000
namespace Go.Proofs.Ytjccknmgmommcaa.Sx
open Go.RowKit Go.Proofs.Ytjccknmgmommcaa.Sx.Tb
/-! ### Replay, New -/
def applyOps (j : JR) (z : List Int) (rs : List RecR) : List FOp := wrs rs ++ [.fl, .wr j.pos z, .fl]
/-- A replay: how many, an error's number, the journal, the file. -/
def DF.replay (j : JR) (z : List Int) (s : DF) : Int × Int × JR × DF :=
  match (s.pend j).2.1 with
  | some rs => (rs.length, (s.asked.run (applyOps j z rs)).1, (s.pend j).2.2, (s.asked.run (applyOps j z rs)).2)
  | none => (0, (s.pend j).1, j, s.asked)
def newE (s : DF) (pos size : Int) : Int := if pos < 0 ∨ pos % 512 ≠ 0 ∨ size % 512 ≠ 0 then 19 else if size < 1024 ∨ (s.now.length : Int) < pos ∨ (s.now.length : Int) - pos < size then 4 else 0
theorem tmod512 (a : Int) : a.tmod 512 = 0 ↔ a % 512 = 0 := by
  rw [← Int.dvd_iff_tmod_eq_zero, ← Int.dvd_iff_emod_eq_zero]
set_option maxHeartbeats 16000000 in
theorem jnew_c (s : DF) (pos size : Int) (k : K) (h0 : s.now.length ≤ 4194304 ∧ inR .i64 size ∧ inR .i64 pos) (hk1 : newE s pos size ≠ 0 → k (.tup [.v (.pointer none), .v (.int .i64 (newE s pos size))]) [s.pk]) (hk2 : newE s pos size = 0 → k (.tup [.p 1 0 1 0, .v (.int .i64 0)]) [s.pk, JR.blk ⟨pos, size, 0⟩ 0]) : evFunc tab [16, 21] [] Go.Proofs.Try.f62 [.p 0 0 1 0, .v (.int .i64 pos), .v (.int .i64 size)] [s.pk] k := by
  obtain ⟨h1, h2, h3⟩ := h0
  have t1 := tmod512 pos
  have t2 := tmod512 size
  repeat' (first
 | (with_reducible first | exact True.intro | apply And.intro | apply If_true | apply If_false | apply If_not)
 | ((with_reducible apply VC.mk); (first | trivial | omega | (simp only [inR]; omega) | (exact ⟨rfl, List.prefix_rfl⟩) | (refine ⟨rfl, rfl, rfl, ?_, rfl⟩; (simp; done)) | (focus (repeat' (first | exact True.intro | apply And.intro | rfl | exact Nat.le_of_ble_eq_true rfl)); done) | (simp [inR, Cont.cells]; done) | (simp [inR, Cont.cells]; omega)))
 | ((with_reducible apply If_dec) <;> intro hc <;> (try (exfalso; omega)))
 | ((with_reducible apply If_any) <;> intro hc)
 | ((with_reducible first | apply PF.mk | apply DrawP.mk); (focus kernel_rfl))
 | ((with_reducible apply Same.mk); (focus rfl); (first | exact trivial | exact rfl))
 | (intro cap hcap)
 | ((fail_if_success (with_reducible first | apply Fin.mk | apply CallP.mk | apply LoopP.mk | apply VC.mk | apply falseMk | apply Round.mk | apply LookP.mk | apply RangeP.mk | apply NextP.mk | apply EntryP.mk | apply Eq.symm)); conv => whnf))
  · have e : newE s pos size = 19 := by unfold newE; rw [if_pos (.inl hc)]
    exact Fin.same (by rw [← e]; exact hk1 (by rw [e]; decide))
  · have e : newE s pos size = 19 := by unfold newE; rw [if_pos (.inr (.inl (fun h => hc (t1.2 h))))]
    exact Fin.same (by rw [← e]; exact hk1 (by rw [e]; decide))
  · have e : newE s pos size = 19 := by unfold newE; rw [if_pos (.inr (.inr (fun h => hc (t2.2 h))))]
    exact Fin.same (by rw [← e]; exact hk1 (by rw [e]; decide))
  all_goals have c0 : ¬ (pos < 0 ∨ pos % 512 ≠ 0 ∨ size % 512 ≠ 0) := (by have y1 := t1.1 (Decidable.not_not.mp (by assumption)); have y2 := t2.1 (Decidable.not_not.mp (by assumption)); omega)
  · have e : newE s pos size = 4 := by unfold newE; rw [if_neg c0, if_pos (.inl hc)]
    exact Fin.same (by rw [← e]; exact hk1 (by rw [e]; decide))
  refine len_at s 0 (by omega) rfl ⟨rfl, trivial⟩ (fun _ => ?_)
  repeat' (first
 | (with_reducible first | exact True.intro | apply And.intro | apply If_true | apply If_false | apply If_not)
 | ((with_reducible apply VC.mk); (first | trivial | omega | (simp only [inR]; omega) | (exact ⟨rfl, List.prefix_rfl⟩) | (refine ⟨rfl, rfl, rfl, ?_, rfl⟩; (simp; done)) | (focus (repeat' (first | exact True.intro | apply And.intro | rfl | exact Nat.le_of_ble_eq_true rfl)); done) | (simp [inR, Cont.cells]; done) | (simp [inR, Cont.cells]; omega)))
 | ((with_reducible apply If_dec) <;> intro hc <;> (try (exfalso; omega)))
 | ((with_reducible apply If_any) <;> intro hc)
 | ((with_reducible first | apply PF.mk | apply DrawP.mk); (focus kernel_rfl))
 | ((with_reducible apply Same.mk); (focus rfl); (first | exact trivial | exact rfl))
 | (intro cap hcap)
 | ((fail_if_success (with_reducible first | apply Fin.mk | apply CallP.mk | apply LoopP.mk | apply VC.mk | apply falseMk | apply Round.mk | apply LookP.mk | apply RangeP.mk | apply NextP.mk | apply EntryP.mk | apply Eq.symm)); conv => whnf))
  · have e : newE s pos size = 4 := by unfold newE; rw [if_neg c0, if_pos (.inr (.inl hc))]
    exact Fin.same (by rw [← e]; exact hk1 (by rw [e]; decide))
  refine len_at s 0 (by omega) rfl ⟨rfl, trivial⟩ (fun _ => ?_)
  repeat' (first
 | (with_reducible first | exact True.intro | apply And.intro | apply If_true | apply If_false | apply If_not)
 | ((with_reducible apply VC.mk); (first | trivial | omega | (simp only [inR]; omega) | (exact ⟨rfl, List.prefix_rfl⟩) | (refine ⟨rfl, rfl, rfl, ?_, rfl⟩; (simp; done)) | (focus (repeat' (first | exact True.intro | apply And.intro | rfl | exact Nat.le_of_ble_eq_true rfl)); done) | (simp [inR, Cont.cells]; done) | (simp [inR, Cont.cells]; omega)))
 | ((with_reducible apply If_dec) <;> intro hc <;> (try (exfalso; omega)))
 | ((with_reducible apply If_any) <;> intro hc)
 | ((with_reducible first | apply PF.mk | apply DrawP.mk); (focus kernel_rfl))
 | ((with_reducible apply Same.mk); (focus rfl); (first | exact trivial | exact rfl))
 | (intro cap hcap)
 | ((fail_if_success (with_reducible first | apply Fin.mk | apply CallP.mk | apply LoopP.mk | apply VC.mk | apply falseMk | apply Round.mk | apply LookP.mk | apply RangeP.mk | apply NextP.mk | apply EntryP.mk | apply Eq.symm)); conv => whnf))
  · have e : newE s pos size = 4 := by unfold newE; rw [if_neg c0, if_pos (.inr (.inr hc))]
    exact Fin.same (by rw [← e]; exact hk1 (by rw [e]; decide))
  · have e : newE s pos size = 0 := by unfold newE; rw [if_neg c0, if_neg (by omega)]
    exact Fin.same (hk2 e)
end Go.Proofs.Ytjccknmgmommcaa.Sx

