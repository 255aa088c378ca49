import Derived.Test.YtjccknmgmommcaaSxN1
import Derived.Test.YtjccknmgmommcaaSxK1
set_option linter.unusedVariables false
set_option linter.unusedSimpArgs false
set_option maxRecDepth 10000
namespace Go.Proofs.Ytjccknmgmommcaa.Sx
open Go.RowKit Go.Proofs.Ytjccknmgmommcaa.Sx.Tb
/-! ### begun, for the counts -/
theorem HD.r_vals {H : Int} (h : 40 ≤ H ∧ H ≤ 99) : (HD.r H).clus = 512 ∧ (HD.r H).refs = 1 ∧ (HD.r H).jend = 15360 ∧ (HD.r H).rend = 15872 ∧ (HD.r H).first = 33 := by
  have c : (HD.r H).clus = 512 := by unfold HD.clus HD.r; rw [if_neg (by simp)]; rfl
  have r : (HD.r H).refs = 1 := by
    unfold HD.refs; rw [c]
    show (2 * max 0 (min H 8192) + 512 - 1) / 512 = 1
    omega
  have e : (HD.r H).jend = 15360 := by
    unfold HD.jend; rw [c]
    show 512 * (1 + max 0 (min 29 8192)) = (15360 : Int)
    decide
  have e2 : (HD.r H).rend = 15872 := by
    unfold HD.rend; rw [c, r, e]; decide
  refine ⟨c, r, e, e2, ?_⟩
  unfold HD.first; rw [c, e2]; decide
theorem HD.r_check {H : Int} (h : 40 ≤ H ∧ H ≤ 99) : (HD.r H).checkV = 0 := by
  obtain ⟨c, r, e, e2, f⟩ := HD.r_vals h
  have g : (HD.r H).guest = 64 := by
    unfold HD.guest; rw [c]; show (max 0 (min 32768 16777216) + 512 - 1) / 512 = (64 : Int); decide
  have l : (HD.r H).least = 28 := by
    unfold HD.least; rw [c, r]; decide
  unfold HD.checkV
  rw [c, g, l, f]
  show (if (9 : Int) < 9 ∨ 12 < (9 : Int) then _ else if (32768 : Int) < 512 ∨ 16777216 < (32768 : Int) ∨ (32768 : Int) % 512 ≠ 0 then _ else if (512 : Int) / 8 * (512 / 8) < 64 then _ else if H < 1 ∨ 8192 < H ∨ 4194304 < H * 512 then _ else if (29 : Int) < 28 ∨ 8192 < (29 : Int) ∨ H < 33 then _ else _) = _
  rw [if_neg (by decide), if_neg (by decide), if_neg (by decide), if_neg (by omega), if_neg (by omega)]
def oneAt (c i : Nat) : Int := if 15360 ≤ i ∧ i < 15360 + 2 * c ∧ i % 2 = 0 then 1 else 0
def RZ (c : Nat) (z : List Int) : Prop := z.length = 16896 ∧ ∀ i, z.getD i 0 = oneAt c i
theorem RZ.set {c : Nat} {z : List Int} (h : RZ c z) (hc : c < 33) : RZ (c + 1) (z.set (15360 + 2 * c) 1) := by
  refine ⟨by rw [List.length_set]; exact h.1, fun i => ?_⟩
  by_cases hi : i = 15360 + 2 * c
  · subst hi
    rw [List.getD_eq_getElem?_getD, List.getElem?_set_self (by rw [h.1]; omega)]
    unfold oneAt; rw [if_pos (by omega)]; rfl
  · rw [List.getD_eq_getElem?_getD, List.getElem?_set_ne (fun e => hi e.symm), ← List.getD_eq_getElem?_getD, h.2 i]
    unfold oneAt
    by_cases q : 15360 ≤ i ∧ i < 15360 + 2 * c ∧ i % 2 = 0
    · rw [if_pos q, if_pos (by omega)]
    · rw [if_neg q, if_neg (by omega)]
theorem RZ.zero : RZ 0 (List.replicate 16896 0) := by
  refine ⟨List.length_replicate .., fun i => ?_⟩
  unfold oneAt; rw [if_neg (by omega), List.getD_eq_getElem?_getD, List.getElem?_replicate]; split <;> rfl
set_option maxHeartbeats 8000000 in
theorem rbegun_c (H : Int) (k : K) (h0 : 40 ≤ H ∧ H ≤ 99) (hk : ∀ z : List Int, RZ 33 z → k (.tup [.p 4 0 1 0, .p 0 0 1 0, .v (.bool true)]) (tpre TR.zero ⟨512, 14848, 0⟩ (DF.mk0 z))) : evFunc tab [] p43 Go.Proofs.Try.f43 [.agg [.v (.int .i64 (HD.r H).bits), .v (.int .i64 (HD.r H).size), .v (.int .i64 (HD.r H).host), .v (.int .i64 (HD.r H).jr), .v (.bool (HD.r H).backed)]] [] k := by
  obtain ⟨vc, vr, vj, ve, vf⟩ := HD.r_vals h0
  have hr : hR (HD.r H) := by
    refine ⟨by simp [HD.r, inR], by simp [HD.r, inR], ?_, by simp [HD.r, inR]⟩
    show inR .i64 H
    simp only [inR]; omega
  have fst : ∀ {avs : List AV} {Hp : List Chunk} {k : K}, argsM Hp [] [.agg [.v (.int .i64 (HD.r H).bits), .v (.int .i64 (HD.r H).size), .v (.int .i64 (HD.r H).host), .v (.int .i64 (HD.r H).jr), .v (.bool (HD.r H).backed)]] avs → k (.v (.int .i64 33)) Hp → CallP Go.Proofs.Try.prog 54 avs Hp k := fun ha hq => hfirst_at (HD.r H) hr ha (fun r e => by rw [e, vf]; exact hq)
  repeat' (first
 | (with_reducible first | exact True.intro | apply And.intro | apply If_true | apply If_false | apply If_not)
 | ((with_reducible apply VC.mk); (first | trivial | omega | (simp only [inR]; omega) | (exact ⟨rfl, List.prefix_rfl⟩) | (refine ⟨rfl, rfl, rfl, ?_, rfl⟩; (simp; done)) | (focus (repeat' (first | exact True.intro | apply And.intro | rfl | exact Nat.le_of_ble_eq_true rfl)); done) | (simp [inR, Cont.cells]; done) | (simp [inR, Cont.cells]; omega)))
 | ((with_reducible apply If_dec) <;> intro hc <;> (try (exfalso; omega)))
 | ((with_reducible apply If_any) <;> intro hc)
 | ((with_reducible first | apply PF.mk | apply DrawP.mk); (focus kernel_rfl))
 | ((with_reducible apply Same.mk); (focus rfl); (first | exact trivial | exact rfl))
 | (intro cap hcap)
 | ((fail_if_success (with_reducible first | apply Fin.mk | apply CallP.mk | apply LoopP.mk | apply VC.mk | apply falseMk | apply Round.mk | apply LookP.mk | apply RangeP.mk | apply NextP.mk | apply EntryP.mk | apply Eq.symm)); conv => whnf))
  refine fst ⟨⟨rfl, rfl, rfl, rfl, rfl, trivial⟩, trivial⟩ ?_
  repeat' (first
 | (with_reducible first | exact True.intro | apply And.intro | apply If_true | apply If_false | apply If_not)
 | ((with_reducible apply VC.mk); (first | trivial | omega | (simp only [inR]; omega) | (exact ⟨rfl, List.prefix_rfl⟩) | (refine ⟨rfl, rfl, rfl, ?_, rfl⟩; (simp; done)) | (focus (repeat' (first | exact True.intro | apply And.intro | rfl | exact Nat.le_of_ble_eq_true rfl)); done) | (simp [inR, Cont.cells]; done) | (simp [inR, Cont.cells]; omega)))
 | ((with_reducible apply If_dec) <;> intro hc <;> (try (exfalso; omega)))
 | ((with_reducible apply If_any) <;> intro hc)
 | ((with_reducible first | apply PF.mk | apply DrawP.mk); (focus kernel_rfl))
 | ((with_reducible apply Same.mk); (focus rfl); (first | exact trivial | exact rfl))
 | (intro cap hcap)
 | ((fail_if_success (with_reducible first | apply Fin.mk | apply CallP.mk | apply LoopP.mk | apply VC.mk | apply falseMk | apply Round.mk | apply LookP.mk | apply RangeP.mk | apply NextP.mk | apply EntryP.mk | apply Eq.symm)); conv => whnf))
  refine hclus_at (HD.r H) hr ⟨⟨rfl, rfl, rfl, rfl, rfl, trivial⟩, trivial⟩ ?_
  intro r hr2
  obtain rfl : r = 512 := hr2.trans vc
  repeat' (first
 | (with_reducible first | exact True.intro | apply And.intro | apply If_true | apply If_false | apply If_not)
 | ((with_reducible apply VC.mk); (first | trivial | omega | (simp only [inR]; omega) | (exact ⟨rfl, List.prefix_rfl⟩) | (refine ⟨rfl, rfl, rfl, ?_, rfl⟩; (simp; done)) | (focus (repeat' (first | exact True.intro | apply And.intro | rfl | exact Nat.le_of_ble_eq_true rfl)); done) | (simp [inR, Cont.cells]; done) | (simp [inR, Cont.cells]; omega)))
 | ((with_reducible apply If_dec) <;> intro hc <;> (try (exfalso; omega)))
 | ((with_reducible apply If_any) <;> intro hc)
 | ((with_reducible first | apply PF.mk | apply DrawP.mk); (focus kernel_rfl))
 | ((with_reducible apply Same.mk); (focus rfl); (first | exact trivial | exact rfl))
 | (intro cap hcap)
 | ((fail_if_success (with_reducible first | apply Fin.mk | apply CallP.mk | apply LoopP.mk | apply VC.mk | apply falseMk | apply Round.mk | apply LookP.mk | apply RangeP.mk | apply NextP.mk | apply EntryP.mk | apply Eq.symm)); conv => whnf))
  refine zerosO_at 16896 ⟨by omega, by omega⟩ ⟨rfl, trivial⟩ ?_
  intro z hz
  have hz : RZ 0 z := by rw [show z = List.replicate 16896 0 from hz]; exact RZ.zero
  have hzl := hz.1
  repeat' (first
 | (with_reducible first | exact True.intro | apply And.intro | apply If_true | apply If_false | apply If_not)
 | ((with_reducible apply VC.mk); (first | trivial | omega | (simp only [inR]; omega) | (exact ⟨rfl, List.prefix_rfl⟩) | (refine ⟨rfl, rfl, rfl, ?_, rfl⟩; (simp; done)) | (focus (repeat' (first | exact True.intro | apply And.intro | rfl | exact Nat.le_of_ble_eq_true rfl)); done) | (simp [inR, Cont.cells]; done) | (simp [inR, Cont.cells]; omega)))
 | ((with_reducible apply If_dec) <;> intro hc <;> (try (exfalso; omega)))
 | ((with_reducible apply If_any) <;> intro hc)
 | ((with_reducible first | apply PF.mk | apply DrawP.mk); (focus kernel_rfl))
 | ((with_reducible apply Same.mk); (focus rfl); (first | exact trivial | exact rfl))
 | (intro cap hcap)
 | ((fail_if_success (with_reducible first | apply Fin.mk | apply CallP.mk | apply LoopP.mk | apply VC.mk | apply falseMk | apply Round.mk | apply LookP.mk | apply RangeP.mk | apply NextP.mk | apply EntryP.mk | apply Eq.symm)); conv => whnf))
  refine LoopP.mk ⟨Nat × List Int, fun y => y.1 ≤ 33 ∧ RZ y.1 y.2, fun y => ([(1, .p 0 0 1 0), (5, .s 1 0 1 z.length z.length), (6, .v (.int .i64 (y.1 : Int)))], [.blk 64 (.lst [.v (.int .i64 (HD.r H).bits), .v (.int .i64 (HD.r H).size), .v (.int .i64 (HD.r H).host), .v (.int .i64 (HD.r H).jr), .v (.bool (HD.r H).backed)]) 5, .blk 5 (.ints .u8 y.2) z.length]), fun y => 33 - y.1, (0, z), ⟨Nat.zero_le _, hz⟩, Fit.ren [0, 1] [] rfl rfl trivial ?_ ?_, ?_⟩
  · exact ⟨⟨VC.mk ⟨rfl, rfl⟩, VC.mk rfl, VC.mk rfl, VC.mk rfl, VC.mk rfl, VC.mk rfl, trivial⟩, ⟨VC.mk ⟨rfl, rfl⟩, VC.mk ⟨rfl, List.prefix_refl _⟩⟩, trivial⟩
  · repeat' (first
 | (with_reducible first | exact True.intro | apply And.intro | apply If_true | apply If_false | apply If_not)
 | ((with_reducible apply VC.mk); (first | trivial | omega | (simp only [inR]; omega) | (exact ⟨rfl, List.prefix_rfl⟩) | (refine ⟨rfl, rfl, rfl, ?_, rfl⟩; (simp; done)) | (focus (repeat' (first | exact True.intro | apply And.intro | rfl | exact Nat.le_of_ble_eq_true rfl)); done) | (simp [inR, Cont.cells]; done) | (simp [inR, Cont.cells]; omega)))
 | ((with_reducible apply If_dec) <;> intro hc <;> (try (exfalso; omega)))
 | ((with_reducible apply If_any) <;> intro hc)
 | ((with_reducible first | apply PF.mk | apply DrawP.mk); (focus kernel_rfl))
 | ((with_reducible apply Same.mk); (focus rfl); (first | exact trivial | exact rfl))
 | (intro cap hcap)
 | ((fail_if_success (with_reducible first | apply Fin.mk | apply CallP.mk | apply LoopP.mk | apply VC.mk | apply falseMk | apply Round.mk | apply LookP.mk | apply RangeP.mk | apply NextP.mk | apply EntryP.mk | apply Eq.symm)); conv => whnf))
  · intro y hy
    obtain ⟨g1, g2⟩ := hy
    have g3 := g2.1
    repeat' (first
 | (with_reducible first | exact True.intro | apply And.intro | apply If_true | apply If_false | apply If_not)
 | ((with_reducible apply VC.mk); (first | trivial | omega | (simp only [inR]; omega) | (exact ⟨rfl, List.prefix_rfl⟩) | (refine ⟨rfl, rfl, rfl, ?_, rfl⟩; (simp; done)) | (focus (repeat' (first | exact True.intro | apply And.intro | rfl | exact Nat.le_of_ble_eq_true rfl)); done) | (simp [inR, Cont.cells]; done) | (simp [inR, Cont.cells]; omega)))
 | ((with_reducible apply If_dec) <;> intro hc <;> (try (exfalso; omega)))
 | ((with_reducible apply If_any) <;> intro hc)
 | ((with_reducible first | apply PF.mk | apply DrawP.mk); (focus kernel_rfl))
 | ((with_reducible apply Same.mk); (focus rfl); (first | exact trivial | exact rfl))
 | (intro cap hcap)
 | ((fail_if_success (with_reducible first | apply Fin.mk | apply CallP.mk | apply LoopP.mk | apply VC.mk | apply falseMk | apply Round.mk | apply LookP.mk | apply RangeP.mk | apply NextP.mk | apply EntryP.mk | apply Eq.symm)); conv => whnf))
    refine fst ⟨⟨rfl, rfl, rfl, rfl, rfl, trivial⟩, trivial⟩ ?_
    repeat' (first
 | (with_reducible first | exact True.intro | apply And.intro | apply If_true | apply If_false | apply If_not)
 | ((with_reducible apply VC.mk); (first | trivial | omega | (simp only [inR]; omega) | (exact ⟨rfl, List.prefix_rfl⟩) | (refine ⟨rfl, rfl, rfl, ?_, rfl⟩; (simp; done)) | (focus (repeat' (first | exact True.intro | apply And.intro | rfl | exact Nat.le_of_ble_eq_true rfl)); done) | (simp [inR, Cont.cells]; done) | (simp [inR, Cont.cells]; omega)))
 | ((with_reducible apply If_dec) <;> intro hc <;> (try (exfalso; omega)))
 | ((with_reducible apply If_any) <;> intro hc)
 | ((with_reducible first | apply PF.mk | apply DrawP.mk); (focus kernel_rfl))
 | ((with_reducible apply Same.mk); (focus rfl); (first | exact trivial | exact rfl))
 | (intro cap hcap)
 | ((fail_if_success (with_reducible first | apply Fin.mk | apply CallP.mk | apply LoopP.mk | apply VC.mk | apply falseMk | apply Round.mk | apply LookP.mk | apply RangeP.mk | apply NextP.mk | apply EntryP.mk | apply Eq.symm)); conv => whnf))
    · refine hrat_at (HD.r H) hr ⟨⟨rfl, rfl, rfl, rfl, rfl, trivial⟩, trivial⟩ ?_
      rintro ⟨ra, rb⟩ hr3
      have hr3 : (ra, rb) = ((HD.r H).jend, (HD.r H).rend) := hr3
      rw [vj, ve] at hr3
      obtain ⟨rfl, rfl⟩ : ra = 15360 ∧ rb = 15872 := by cases hr3; exact ⟨rfl, rfl⟩
      dsimp only
      have e1 : (15360 + 2 * (y.1 : Int)).toNat = 15360 + 2 * y.1 := by omega
      repeat' (first
 | (with_reducible first | exact True.intro | apply And.intro | apply If_true | apply If_false | apply If_not)
 | ((with_reducible apply VC.mk); (first | trivial | omega | (simp only [inR]; omega) | (exact ⟨rfl, List.prefix_rfl⟩) | (refine ⟨rfl, rfl, rfl, ?_, rfl⟩; (simp; done)) | (focus (repeat' (first | exact True.intro | apply And.intro | rfl | exact Nat.le_of_ble_eq_true rfl)); done) | (simp [inR, Cont.cells]; done) | (simp [inR, Cont.cells]; omega)))
 | ((with_reducible apply If_dec) <;> intro hc <;> (try (exfalso; omega)))
 | ((with_reducible apply If_any) <;> intro hc)
 | ((with_reducible first | apply PF.mk | apply DrawP.mk); (focus kernel_rfl))
 | ((with_reducible apply Same.mk); (focus rfl); (first | exact trivial | exact rfl))
 | (intro cap hcap)
 | ((fail_if_success (with_reducible first | apply Fin.mk | apply CallP.mk | apply LoopP.mk | apply VC.mk | apply falseMk | apply Round.mk | apply LookP.mk | apply RangeP.mk | apply NextP.mk | apply EntryP.mk | apply Eq.symm)); conv => whnf))
      refine Round.mk ⟨(y.1 + 1, y.2.set (15360 + 2 * y.1) 1), ⟨by show y.1 + 1 ≤ 33; omega, g2.set (by omega)⟩, by show 33 - (y.1 + 1) < 33 - y.1; omega, Fit.ren [0, 1] [] rfl rfl trivial ?_ ?_⟩
      · refine ⟨⟨VC.mk ⟨rfl, rfl⟩, VC.mk rfl, VC.mk rfl, VC.mk rfl, VC.mk rfl, VC.mk rfl, trivial⟩, ⟨VC.mk ⟨rfl, rfl⟩, VC.mk ⟨rfl, ?_⟩⟩, trivial⟩
        simp [e1]
      · repeat' (first
 | (with_reducible first | exact True.intro | apply And.intro | apply If_true | apply If_false | apply If_not)
 | ((with_reducible apply VC.mk); (first | trivial | omega | (simp only [inR]; omega) | (exact ⟨rfl, List.prefix_rfl⟩) | (refine ⟨rfl, rfl, rfl, ?_, rfl⟩; (simp; done)) | (focus (repeat' (first | exact True.intro | apply And.intro | rfl | exact Nat.le_of_ble_eq_true rfl)); done) | (simp [inR, Cont.cells]; done) | (simp [inR, Cont.cells]; omega)))
 | ((with_reducible apply If_dec) <;> intro hc <;> (try (exfalso; omega)))
 | ((with_reducible apply If_any) <;> intro hc)
 | ((with_reducible first | apply PF.mk | apply DrawP.mk); (focus kernel_rfl))
 | ((with_reducible apply Same.mk); (focus rfl); (first | exact trivial | exact rfl))
 | (intro cap hcap)
 | ((fail_if_success (with_reducible first | apply Fin.mk | apply CallP.mk | apply LoopP.mk | apply VC.mk | apply falseMk | apply Round.mk | apply LookP.mk | apply RangeP.mk | apply NextP.mk | apply EntryP.mk | apply Eq.symm)); conv => whnf))
    · have h33 : y.1 = 33 := by omega
      rw [h33] at g2
      have hk2 := hk y.2 g2
      refine new_at y.2 (by omega) ⟨⟨by show 0 + z.length ≤ y.2.length; omega, rfl, by omega, ?_, rfl, Nat.one_pos⟩, trivial⟩ (fun h => absurd h (by omega)) (fun _ => ?_)
      · simp only [Cont.low, Cont.ren, Int.toNat_zero, List.drop_zero, List.take_take, Nat.min_self]
        simp [Cont.same, List.take_of_length_le, hzl, g3]
      repeat' (first
 | (with_reducible first | exact True.intro | apply And.intro | apply If_true | apply If_false | apply If_not)
 | ((with_reducible apply VC.mk); (first | trivial | omega | (simp only [inR]; omega) | (exact ⟨rfl, List.prefix_rfl⟩) | (refine ⟨rfl, rfl, rfl, ?_, rfl⟩; (simp; done)) | (focus (repeat' (first | exact True.intro | apply And.intro | rfl | exact Nat.le_of_ble_eq_true rfl)); done) | (simp [inR, Cont.cells]; done) | (simp [inR, Cont.cells]; omega)))
 | ((with_reducible apply If_dec) <;> intro hc <;> (try (exfalso; omega)))
 | ((with_reducible apply If_any) <;> intro hc)
 | ((with_reducible first | apply PF.mk | apply DrawP.mk); (focus kernel_rfl))
 | ((with_reducible apply Same.mk); (focus rfl); (first | exact trivial | exact rfl))
 | (intro cap hcap)
 | ((fail_if_success (with_reducible first | apply Fin.mk | apply CallP.mk | apply LoopP.mk | apply VC.mk | apply falseMk | apply Round.mk | apply LookP.mk | apply RangeP.mk | apply NextP.mk | apply EntryP.mk | apply Eq.symm)); conv => whnf))
      refine hjat_at (HD.r H) hr ⟨⟨rfl, rfl, rfl, rfl, rfl, trivial⟩, trivial⟩ ?_
      rintro ⟨ra, rb⟩ hr3
      have hr3 : (ra, rb) = ((HD.r H).clus, (HD.r H).jend) := hr3
      rw [vc, vj] at hr3
      obtain ⟨rfl, rfl⟩ : ra = 512 ∧ rb = 15360 := by cases hr3; exact ⟨rfl, rfl⟩
      dsimp only
      repeat' (first
 | (with_reducible first | exact True.intro | apply And.intro | apply If_true | apply If_false | apply If_not)
 | ((with_reducible apply VC.mk); (first | trivial | omega | (simp only [inR]; omega) | (exact ⟨rfl, List.prefix_rfl⟩) | (refine ⟨rfl, rfl, rfl, ?_, rfl⟩; (simp; done)) | (focus (repeat' (first | exact True.intro | apply And.intro | rfl | exact Nat.le_of_ble_eq_true rfl)); done) | (simp [inR, Cont.cells]; done) | (simp [inR, Cont.cells]; omega)))
 | ((with_reducible apply If_dec) <;> intro hc <;> (try (exfalso; omega)))
 | ((with_reducible apply If_any) <;> intro hc)
 | ((with_reducible first | apply PF.mk | apply DrawP.mk); (focus kernel_rfl))
 | ((with_reducible apply Same.mk); (focus rfl); (first | exact trivial | exact rfl))
 | (intro cap hcap)
 | ((fail_if_success (with_reducible first | apply Fin.mk | apply CallP.mk | apply LoopP.mk | apply VC.mk | apply falseMk | apply Round.mk | apply LookP.mk | apply RangeP.mk | apply NextP.mk | apply EntryP.mk | apply Eq.symm)); conv => whnf))
      have hE : newE (DF.mk0 y.2) 512 14848 = 0 := by
        unfold newE
        rw [if_neg (by decide), if_neg]
        show ¬ ((14848 : Int) < 1024 ∨ (y.2.length : Int) < 512 ∨ (y.2.length : Int) - 512 < 14848)
        omega
      refine jnew_at (DF.mk0 y.2) 512 14848 2 ⟨by show y.2.length ≤ _; omega, by simp [inR], by simp [inR]⟩ rfl ⟨rfl, rfl, rfl, trivial⟩ (fun h => absurd hE h) (fun _ => ?_)
      repeat' (first
 | (with_reducible first | exact True.intro | apply And.intro | apply If_true | apply If_false | apply If_not)
 | ((with_reducible apply VC.mk); (first | trivial | omega | (simp only [inR]; omega) | (exact ⟨rfl, List.prefix_rfl⟩) | (refine ⟨rfl, rfl, rfl, ?_, rfl⟩; (simp; done)) | (focus (repeat' (first | exact True.intro | apply And.intro | rfl | exact Nat.le_of_ble_eq_true rfl)); done) | (simp [inR, Cont.cells]; done) | (simp [inR, Cont.cells]; omega)))
 | ((with_reducible apply If_dec) <;> intro hc <;> (try (exfalso; omega)))
 | ((with_reducible apply If_any) <;> intro hc)
 | ((with_reducible first | apply PF.mk | apply DrawP.mk); (focus kernel_rfl))
 | ((with_reducible apply Same.mk); (focus rfl); (first | exact trivial | exact rfl))
 | (intro cap hcap)
 | ((fail_if_success (with_reducible first | apply Fin.mk | apply CallP.mk | apply LoopP.mk | apply VC.mk | apply falseMk | apply Round.mk | apply LookP.mk | apply RangeP.mk | apply NextP.mk | apply EntryP.mk | apply Eq.symm)); conv => whnf))
      refine begin_at ⟨512, 14848, 0⟩ (DF.mk0 y.2) 4 2 rfl rfl rfl ⟨rfl, trivial⟩ ?_
      repeat' (first
 | (with_reducible first | exact True.intro | apply And.intro | apply If_true | apply If_false | apply If_not)
 | ((with_reducible apply VC.mk); (first | trivial | omega | (simp only [inR]; omega) | (exact ⟨rfl, List.prefix_rfl⟩) | (refine ⟨rfl, rfl, rfl, ?_, rfl⟩; (simp; done)) | (focus (repeat' (first | exact True.intro | apply And.intro | rfl | exact Nat.le_of_ble_eq_true rfl)); done) | (simp [inR, Cont.cells]; done) | (simp [inR, Cont.cells]; omega)))
 | ((with_reducible apply If_dec) <;> intro hc <;> (try (exfalso; omega)))
 | ((with_reducible apply If_any) <;> intro hc)
 | ((with_reducible first | apply PF.mk | apply DrawP.mk); (focus kernel_rfl))
 | ((with_reducible apply Same.mk); (focus rfl); (first | exact trivial | exact rfl))
 | (intro cap hcap)
 | ((fail_if_success (with_reducible first | apply Fin.mk | apply CallP.mk | apply LoopP.mk | apply VC.mk | apply falseMk | apply Round.mk | apply LookP.mk | apply RangeP.mk | apply NextP.mk | apply EntryP.mk | apply Eq.symm)); conv => whnf))
      refine Fin.ren [5, 6, 7, 4, 2] [] (.tup [.p 4 0 1 0, .p 0 0 1 0, .v (.bool true)]) (tpre TR.zero ⟨512, 14848, 0⟩ (DF.mk0 y.2)) rfl rfl trivial ?_ ⟨VC.mk ⟨rfl, rfl, rfl, rfl⟩, VC.mk ⟨rfl, rfl, rfl, rfl⟩, VC.mk rfl, trivial⟩ hk2
      exact T5.leG (cs := []) rfl rfl rfl rfl rfl rfl rfl rfl rfl ⟨rfl, rfl, rfl, rfl, rfl⟩ trivial
theorem rbegun_K : ConOk Go.Proofs.Try.prog 43 (Con.of Int (List Int) (fun H => [.agg [.v (.int .i64 (HD.r H).bits), .v (.int .i64 (HD.r H).size), .v (.int .i64 (HD.r H).host), .v (.int .i64 (HD.r H).jr), .v (.bool (HD.r H).backed)]]) (fun _ => []) (fun H => 40 ≤ H ∧ H ≤ 99) (fun _ z => RZ 33 z) (fun _ _ => .tup [.p 4 0 1 0, .p 0 0 1 0, .v (.bool true)]) (fun _ z => tpre TR.zero ⟨512, 14848, 0⟩ (DF.mk0 z))) :=
  conOk_rel (T := tab) mix Go.Proofs.Try.func43 (by decide +kernel) (by kernel_rfl) [] p43 (fun n => by rw [Go.Proofs.Try.ntmps43]; exact Nat.le_of_ble_eq_true rfl) (fun x r _ _ => ⟨⟨trivial, trivial, trivial, trivial⟩, (T5.good (v := .v (.bool true)) trivial).2.1, Nat.zero_le _⟩) (fun x _ c hc => by cases hc) (fun x k h0 hk => rbegun_c x k h0 hk)
theorem rbegun_at {avs : List AV} {Hp : List Chunk} {k : K} (H : Int) (h0 : 40 ≤ H ∧ H ≤ 99) (ha : argsM Hp [] [.agg [.v (.int .i64 (HD.r H).bits), .v (.int .i64 (HD.r H).size), .v (.int .i64 (HD.r H).host), .v (.int .i64 (HD.r H).jr), .v (.bool (HD.r H).backed)]] avs)
    (hQ : ∀ z : List Int, RZ 33 z → k (.tup [.p (Hp.length + 4) 0 1 0, .p Hp.length 0 1 0, .v (.bool true)]) (Hp ++ [TR.zero.c0 (Hp.length + 3) (Hp.length + 1) (Hp.length + 2), TR.zero.c1, TR.zero.c2, JR.blk ⟨512, 14848, 0⟩ (Hp.length + 4), (DF.mk0 z).pk])) : CallP Go.Proofs.Try.prog 43 avs Hp k :=
  CallP.mk ⟨_, rbegun_K.real, Con.spec rbegun_K, H, [], ⟨h0, rfl, trivial, ha⟩, fun z hz => (numK_eq _ _).mpr (by simpa [tpre, putAll, TR.c0_ren, TR.c1_ren, TR.c2_ren, JR.blk_ren, DF.pk_ren, AV.ren, rens, fren, nth] using hQ z hz)⟩
end Go.Proofs.Ytjccknmgmommcaa.Sx

