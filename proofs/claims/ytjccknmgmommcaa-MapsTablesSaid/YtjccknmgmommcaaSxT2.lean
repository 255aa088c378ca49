import Derived.Test.YtjccknmgmommcaaSxT1
set_option linter.unusedVariables false
set_option linter.unusedSimpArgs false
set_option maxRecDepth 10000
namespace Go.Proofs.Ytjccknmgmommcaa.Sx
open Go.RowKit Go.Proofs.Ytjccknmgmommcaa.Sx.Tb
theorem ent_les {H : List Chunk} {fz : List Nat} {f : Nat → Nat} {ph : Nat → Bool} {L : List AV} {q : ER} (h : L = entAV q) : les H fz f ph (entAV q) L := by
  subst h
  exact ⟨VC.mk rfl, VC.mk rfl, VC.mk rfl, trivial⟩
set_option maxHeartbeats 16000000 in
theorem mtables_c (n : Int) (is : List Int) (es : List ER) (k : K) (h0 : inR .i64 n ∧ (∀ v ∈ is, inR .i64 v) ∧ (∀ x ∈ es, inR .i64 x.kind ∧ inR .i64 x.cl) ∧ is.length ≤ 9223372036854775807 ∧ es.length ≤ 9223372036854775807) (hk : k (.v (.bool true)) []) : evFunc tab [] p7 Go.Proofs.Try.f7 [.v (.int .i64 n), .im true 1 is.length (.ints .i64 is), .im true 3 es.length (entsC es)] [] k := by
  obtain ⟨hn, his, hes, hil, hel⟩ := h0
  repeat' (first
 | (with_reducible first | exact True.intro | apply And.intro | apply If_true | apply If_false | apply If_not)
 | ((with_reducible apply VC.mk); (first | trivial | omega | (simp only [inR]; omega) | (exact ⟨rfl, List.prefix_rfl⟩) | (refine ⟨rfl, rfl, rfl, ?_, rfl⟩; (simp; done)) | (focus (repeat' (first | exact True.intro | apply And.intro | rfl | exact Nat.le_of_ble_eq_true rfl)); done) | (simp [inR, Cont.cells]; done) | (simp [inR, Cont.cells]; omega)))
 | ((with_reducible apply If_dec) <;> intro hc <;> (try (exfalso; omega)))
 | ((with_reducible apply If_any) <;> intro hc)
 | ((with_reducible first | apply PF.mk | apply DrawP.mk); (focus kernel_rfl))
 | ((with_reducible apply Same.mk); (focus rfl); (first | exact trivial | exact rfl))
 | (intro cap hcap)
 | ((fail_if_success (with_reducible first | apply Fin.mk | apply CallP.mk | apply LoopP.mk | apply VC.mk | apply falseMk | apply Round.mk | apply LookP.mk | apply RangeP.mk | apply NextP.mk | apply EntryP.mk | apply Eq.symm)); conv => whnf))
  refine mbegun_at trivial ?_
  intro z hz
  have hzl : z.length = 20480 := by rw [hz]; exact List.length_replicate ..
  repeat' (first
 | (with_reducible first | exact True.intro | apply And.intro | apply If_true | apply If_false | apply If_not)
 | ((with_reducible apply VC.mk); (first | trivial | omega | (simp only [inR]; omega) | (exact ⟨rfl, List.prefix_rfl⟩) | (refine ⟨rfl, rfl, rfl, ?_, rfl⟩; (simp; done)) | (focus (repeat' (first | exact True.intro | apply And.intro | rfl | exact Nat.le_of_ble_eq_true rfl)); done) | (simp [inR, Cont.cells]; done) | (simp [inR, Cont.cells]; omega)))
 | ((with_reducible apply If_dec) <;> intro hc <;> (try (exfalso; omega)))
 | ((with_reducible apply If_any) <;> intro hc)
 | ((with_reducible first | apply PF.mk | apply DrawP.mk); (focus kernel_rfl))
 | ((with_reducible apply Same.mk); (focus rfl); (first | exact trivial | exact rfl))
 | (intro cap hcap)
 | ((fail_if_success (with_reducible first | apply Fin.mk | apply CallP.mk | apply LoopP.mk | apply VC.mk | apply falseMk | apply Round.mk | apply LookP.mk | apply RangeP.mk | apply NextP.mk | apply EntryP.mk | apply Eq.symm)); conv => whnf))
  refine mcoded_at trivial trivial ?_
  intro _ _
  repeat' (first
 | (with_reducible first | exact True.intro | apply And.intro | apply If_true | apply If_false | apply If_not)
 | ((with_reducible apply VC.mk); (first | trivial | omega | (simp only [inR]; omega) | (exact ⟨rfl, List.prefix_rfl⟩) | (refine ⟨rfl, rfl, rfl, ?_, rfl⟩; (simp; done)) | (focus (repeat' (first | exact True.intro | apply And.intro | rfl | exact Nat.le_of_ble_eq_true rfl)); done) | (simp [inR, Cont.cells]; done) | (simp [inR, Cont.cells]; omega)))
 | ((with_reducible apply If_dec) <;> intro hc <;> (try (exfalso; omega)))
 | ((with_reducible apply If_any) <;> intro hc)
 | ((with_reducible first | apply PF.mk | apply DrawP.mk); (focus kernel_rfl))
 | ((with_reducible apply Same.mk); (focus rfl); (first | exact trivial | exact rfl))
 | (intro cap hcap)
 | ((fail_if_success (with_reducible first | apply Fin.mk | apply CallP.mk | apply LoopP.mk | apply VC.mk | apply falseMk | apply Round.mk | apply LookP.mk | apply RangeP.mk | apply NextP.mk | apply EntryP.mk | apply Eq.symm)); conv => whnf))
  · refine mcoded_at trivial trivial ?_
    intro _ _
    repeat' (first
 | (with_reducible first | exact True.intro | apply And.intro | apply If_true | apply If_false | apply If_not)
 | ((with_reducible apply VC.mk); (first | trivial | omega | (simp only [inR]; omega) | (exact ⟨rfl, List.prefix_rfl⟩) | (refine ⟨rfl, rfl, rfl, ?_, rfl⟩; (simp; done)) | (focus (repeat' (first | exact True.intro | apply And.intro | rfl | exact Nat.le_of_ble_eq_true rfl)); done) | (simp [inR, Cont.cells]; done) | (simp [inR, Cont.cells]; omega)))
 | ((with_reducible apply If_dec) <;> intro hc <;> (try (exfalso; omega)))
 | ((with_reducible apply If_any) <;> intro hc)
 | ((with_reducible first | apply PF.mk | apply DrawP.mk); (focus kernel_rfl))
 | ((with_reducible apply Same.mk); (focus rfl); (first | exact trivial | exact rfl))
 | (intro cap hcap)
 | ((fail_if_success (with_reducible first | apply Fin.mk | apply CallP.mk | apply LoopP.mk | apply VC.mk | apply falseMk | apply Round.mk | apply LookP.mk | apply RangeP.mk | apply NextP.mk | apply EntryP.mk | apply Eq.symm)); conv => whnf))
    exact Fin.bool (by decide) hk
  · refine mcoded_at trivial trivial ?_
    intro _ _
    repeat' (first
 | (with_reducible first | exact True.intro | apply And.intro | apply If_true | apply If_false | apply If_not)
 | ((with_reducible apply VC.mk); (first | trivial | omega | (simp only [inR]; omega) | (exact ⟨rfl, List.prefix_rfl⟩) | (refine ⟨rfl, rfl, rfl, ?_, rfl⟩; (simp; done)) | (focus (repeat' (first | exact True.intro | apply And.intro | rfl | exact Nat.le_of_ble_eq_true rfl)); done) | (simp [inR, Cont.cells]; done) | (simp [inR, Cont.cells]; omega)))
 | ((with_reducible apply If_dec) <;> intro hc <;> (try (exfalso; omega)))
 | ((with_reducible apply If_any) <;> intro hc)
 | ((with_reducible first | apply PF.mk | apply DrawP.mk); (focus kernel_rfl))
 | ((with_reducible apply Same.mk); (focus rfl); (first | exact trivial | exact rfl))
 | (intro cap hcap)
 | ((fail_if_success (with_reducible first | apply Fin.mk | apply CallP.mk | apply LoopP.mk | apply VC.mk | apply falseMk | apply Round.mk | apply LookP.mk | apply RangeP.mk | apply NextP.mk | apply EntryP.mk | apply Eq.symm)); conv => whnf))
    exact Fin.bool (by decide) hk
  refine mhead_at trivial trivial ?_
  rintro _ rfl
  repeat' (first
 | (with_reducible first | exact True.intro | apply And.intro | apply If_true | apply If_false | apply If_not)
 | ((with_reducible apply VC.mk); (first | trivial | omega | (simp only [inR]; omega) | (exact ⟨rfl, List.prefix_rfl⟩) | (refine ⟨rfl, rfl, rfl, ?_, rfl⟩; (simp; done)) | (focus (repeat' (first | exact True.intro | apply And.intro | rfl | exact Nat.le_of_ble_eq_true rfl)); done) | (simp [inR, Cont.cells]; done) | (simp [inR, Cont.cells]; omega)))
 | ((with_reducible apply If_dec) <;> intro hc <;> (try (exfalso; omega)))
 | ((with_reducible apply If_any) <;> intro hc)
 | ((with_reducible first | apply PF.mk | apply DrawP.mk); (focus kernel_rfl))
 | ((with_reducible apply Same.mk); (focus rfl); (first | exact trivial | exact rfl))
 | (intro cap hcap)
 | ((fail_if_success (with_reducible first | apply Fin.mk | apply CallP.mk | apply LoopP.mk | apply VC.mk | apply falseMk | apply Round.mk | apply LookP.mk | apply RangeP.mk | apply NextP.mk | apply EntryP.mk | apply Eq.symm)); conv => whnf))
  refine mat_at TR.zero ⟨512, 14848, 0⟩ (DF.mk0 z) HD.m n 0 1 2 3 4 ⟨by simp [hR, inR, HD.m], hn⟩ rfl rfl rfl rfl rfl rfl ⟨⟨rfl, rfl, rfl, rfl, rfl, trivial⟩, rfl, rfl, trivial⟩ (fun hE => ?_) (fun hE => ?_)
  · have hE2 : matE HD.m n = 4 := by
      unfold matE at hE ⊢
      by_cases c : n < 1 ∨ HD.m.host ≤ n
      · rw [if_pos c]
      · rw [if_neg c] at hE; exact absurd (by decide) hE
    have hr : n < 1 ∨ 60 ≤ n := by
      unfold matE at hE
      by_cases c : n < 1 ∨ HD.m.host ≤ n
      · exact c
      · rw [if_neg c] at hE; exact absurd (by decide) hE
    rw [hE2]
    repeat' (first
 | (with_reducible first | exact True.intro | apply And.intro | apply If_true | apply If_false | apply If_not)
 | ((with_reducible apply VC.mk); (first | trivial | omega | (simp only [inR]; omega) | (exact ⟨rfl, List.prefix_rfl⟩) | (refine ⟨rfl, rfl, rfl, ?_, rfl⟩; (simp; done)) | (focus (repeat' (first | exact True.intro | apply And.intro | rfl | exact Nat.le_of_ble_eq_true rfl)); done) | (simp [inR, Cont.cells]; done) | (simp [inR, Cont.cells]; omega)))
 | ((with_reducible apply If_dec) <;> intro hc <;> (try (exfalso; omega)))
 | ((with_reducible apply If_any) <;> intro hc)
 | ((with_reducible first | apply PF.mk | apply DrawP.mk); (focus kernel_rfl))
 | ((with_reducible apply Same.mk); (focus rfl); (first | exact trivial | exact rfl))
 | (intro cap hcap)
 | ((fail_if_success (with_reducible first | apply Fin.mk | apply CallP.mk | apply LoopP.mk | apply VC.mk | apply falseMk | apply Round.mk | apply LookP.mk | apply RangeP.mk | apply NextP.mk | apply EntryP.mk | apply Eq.symm)); conv => whnf))
    all_goals exact Fin.bool (by decide) hk
  · have hr : 1 ≤ n ∧ n < 60 := by
      unfold matE at hE
      by_cases c : n < 1 ∨ HD.m.host ≤ n
      · rw [if_pos c] at hE; cases hE
      · have : ¬ (n < 1 ∨ 60 ≤ n) := c
        omega
    repeat' (first
 | (with_reducible first | exact True.intro | apply And.intro | apply If_true | apply If_false | apply If_not)
 | ((with_reducible apply VC.mk); (first | trivial | omega | (simp only [inR]; omega) | (exact ⟨rfl, List.prefix_rfl⟩) | (refine ⟨rfl, rfl, rfl, ?_, rfl⟩; (simp; done)) | (focus (repeat' (first | exact True.intro | apply And.intro | rfl | exact Nat.le_of_ble_eq_true rfl)); done) | (simp [inR, Cont.cells]; done) | (simp [inR, Cont.cells]; omega)))
 | ((with_reducible apply If_dec) <;> intro hc <;> (try (exfalso; omega)))
 | ((with_reducible apply If_any) <;> intro hc)
 | ((with_reducible first | apply PF.mk | apply DrawP.mk); (focus kernel_rfl))
 | ((with_reducible apply Same.mk); (focus rfl); (first | exact trivial | exact rfl))
 | (intro cap hcap)
 | ((fail_if_success (with_reducible first | apply Fin.mk | apply CallP.mk | apply LoopP.mk | apply VC.mk | apply falseMk | apply Round.mk | apply LookP.mk | apply RangeP.mk | apply NextP.mk | apply EntryP.mk | apply Eq.symm)); conv => whnf))
    refine mwhere_at TR.zero ⟨512, 14848, 0⟩ (DF.mk0 z) HD.m n 0 1 2 3 4 5 trivial rfl rfl rfl rfl rfl rfl rfl ⟨rfl, trivial⟩ ?_
    intro _ _
    repeat' (first
 | (with_reducible first | exact True.intro | apply And.intro | apply If_true | apply If_false | apply If_not)
 | ((with_reducible apply VC.mk); (first | trivial | omega | (simp only [inR]; omega) | (exact ⟨rfl, List.prefix_rfl⟩) | (refine ⟨rfl, rfl, rfl, ?_, rfl⟩; (simp; done)) | (focus (repeat' (first | exact True.intro | apply And.intro | rfl | exact Nat.le_of_ble_eq_true rfl)); done) | (simp [inR, Cont.cells]; done) | (simp [inR, Cont.cells]; omega)))
 | ((with_reducible apply If_dec) <;> intro hc <;> (try (exfalso; omega)))
 | ((with_reducible apply If_any) <;> intro hc)
 | ((with_reducible first | apply PF.mk | apply DrawP.mk); (focus kernel_rfl))
 | ((with_reducible apply Same.mk); (focus rfl); (first | exact trivial | exact rfl))
 | (intro cap hcap)
 | ((fail_if_success (with_reducible first | apply Fin.mk | apply CallP.mk | apply LoopP.mk | apply VC.mk | apply falseMk | apply Round.mk | apply LookP.mk | apply RangeP.mk | apply NextP.mk | apply EntryP.mk | apply Eq.symm)); conv => whnf))
    have h2 : (DF.mk0 z).live := ⟨rfl, rfl⟩
    have hcl : HD.m.clus = 512 := by decide
    have zB : TR.zero.B z := by
      intro i; rw [zero_V, hz, List.getD_eq_getElem?_getD, List.getElem?_replicate]; split <;> simp
    have zO : TR.zero.Ok := ⟨fun x hx => absurd hx List.not_mem_nil, fun x hx => absurd hx List.not_mem_nil, Nat.le_refl _, Nat.zero_le _⟩
    have zT : TabV TR.zero z (n * 512).toNat (List.replicate 64 ⟨0, 0, false⟩) := TabV.zero (fun x hx => by rw [hz] at hx; exact List.eq_of_mem_replicate hx) _
    refine LoopP.mk ⟨Nat × Nat × TR × List ER, fun y => y.1 ≤ is.length ∧ y.2.1 ≤ 16 * y.1 ∧ y.2.2.1.Ok ∧ y.2.2.1.over = false ∧ y.2.2.1.B z ∧ TabV y.2.2.1 z (n * 512).toNat y.2.2.2, fun y => ([(1, .im true 1 is.length (.ints .i64 is)), (2, .im true 3 es.length (entsC es)), (9, .p 5 0 1 0), (11, .s 6 0 3 64 64), (12, .v (.int .i64 (y.1 : Int)))], tp6 y.2.2.1 ⟨512, 14848, 0⟩ ((DF.mk0 z).tick y.2.1) HD.m n ++ [.blk 70 (entsC y.2.2.2) 192]), fun y => is.length - y.1, (0, 0, TR.zero, List.replicate 64 ⟨0, 0, false⟩), ⟨Nat.zero_le _, Nat.zero_le _, zO, rfl, zB, zT⟩, Fit.ren [0, 1, 2, 3, 4, 5, 6] [] rfl rfl trivial ?_ ?_, ?_⟩
    · refine T6.le rfl rfl rfl rfl rfl rfl rfl rfl rfl rfl rfl ⟨⟨VC.mk ⟨rfl, rfl⟩, VC.mk ⟨rfl, Nat.le_refl _⟩, fun j hj => ?_⟩, trivial⟩
      have e : (List.replicate 64 (⟨0, 0, false⟩ : ER)).getD j ⟨0, 0, false⟩ = ⟨0, 0, false⟩ := by
        rw [List.getD_eq_getElem?_getD, List.getElem?_replicate]; split <;> rfl
      show les _ _ _ _ (entAV ((List.replicate 64 (⟨0, 0, false⟩ : ER)).getD j ⟨0, 0, false⟩)) _
      rw [e]
      exact ⟨VC.mk rfl, VC.mk rfl, VC.mk rfl, trivial⟩
    · repeat' (first
 | (with_reducible first | exact True.intro | apply And.intro | apply If_true | apply If_false | apply If_not)
 | ((with_reducible apply VC.mk); (first | trivial | omega | (simp only [inR]; omega) | (exact ⟨rfl, List.prefix_rfl⟩) | (refine ⟨rfl, rfl, rfl, ?_, rfl⟩; (simp; done)) | (focus (repeat' (first | exact True.intro | apply And.intro | rfl | exact Nat.le_of_ble_eq_true rfl)); done) | (simp [inR, Cont.cells]; done) | (simp [inR, Cont.cells]; omega)))
 | ((with_reducible apply If_dec) <;> intro hc <;> (try (exfalso; omega)))
 | ((with_reducible apply If_any) <;> intro hc)
 | ((with_reducible first | apply PF.mk | apply DrawP.mk); (focus kernel_rfl))
 | ((with_reducible apply Same.mk); (focus rfl); (first | exact trivial | exact rfl))
 | (intro cap hcap)
 | ((fail_if_success (with_reducible first | apply Fin.mk | apply CallP.mk | apply LoopP.mk | apply VC.mk | apply falseMk | apply Round.mk | apply LookP.mk | apply RangeP.mk | apply NextP.mk | apply EntryP.mk | apply Eq.symm)); conv => whnf))
    · intro y hy
      obtain ⟨g1, g2, g3, g4, g5, g6⟩ := hy
      have hM : y.2.2.2.length = 64 := g6.1
      have e : ((y.1 : Nat) : Int).toNat = y.1 := Int.toNat_natCast _
      have hops : ∀ m : Nat, m ≤ 2000 → 0 ≤ ((DF.mk0 z).tick m).ops ∧ ((DF.mk0 z).tick m).ops ≤ 274877906944 := by
        intro m hm
        show 0 ≤ 0 + (m : Int) ∧ 0 + (m : Int) ≤ _
        omega
      have htt : ∀ a b : Nat, ((DF.mk0 z).tick a).tick b = (DF.mk0 z).tick (a + b) := fun a b => by unfold DF.tick; simp [Int.add_assoc]
      have hok : ∀ (t : TR) (m : Nat), t.Ok → t.B z → m ≤ 2000 → TabOk t ((DF.mk0 z).tick m) HD.m n := by
        intro t m q1 q2 q3
        exact ⟨q1, h2, by simp [hR, inR, HD.m], q2, ⟨hr.1, by omega, by rw [hcl]; omega⟩, (hops m q3).1, (hops m q3).2, by show z.length ≤ _; omega⟩
      repeat' (first
 | (with_reducible first | exact True.intro | apply And.intro | apply If_true | apply If_false | apply If_not)
 | ((with_reducible apply VC.mk); (first | trivial | omega | (simp only [inR]; omega) | (exact ⟨rfl, List.prefix_rfl⟩) | (refine ⟨rfl, rfl, rfl, ?_, rfl⟩; (simp; done)) | (focus (repeat' (first | exact True.intro | apply And.intro | rfl | exact Nat.le_of_ble_eq_true rfl)); done) | (simp [inR, Cont.cells]; done) | (simp [inR, Cont.cells]; omega)))
 | ((with_reducible apply If_dec) <;> intro hc <;> (try (exfalso; omega)))
 | ((with_reducible apply If_any) <;> intro hc)
 | ((with_reducible first | apply PF.mk | apply DrawP.mk); (focus kernel_rfl))
 | ((with_reducible apply Same.mk); (focus rfl); (first | exact trivial | exact rfl))
 | (intro cap hcap)
 | ((fail_if_success (with_reducible first | apply Fin.mk | apply CallP.mk | apply LoopP.mk | apply VC.mk | apply falseMk | apply Round.mk | apply LookP.mk | apply RangeP.mk | apply NextP.mk | apply EntryP.mk | apply Eq.symm)); conv => whnf))
      · obtain ⟨x, hx⟩ : ∃ x, x = es.getD y.1 ⟨0, 0, false⟩ := ⟨_, rfl⟩
        obtain ⟨v, hv⟩ : ∃ v, v = is.getD y.1 0 := ⟨_, rfl⟩
        have hxr : inR .i64 x.kind ∧ inR .i64 x.cl := by
          have : y.1 < es.length := by omega
          refine hes x ?_
          rw [hx, show es.getD y.1 ⟨0, 0, false⟩ = es[y.1] by simp [List.getD_eq_getElem?_getD, this]]; exact List.getElem_mem this
        have hvr : inR .i64 v := by
          have : y.1 < is.length := by omega
          refine his v ?_
          rw [hv, show is.getD y.1 0 = is[y.1] by simp [List.getD_eq_getElem?_getD, this]]; exact List.getElem_mem this
        simp only [e, ← hx, ← hv]
        refine mof_at x trivial ⟨⟨rfl, rfl, rfl, trivial⟩, trivial⟩ ?_
        rintro x rfl
        repeat' (first
 | (with_reducible first | exact True.intro | apply And.intro | apply If_true | apply If_false | apply If_not)
 | ((with_reducible apply VC.mk); (first | trivial | omega | (simp only [inR]; omega) | (exact ⟨rfl, List.prefix_rfl⟩) | (refine ⟨rfl, rfl, rfl, ?_, rfl⟩; (simp; done)) | (focus (repeat' (first | exact True.intro | apply And.intro | rfl | exact Nat.le_of_ble_eq_true rfl)); done) | (simp [inR, Cont.cells]; done) | (simp [inR, Cont.cells]; omega)))
 | ((with_reducible apply If_dec) <;> intro hc <;> (try (exfalso; omega)))
 | ((with_reducible apply If_any) <;> intro hc)
 | ((with_reducible first | apply PF.mk | apply DrawP.mk); (focus kernel_rfl))
 | ((with_reducible apply Same.mk); (focus rfl); (first | exact trivial | exact rfl))
 | (intro cap hcap)
 | ((fail_if_success (with_reducible first | apply Fin.mk | apply CallP.mk | apply LoopP.mk | apply VC.mk | apply falseMk | apply Round.mk | apply LookP.mk | apply RangeP.mk | apply NextP.mk | apply EntryP.mk | apply Eq.symm)); conv => whnf))
        refine menr_at x hxr ⟨⟨rfl, rfl, rfl, trivial⟩, trivial⟩ ?_
        rintro ⟨w, b⟩ hb
        dsimp only at hb ⊢
        repeat' (first
 | (with_reducible first | exact True.intro | apply And.intro | apply If_true | apply If_false | apply If_not)
 | ((with_reducible apply VC.mk); (first | trivial | omega | (simp only [inR]; omega) | (exact ⟨rfl, List.prefix_rfl⟩) | (refine ⟨rfl, rfl, rfl, ?_, rfl⟩; (simp; done)) | (focus (repeat' (first | exact True.intro | apply And.intro | rfl | exact Nat.le_of_ble_eq_true rfl)); done) | (simp [inR, Cont.cells]; done) | (simp [inR, Cont.cells]; omega)))
 | ((with_reducible apply If_dec) <;> intro hc <;> (try (exfalso; omega)))
 | ((with_reducible apply If_any) <;> intro hc)
 | ((with_reducible first | apply PF.mk | apply DrawP.mk); (focus kernel_rfl))
 | ((with_reducible apply Same.mk); (focus rfl); (first | exact trivial | exact rfl))
 | (intro cap hcap)
 | ((fail_if_success (with_reducible first | apply Fin.mk | apply CallP.mk | apply LoopP.mk | apply VC.mk | apply falseMk | apply Round.mk | apply LookP.mk | apply RangeP.mk | apply NextP.mk | apply EntryP.mk | apply Eq.symm)); conv => whnf))
        simp only [e, ← hx]
        refine mset_at y.2.2.1 ⟨512, 14848, 0⟩ ((DF.mk0 z).tick y.2.1) HD.m n v x 0 1 2 3 4 5 ⟨hok _ _ g3 g5 (by omega), hvr, hxr.1, hxr.2, g4⟩ rfl rfl rfl rfl rfl rfl rfl ⟨rfl, rfl, ⟨rfl, rfl, rfl, trivial⟩, trivial⟩ ?_
        rintro ⟨e2, t2, m2⟩ hs
        dsimp only
        have hcl8 : HD.m.clus / 8 = 64 := by decide
        unfold SetRel at hs
        rw [hcl8] at hs
        rcases hs with ⟨s1, s2⟩ | ⟨s1, s2, s3⟩ | ⟨s1, s2, s3, s4, s5⟩
        · obtain ⟨rfl, rfl, rfl⟩ : e2 = 4 ∧ t2 = y.2.2.1 ∧ m2 = 0 := by cases s2; exact ⟨rfl, rfl, rfl⟩
          repeat' (first
 | (with_reducible first | exact True.intro | apply And.intro | apply If_true | apply If_false | apply If_not)
 | ((with_reducible apply VC.mk); (first | trivial | omega | (simp only [inR]; omega) | (exact ⟨rfl, List.prefix_rfl⟩) | (refine ⟨rfl, rfl, rfl, ?_, rfl⟩; (simp; done)) | (focus (repeat' (first | exact True.intro | apply And.intro | rfl | exact Nat.le_of_ble_eq_true rfl)); done) | (simp [inR, Cont.cells]; done) | (simp [inR, Cont.cells]; omega)))
 | ((with_reducible apply If_dec) <;> intro hc <;> (try (exfalso; omega)))
 | ((with_reducible apply If_any) <;> intro hc)
 | ((with_reducible first | apply PF.mk | apply DrawP.mk); (focus kernel_rfl))
 | ((with_reducible apply Same.mk); (focus rfl); (first | exact trivial | exact rfl))
 | (intro cap hcap)
 | ((fail_if_success (with_reducible first | apply Fin.mk | apply CallP.mk | apply LoopP.mk | apply VC.mk | apply falseMk | apply Round.mk | apply LookP.mk | apply RangeP.mk | apply NextP.mk | apply EntryP.mk | apply Eq.symm)); conv => whnf))
          all_goals (try first | exact absurd hc (by decide) | (exfalso; revert hc; simp; omega))
          all_goals simp only [htt]
          all_goals refine mget_at y.2.2.1 ⟨512, 14848, 0⟩ ((DF.mk0 z).tick (y.2.1 + 0)) HD.m n v 0 1 2 3 4 5 ⟨hok _ _ g3 g5 (by omega), hvr⟩ rfl rfl rfl rfl rfl rfl rfl ⟨rfl, rfl, trivial⟩ ?_
          all_goals rintro ⟨⟨x3, e3⟩, m3⟩ ⟨q1, q2⟩
          all_goals (have q3 : getR y.2.2.1 z HD.m n v = (⟨0, 0, false⟩, 4) := by unfold getR; rw [hcl8, if_neg s1])
          all_goals (obtain ⟨rfl, rfl⟩ : x3 = ⟨0, 0, false⟩ ∧ e3 = 4 := by (have q4 := q1.trans q3; cases q4; exact ⟨rfl, rfl⟩))
          all_goals dsimp only at q2 ⊢
          all_goals simp only [htt]
          all_goals repeat' (first
 | (with_reducible first | exact True.intro | apply And.intro | apply If_true | apply If_false | apply If_not)
 | ((with_reducible apply VC.mk); (first | trivial | omega | (simp only [inR]; omega) | (exact ⟨rfl, List.prefix_rfl⟩) | (refine ⟨rfl, rfl, rfl, ?_, rfl⟩; (simp; done)) | (focus (repeat' (first | exact True.intro | apply And.intro | rfl | exact Nat.le_of_ble_eq_true rfl)); done) | (simp [inR, Cont.cells]; done) | (simp [inR, Cont.cells]; omega)))
 | ((with_reducible apply If_dec) <;> intro hc <;> (try (exfalso; omega)))
 | ((with_reducible apply If_any) <;> intro hc)
 | ((with_reducible first | apply PF.mk | apply DrawP.mk); (focus kernel_rfl))
 | ((with_reducible apply Same.mk); (focus rfl); (first | exact trivial | exact rfl))
 | (intro cap hcap)
 | ((fail_if_success (with_reducible first | apply Fin.mk | apply CallP.mk | apply LoopP.mk | apply VC.mk | apply falseMk | apply Round.mk | apply LookP.mk | apply RangeP.mk | apply NextP.mk | apply EntryP.mk | apply Eq.symm)); conv => whnf))
          all_goals (try first | exact absurd hc (by decide) | (exfalso; revert hc; simp; omega))
          all_goals refine Round.mk ⟨(y.1 + 1, y.2.1 + 0 + m3, y.2.2.1, y.2.2.2), ⟨by show y.1 + 1 ≤ _; omega, by show y.2.1 + 0 + m3 ≤ 16 * (y.1 + 1); omega, g3, g4, g5, g6⟩, by show is.length - (y.1 + 1) < is.length - y.1; omega, Fit.ren [0, 1, 2, 3, 4, 5, 6] [] rfl rfl trivial (T6.le rfl rfl rfl rfl rfl rfl rfl rfl rfl rfl rfl ⟨⟨VC.mk ⟨rfl, rfl⟩, VC.mk ⟨rfl, Nat.le_refl _⟩, fun j hj => ⟨VC.mk rfl, VC.mk rfl, VC.mk rfl, trivial⟩⟩, trivial⟩) ?_⟩
          all_goals repeat' (first
 | (with_reducible first | exact True.intro | apply And.intro | apply If_true | apply If_false | apply If_not)
 | ((with_reducible apply VC.mk); (first | trivial | omega | (simp only [inR]; omega) | (exact ⟨rfl, List.prefix_rfl⟩) | (refine ⟨rfl, rfl, rfl, ?_, rfl⟩; (simp; done)) | (focus (repeat' (first | exact True.intro | apply And.intro | rfl | exact Nat.le_of_ble_eq_true rfl)); done) | (simp [inR, Cont.cells]; done) | (simp [inR, Cont.cells]; omega)))
 | ((with_reducible apply If_dec) <;> intro hc <;> (try (exfalso; omega)))
 | ((with_reducible apply If_any) <;> intro hc)
 | ((with_reducible first | apply PF.mk | apply DrawP.mk); (focus kernel_rfl))
 | ((with_reducible apply Same.mk); (focus rfl); (first | exact trivial | exact rfl))
 | (intro cap hcap)
 | ((fail_if_success (with_reducible first | apply Fin.mk | apply CallP.mk | apply LoopP.mk | apply VC.mk | apply falseMk | apply Round.mk | apply LookP.mk | apply RangeP.mk | apply NextP.mk | apply EntryP.mk | apply Eq.symm)); conv => whnf))
        · have hb : b = false := by rw [hb, decide_eq_false s2]
          obtain ⟨rfl, rfl, rfl⟩ : e2 = 11 ∧ t2 = y.2.2.1 ∧ m2 = 0 := by
            cases s3
            exact ⟨(encV_e x).resolve_left s2, rfl, rfl⟩
          subst hb
          repeat' (first
 | (with_reducible first | exact True.intro | apply And.intro | apply If_true | apply If_false | apply If_not)
 | ((with_reducible apply VC.mk); (first | trivial | omega | (simp only [inR]; omega) | (exact ⟨rfl, List.prefix_rfl⟩) | (refine ⟨rfl, rfl, rfl, ?_, rfl⟩; (simp; done)) | (focus (repeat' (first | exact True.intro | apply And.intro | rfl | exact Nat.le_of_ble_eq_true rfl)); done) | (simp [inR, Cont.cells]; done) | (simp [inR, Cont.cells]; omega)))
 | ((with_reducible apply If_dec) <;> intro hc <;> (try (exfalso; omega)))
 | ((with_reducible apply If_any) <;> intro hc)
 | ((with_reducible first | apply PF.mk | apply DrawP.mk); (focus kernel_rfl))
 | ((with_reducible apply Same.mk); (focus rfl); (first | exact trivial | exact rfl))
 | (intro cap hcap)
 | ((fail_if_success (with_reducible first | apply Fin.mk | apply CallP.mk | apply LoopP.mk | apply VC.mk | apply falseMk | apply Round.mk | apply LookP.mk | apply RangeP.mk | apply NextP.mk | apply EntryP.mk | apply Eq.symm)); conv => whnf))
          all_goals (try first | exact absurd hc (by decide) | (exfalso; revert hc; simp; omega))
          all_goals simp only [htt]
          all_goals refine mget_at y.2.2.1 ⟨512, 14848, 0⟩ ((DF.mk0 z).tick (y.2.1 + 0)) HD.m n v 0 1 2 3 4 5 ⟨hok _ _ g3 g5 (by omega), hvr⟩ rfl rfl rfl rfl rfl rfl rfl ⟨rfl, rfl, trivial⟩ ?_
          all_goals rintro ⟨⟨x3, e3⟩, m3⟩ ⟨q1, q2⟩
          all_goals (have q3 : getR y.2.2.1 z HD.m n v = (y.2.2.2.getD v.toNat ⟨0, 0, false⟩, 0) := by (unfold getR; rw [hcl8, if_pos s1, hcl, show (n * 512 + 8 * v).toNat = (n * 512).toNat + 8 * v.toNat by omega]; exact g6.dec _ (by omega)))
          all_goals (obtain ⟨rfl, rfl⟩ : x3 = y.2.2.2.getD v.toNat ⟨0, 0, false⟩ ∧ e3 = 0 := by (have q4 := q1.trans q3; cases q4; exact ⟨rfl, rfl⟩))
          all_goals dsimp only at q2 ⊢
          all_goals simp only [htt]
          all_goals repeat' (first
 | (with_reducible first | exact True.intro | apply And.intro | apply If_true | apply If_false | apply If_not)
 | ((with_reducible apply VC.mk); (first | trivial | omega | (simp only [inR]; omega) | (exact ⟨rfl, List.prefix_rfl⟩) | (refine ⟨rfl, rfl, rfl, ?_, rfl⟩; (simp; done)) | (focus (repeat' (first | exact True.intro | apply And.intro | rfl | exact Nat.le_of_ble_eq_true rfl)); done) | (simp [inR, Cont.cells]; done) | (simp [inR, Cont.cells]; omega)))
 | ((with_reducible apply If_dec) <;> intro hc <;> (try (exfalso; omega)))
 | ((with_reducible apply If_any) <;> intro hc)
 | ((with_reducible first | apply PF.mk | apply DrawP.mk); (focus kernel_rfl))
 | ((with_reducible apply Same.mk); (focus rfl); (first | exact trivial | exact rfl))
 | (intro cap hcap)
 | ((fail_if_success (with_reducible first | apply Fin.mk | apply CallP.mk | apply LoopP.mk | apply VC.mk | apply falseMk | apply Round.mk | apply LookP.mk | apply RangeP.mk | apply NextP.mk | apply EntryP.mk | apply Eq.symm)); conv => whnf))
          all_goals (try first | exact absurd hc (by decide) | exact absurd rfl hc | (exfalso; simp at hc; done) | (exfalso; revert hc; simp; omega))
          all_goals refine mof_at (y.2.2.2.getD v.toNat ⟨0, 0, false⟩) trivial ⟨⟨rfl, rfl, rfl, trivial⟩, trivial⟩ ?_
          all_goals rintro x4 hx4
          all_goals (have hx4 : x4 = y.2.2.2.getD v.toNat ⟨0, 0, false⟩ := hx4)
          all_goals subst hx4
          all_goals repeat' (first
 | (with_reducible first | exact True.intro | apply And.intro | apply If_true | apply If_false | apply If_not)
 | ((with_reducible apply VC.mk); (first | trivial | omega | (simp only [inR]; omega) | (exact ⟨rfl, List.prefix_rfl⟩) | (refine ⟨rfl, rfl, rfl, ?_, rfl⟩; (simp; done)) | (focus (repeat' (first | exact True.intro | apply And.intro | rfl | exact Nat.le_of_ble_eq_true rfl)); done) | (simp [inR, Cont.cells]; done) | (simp [inR, Cont.cells]; omega)))
 | ((with_reducible apply If_dec) <;> intro hc <;> (try (exfalso; omega)))
 | ((with_reducible apply If_any) <;> intro hc)
 | ((with_reducible first | apply PF.mk | apply DrawP.mk); (focus kernel_rfl))
 | ((with_reducible apply Same.mk); (focus rfl); (first | exact trivial | exact rfl))
 | (intro cap hcap)
 | ((fail_if_success (with_reducible first | apply Fin.mk | apply CallP.mk | apply LoopP.mk | apply VC.mk | apply falseMk | apply Round.mk | apply LookP.mk | apply RangeP.mk | apply NextP.mk | apply EntryP.mk | apply Eq.symm)); conv => whnf))
          all_goals (try first | exact absurd hc (by decide) | exact absurd rfl hc | (exfalso; simp at hc; done) | (exfalso; revert hc; simp; omega))
          all_goals refine Round.mk ⟨(y.1 + 1, y.2.1 + 0 + m3, y.2.2.1, y.2.2.2), ⟨by show y.1 + 1 ≤ _; omega, by show y.2.1 + 0 + m3 ≤ 16 * (y.1 + 1); omega, g3, g4, g5, g6⟩, by show is.length - (y.1 + 1) < is.length - y.1; omega, Fit.ren [0, 1, 2, 3, 4, 5, 6] [] rfl rfl trivial (T6.le rfl rfl rfl rfl rfl rfl rfl rfl rfl rfl rfl ⟨⟨VC.mk ⟨rfl, rfl⟩, VC.mk ⟨rfl, Nat.le_refl _⟩, fun j hj => ent_les rfl⟩, trivial⟩) ?_⟩
          all_goals repeat' (first
 | (with_reducible first | exact True.intro | apply And.intro | apply If_true | apply If_false | apply If_not)
 | ((with_reducible apply VC.mk); (first | trivial | omega | (simp only [inR]; omega) | (exact ⟨rfl, List.prefix_rfl⟩) | (refine ⟨rfl, rfl, rfl, ?_, rfl⟩; (simp; done)) | (focus (repeat' (first | exact True.intro | apply And.intro | rfl | exact Nat.le_of_ble_eq_true rfl)); done) | (simp [inR, Cont.cells]; done) | (simp [inR, Cont.cells]; omega)))
 | ((with_reducible apply If_dec) <;> intro hc <;> (try (exfalso; omega)))
 | ((with_reducible apply If_any) <;> intro hc)
 | ((with_reducible first | apply PF.mk | apply DrawP.mk); (focus kernel_rfl))
 | ((with_reducible apply Same.mk); (focus rfl); (first | exact trivial | exact rfl))
 | (intro cap hcap)
 | ((fail_if_success (with_reducible first | apply Fin.mk | apply CallP.mk | apply LoopP.mk | apply VC.mk | apply falseMk | apply Round.mk | apply LookP.mk | apply RangeP.mk | apply NextP.mk | apply EntryP.mk | apply Eq.symm)); conv => whnf))
        · have hb : b = true := by rw [hb, decide_eq_true s2]
          dsimp only at s3 s4 s5
          subst s3 hb
          repeat' (first
 | (with_reducible first | exact True.intro | apply And.intro | apply If_true | apply If_false | apply If_not)
 | ((with_reducible apply VC.mk); (first | trivial | omega | (simp only [inR]; omega) | (exact ⟨rfl, List.prefix_rfl⟩) | (refine ⟨rfl, rfl, rfl, ?_, rfl⟩; (simp; done)) | (focus (repeat' (first | exact True.intro | apply And.intro | rfl | exact Nat.le_of_ble_eq_true rfl)); done) | (simp [inR, Cont.cells]; done) | (simp [inR, Cont.cells]; omega)))
 | ((with_reducible apply If_dec) <;> intro hc <;> (try (exfalso; omega)))
 | ((with_reducible apply If_any) <;> intro hc)
 | ((with_reducible first | apply PF.mk | apply DrawP.mk); (focus kernel_rfl))
 | ((with_reducible apply Same.mk); (focus rfl); (first | exact trivial | exact rfl))
 | (intro cap hcap)
 | ((fail_if_success (with_reducible first | apply Fin.mk | apply CallP.mk | apply LoopP.mk | apply VC.mk | apply falseMk | apply Round.mk | apply LookP.mk | apply RangeP.mk | apply NextP.mk | apply EntryP.mk | apply Eq.symm)); conv => whnf))
          all_goals (try first | exact absurd hc (by decide) | (exfalso; revert hc; simp; omega))
          simp only [e, ← hx]
          refine mof_at x trivial ⟨⟨rfl, rfl, rfl, trivial⟩, trivial⟩ ?_
          rintro x2 hx2
          have hx2 : x2 = x := hx2
          subst hx2
          repeat' (first
 | (with_reducible first | exact True.intro | apply And.intro | apply If_true | apply If_false | apply If_not)
 | ((with_reducible apply VC.mk); (first | trivial | omega | (simp only [inR]; omega) | (exact ⟨rfl, List.prefix_rfl⟩) | (refine ⟨rfl, rfl, rfl, ?_, rfl⟩; (simp; done)) | (focus (repeat' (first | exact True.intro | apply And.intro | rfl | exact Nat.le_of_ble_eq_true rfl)); done) | (simp [inR, Cont.cells]; done) | (simp [inR, Cont.cells]; omega)))
 | ((with_reducible apply If_dec) <;> intro hc <;> (try (exfalso; omega)))
 | ((with_reducible apply If_any) <;> intro hc)
 | ((with_reducible first | apply PF.mk | apply DrawP.mk); (focus kernel_rfl))
 | ((with_reducible apply Same.mk); (focus rfl); (first | exact trivial | exact rfl))
 | (intro cap hcap)
 | ((fail_if_success (with_reducible first | apply Fin.mk | apply CallP.mk | apply LoopP.mk | apply VC.mk | apply falseMk | apply Round.mk | apply LookP.mk | apply RangeP.mk | apply NextP.mk | apply EntryP.mk | apply Eq.symm)); conv => whnf))
          simp only [htt]
          have hlt : v.toNat < y.2.2.2.length := by omega
          have hgs : (y.2.2.2.set v.toNat x2).getD v.toNat ⟨0, 0, false⟩ = x2 := by rw [List.getD_eq_getElem?_getD, List.getElem?_set_self hlt]; rfl
          have s4 : t2 = y.2.2.1.put z ((n * 512).toNat + 8 * v.toNat) (leB 8 (encV x2).1) := by
            rw [s4, hcl, show (n * 512 + 8 * v).toNat = (n * 512).toNat + 8 * v.toNat by omega]; rfl
          have g7 : TabV t2 z (n * 512).toNat (y.2.2.2.set v.toNat x2) := by rw [s4]; exact g6.put g3 _ (by omega) s2
          have hpv := put_V g3 z ((n * 512).toNat + 8 * v.toNat) (leB 8 (encV x2).1)
          have g8 : t2.Ok := by rw [s4]; exact hpv.1
          have g9 : t2.over = false := by rw [s4, hpv.2.2.1]; exact g4
          have g10 : t2.B z := by rw [s4]; exact g5.put g3 _ (leB_B8 _ _)
          refine CallP.fit (avs' := [.p 5 0 1 0, .v (.int .i64 v)]) (H' := tp6 t2 ⟨512, 14848, 0⟩ ((DF.mk0 z).tick (y.2.1 + m2)) HD.m n ++ [.blk 70 (entsC (y.2.2.2.set v.toNat x2)) 192]) [0, 1, 2, 3, 4, 5, 6] [] rfl rfl trivial (T6.le rfl rfl rfl rfl rfl rfl rfl rfl rfl rfl rfl ?_) ⟨VC.mk ⟨rfl, rfl, rfl, rfl⟩, VC.mk rfl, trivial⟩ ?_
          · refine ⟨⟨VC.mk ⟨rfl, rfl⟩, VC.mk ⟨rfl, by show (y.2.2.2.set v.toNat x2).length ≤ _; rw [List.length_set]; exact Nat.le_refl _⟩, fun j hj => ent_les ?_⟩, trivial⟩
            by_cases hjv : j = v.toNat
            · subst hjv; rw [hgs]; simp [entAV]
            · have e3 : (y.2.2.2.set v.toNat x2).getD j ⟨0, 0, false⟩ = y.2.2.2.getD j ⟨0, 0, false⟩ := by
                rw [List.getD_eq_getElem?_getD, List.getElem?_set_ne (fun e => hjv e.symm), List.getD_eq_getElem?_getD]
              rw [e3]; simp [hjv]
          have hM2 : (y.2.2.2.set v.toNat x2).length = 64 := by rw [List.length_set]; exact hM
          generalize hN : y.2.2.2.set v.toNat x2 = N at hgs g7 hM2
          refine mget_at t2 ⟨512, 14848, 0⟩ ((DF.mk0 z).tick (y.2.1 + m2)) HD.m n v 0 1 2 3 4 5 ⟨hok _ _ g8 g10 (by omega), hvr⟩ rfl rfl rfl rfl rfl rfl rfl ⟨rfl, rfl, trivial⟩ ?_
          rintro ⟨⟨x3, e3⟩, m3⟩ ⟨q1, q2⟩
          have q3 : getR t2 z HD.m n v = (x2, 0) := by (unfold getR; rw [hcl8, if_pos s1, hcl, show (n * 512 + 8 * v).toNat = (n * 512).toNat + 8 * v.toNat by omega, g7.dec _ (by omega), hgs])
          obtain ⟨rfl, rfl⟩ : x3 = x2 ∧ e3 = 0 := by (have q4 := q1.trans q3; cases q4; exact ⟨rfl, rfl⟩)
          dsimp only at q2 ⊢
          simp only [htt]
          all_goals repeat' (first
 | (with_reducible first | exact True.intro | apply And.intro | apply If_true | apply If_false | apply If_not)
 | ((with_reducible apply VC.mk); (first | trivial | omega | (simp only [inR]; omega) | (exact ⟨rfl, List.prefix_rfl⟩) | (refine ⟨rfl, rfl, rfl, ?_, rfl⟩; (simp; done)) | (focus (repeat' (first | exact True.intro | apply And.intro | rfl | exact Nat.le_of_ble_eq_true rfl)); done) | (simp [inR, Cont.cells]; done) | (simp [inR, Cont.cells]; omega)))
 | ((with_reducible apply If_dec) <;> intro hc <;> (try (exfalso; omega)))
 | ((with_reducible apply If_any) <;> intro hc)
 | ((with_reducible first | apply PF.mk | apply DrawP.mk); (focus kernel_rfl))
 | ((with_reducible apply Same.mk); (focus rfl); (first | exact trivial | exact rfl))
 | (intro cap hcap)
 | ((fail_if_success (with_reducible first | apply Fin.mk | apply CallP.mk | apply LoopP.mk | apply VC.mk | apply falseMk | apply Round.mk | apply LookP.mk | apply RangeP.mk | apply NextP.mk | apply EntryP.mk | apply Eq.symm)); conv => whnf))
          all_goals (try first | exact absurd hc (by decide) | exact absurd rfl hc | (exfalso; rw [Nat.zero_add, hgs] at hc; simp at hc; done) | (exfalso; revert hc; simp; omega))
          all_goals refine mof_at (x3) trivial ⟨⟨rfl, rfl, rfl, trivial⟩, trivial⟩ ?_
          all_goals rintro x4 hx4
          all_goals (have hx4 : x4 = x3 := hx4)
          all_goals subst hx4
          all_goals repeat' (first
 | (with_reducible first | exact True.intro | apply And.intro | apply If_true | apply If_false | apply If_not)
 | ((with_reducible apply VC.mk); (first | trivial | omega | (simp only [inR]; omega) | (exact ⟨rfl, List.prefix_rfl⟩) | (refine ⟨rfl, rfl, rfl, ?_, rfl⟩; (simp; done)) | (focus (repeat' (first | exact True.intro | apply And.intro | rfl | exact Nat.le_of_ble_eq_true rfl)); done) | (simp [inR, Cont.cells]; done) | (simp [inR, Cont.cells]; omega)))
 | ((with_reducible apply If_dec) <;> intro hc <;> (try (exfalso; omega)))
 | ((with_reducible apply If_any) <;> intro hc)
 | ((with_reducible first | apply PF.mk | apply DrawP.mk); (focus kernel_rfl))
 | ((with_reducible apply Same.mk); (focus rfl); (first | exact trivial | exact rfl))
 | (intro cap hcap)
 | ((fail_if_success (with_reducible first | apply Fin.mk | apply CallP.mk | apply LoopP.mk | apply VC.mk | apply falseMk | apply Round.mk | apply LookP.mk | apply RangeP.mk | apply NextP.mk | apply EntryP.mk | apply Eq.symm)); conv => whnf))
          all_goals (try first | exact absurd hc (by decide) | exact absurd rfl hc | (exfalso; rw [Nat.zero_add, hgs] at hc; simp at hc; done) | (exfalso; revert hc; simp; omega))
          all_goals refine Round.mk ⟨(y.1 + 1, y.2.1 + m2 + m3, t2, N), ⟨by show y.1 + 1 ≤ _; omega, by show y.2.1 + m2 + m3 ≤ 16 * (y.1 + 1); omega, g8, g9, g10, g7⟩, by show is.length - (y.1 + 1) < is.length - y.1; omega, Fit.ren [0, 1, 2, 3, 4, 5, 6] [] rfl rfl trivial (T6.le rfl rfl rfl rfl rfl rfl rfl rfl rfl rfl rfl ⟨⟨VC.mk ⟨rfl, rfl⟩, VC.mk ⟨rfl, Nat.le_refl _⟩, fun j hj => ent_les rfl⟩, trivial⟩) ?_⟩
          all_goals repeat' (first
 | (with_reducible first | exact True.intro | apply And.intro | apply If_true | apply If_false | apply If_not)
 | ((with_reducible apply VC.mk); (first | trivial | omega | (simp only [inR]; omega) | (exact ⟨rfl, List.prefix_rfl⟩) | (refine ⟨rfl, rfl, rfl, ?_, rfl⟩; (simp; done)) | (focus (repeat' (first | exact True.intro | apply And.intro | rfl | exact Nat.le_of_ble_eq_true rfl)); done) | (simp [inR, Cont.cells]; done) | (simp [inR, Cont.cells]; omega)))
 | ((with_reducible apply If_dec) <;> intro hc <;> (try (exfalso; omega)))
 | ((with_reducible apply If_any) <;> intro hc)
 | ((with_reducible first | apply PF.mk | apply DrawP.mk); (focus kernel_rfl))
 | ((with_reducible apply Same.mk); (focus rfl); (first | exact trivial | exact rfl))
 | (intro cap hcap)
 | ((fail_if_success (with_reducible first | apply Fin.mk | apply CallP.mk | apply LoopP.mk | apply VC.mk | apply falseMk | apply Round.mk | apply LookP.mk | apply RangeP.mk | apply NextP.mk | apply EntryP.mk | apply Eq.symm)); conv => whnf))
      · refine mall_at y.2.2.1 ⟨512, 14848, 0⟩ ((DF.mk0 z).tick y.2.1) HD.m n 0 1 2 3 4 5 (hok _ _ g3 g5 (by omega)) rfl rfl rfl rfl rfl rfl rfl ⟨rfl, trivial⟩ ?_
        rintro ⟨r, m3⟩ ⟨q1, q2⟩
        have q1 : LRel (y.2.2.1.rd z (n * 512).toNat 512) r := by
          have q1 : LRel (y.2.2.1.rd z (n * HD.m.clus).toNat HD.m.clus.toNat) r := q1
          rw [hcl] at q1; exact q1
        have q3 := g6.list q1
        subst q3
        dsimp only at q2 ⊢
        simp only [htt]
        repeat' (first
 | (with_reducible first | exact True.intro | apply And.intro | apply If_true | apply If_false | apply If_not)
 | ((with_reducible apply VC.mk); (first | trivial | omega | (simp only [inR]; omega) | (exact ⟨rfl, List.prefix_rfl⟩) | (refine ⟨rfl, rfl, rfl, ?_, rfl⟩; (simp; done)) | (focus (repeat' (first | exact True.intro | apply And.intro | rfl | exact Nat.le_of_ble_eq_true rfl)); done) | (simp [inR, Cont.cells]; done) | (simp [inR, Cont.cells]; omega)))
 | ((with_reducible apply If_dec) <;> intro hc <;> (try (exfalso; omega)))
 | ((with_reducible apply If_any) <;> intro hc)
 | ((with_reducible first | apply PF.mk | apply DrawP.mk); (focus kernel_rfl))
 | ((with_reducible apply Same.mk); (focus rfl); (first | exact trivial | exact rfl))
 | (intro cap hcap)
 | ((fail_if_success (with_reducible first | apply Fin.mk | apply CallP.mk | apply LoopP.mk | apply VC.mk | apply falseMk | apply Round.mk | apply LookP.mk | apply RangeP.mk | apply NextP.mk | apply EntryP.mk | apply Eq.symm)); conv => whnf))
        obtain ⟨M, hMe⟩ : ∃ M, M = y.2.2.2 := ⟨_, rfl⟩
        rw [← hMe] at hM ⊢
        refine LoopP.mk ⟨Nat, fun u => u ≤ 64, fun u => ([(20, .im true 3 M.length (entsC M)), (11, .s 0 0 3 64 64), (21, .v (.int .i64 (u : Int)))], [.blk 70 (entsC M) 192]), fun u => 64 - u, 0, Nat.zero_le _, Fit.ren [6] [] rfl rfl trivial ⟨⟨VC.mk ⟨rfl, rfl⟩, VC.mk ⟨rfl, Nat.le_refl _⟩, fun j hj => ent_les rfl⟩, trivial⟩ ?_, ?_⟩
        · repeat' (first
 | (with_reducible first | exact True.intro | apply And.intro | apply If_true | apply If_false | apply If_not)
 | ((with_reducible apply VC.mk); (first | trivial | omega | (simp only [inR]; omega) | (exact ⟨rfl, List.prefix_rfl⟩) | (refine ⟨rfl, rfl, rfl, ?_, rfl⟩; (simp; done)) | (focus (repeat' (first | exact True.intro | apply And.intro | rfl | exact Nat.le_of_ble_eq_true rfl)); done) | (simp [inR, Cont.cells]; done) | (simp [inR, Cont.cells]; omega)))
 | ((with_reducible apply If_dec) <;> intro hc <;> (try (exfalso; omega)))
 | ((with_reducible apply If_any) <;> intro hc)
 | ((with_reducible first | apply PF.mk | apply DrawP.mk); (focus kernel_rfl))
 | ((with_reducible apply Same.mk); (focus rfl); (first | exact trivial | exact rfl))
 | (intro cap hcap)
 | ((fail_if_success (with_reducible first | apply Fin.mk | apply CallP.mk | apply LoopP.mk | apply VC.mk | apply falseMk | apply Round.mk | apply LookP.mk | apply RangeP.mk | apply NextP.mk | apply EntryP.mk | apply Eq.symm)); conv => whnf))
        · intro u hu
          have e2 : ((u : Nat) : Int).toNat = u := Int.toNat_natCast _
          repeat' (first
 | (with_reducible first | exact True.intro | apply And.intro | apply If_true | apply If_false | apply If_not)
 | ((with_reducible apply VC.mk); (first | trivial | omega | (simp only [inR]; omega) | (exact ⟨rfl, List.prefix_rfl⟩) | (refine ⟨rfl, rfl, rfl, ?_, rfl⟩; (simp; done)) | (focus (repeat' (first | exact True.intro | apply And.intro | rfl | exact Nat.le_of_ble_eq_true rfl)); done) | (simp [inR, Cont.cells]; done) | (simp [inR, Cont.cells]; omega)))
 | ((with_reducible apply If_dec) <;> intro hc <;> (try (exfalso; omega)))
 | ((with_reducible apply If_any) <;> intro hc)
 | ((with_reducible first | apply PF.mk | apply DrawP.mk); (focus kernel_rfl))
 | ((with_reducible apply Same.mk); (focus rfl); (first | exact trivial | exact rfl))
 | (intro cap hcap)
 | ((fail_if_success (with_reducible first | apply Fin.mk | apply CallP.mk | apply LoopP.mk | apply VC.mk | apply falseMk | apply Round.mk | apply LookP.mk | apply RangeP.mk | apply NextP.mk | apply EntryP.mk | apply Eq.symm)); conv => whnf))
          · simp only [e2]
            refine mof_at (M.getD u ⟨0, 0, false⟩) trivial ⟨⟨rfl, rfl, rfl, trivial⟩, trivial⟩ ?_
            rintro x4 hx4
            have hx4 : x4 = M.getD u ⟨0, 0, false⟩ := hx4
            subst hx4
            repeat' (first
 | (with_reducible first | exact True.intro | apply And.intro | apply If_true | apply If_false | apply If_not)
 | ((with_reducible apply VC.mk); (first | trivial | omega | (simp only [inR]; omega) | (exact ⟨rfl, List.prefix_rfl⟩) | (refine ⟨rfl, rfl, rfl, ?_, rfl⟩; (simp; done)) | (focus (repeat' (first | exact True.intro | apply And.intro | rfl | exact Nat.le_of_ble_eq_true rfl)); done) | (simp [inR, Cont.cells]; done) | (simp [inR, Cont.cells]; omega)))
 | ((with_reducible apply If_dec) <;> intro hc <;> (try (exfalso; omega)))
 | ((with_reducible apply If_any) <;> intro hc)
 | ((with_reducible first | apply PF.mk | apply DrawP.mk); (focus kernel_rfl))
 | ((with_reducible apply Same.mk); (focus rfl); (first | exact trivial | exact rfl))
 | (intro cap hcap)
 | ((fail_if_success (with_reducible first | apply Fin.mk | apply CallP.mk | apply LoopP.mk | apply VC.mk | apply falseMk | apply Round.mk | apply LookP.mk | apply RangeP.mk | apply NextP.mk | apply EntryP.mk | apply Eq.symm)); conv => whnf))
            all_goals (try first | (exfalso; simp at hc; done))
            refine Round.mk ⟨u + 1, by show u + 1 ≤ 64; omega, by show 64 - (u + 1) < 64 - u; omega, Fit.ren [0] [] rfl rfl trivial ⟨⟨VC.mk ⟨rfl, rfl⟩, VC.mk ⟨rfl, Nat.le_refl _⟩, fun j hj => ent_les rfl⟩, trivial⟩ ?_⟩
            repeat' (first
 | (with_reducible first | exact True.intro | apply And.intro | apply If_true | apply If_false | apply If_not)
 | ((with_reducible apply VC.mk); (first | trivial | omega | (simp only [inR]; omega) | (exact ⟨rfl, List.prefix_rfl⟩) | (refine ⟨rfl, rfl, rfl, ?_, rfl⟩; (simp; done)) | (focus (repeat' (first | exact True.intro | apply And.intro | rfl | exact Nat.le_of_ble_eq_true rfl)); done) | (simp [inR, Cont.cells]; done) | (simp [inR, Cont.cells]; omega)))
 | ((with_reducible apply If_dec) <;> intro hc <;> (try (exfalso; omega)))
 | ((with_reducible apply If_any) <;> intro hc)
 | ((with_reducible first | apply PF.mk | apply DrawP.mk); (focus kernel_rfl))
 | ((with_reducible apply Same.mk); (focus rfl); (first | exact trivial | exact rfl))
 | (intro cap hcap)
 | ((fail_if_success (with_reducible first | apply Fin.mk | apply CallP.mk | apply LoopP.mk | apply VC.mk | apply falseMk | apply Round.mk | apply LookP.mk | apply RangeP.mk | apply NextP.mk | apply EntryP.mk | apply Eq.symm)); conv => whnf))
          · exact Fin.bool (by decide) hk
end Go.Proofs.Ytjccknmgmommcaa.Sx

