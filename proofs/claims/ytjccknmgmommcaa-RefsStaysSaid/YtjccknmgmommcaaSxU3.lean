import Derived.Test.YtjccknmgmommcaaSxU2
import Derived.Test.YtjccknmgmommcaaSxU1
set_option linter.unusedVariables false
set_option linter.unusedSimpArgs false
set_option maxRecDepth 10000
namespace Go.Proofs.Ytjccknmgmommcaa.Sx
open Go.RowKit Go.Proofs.Ytjccknmgmommcaa.Sx.Tb
/-! ### Commit -/
theorem encL_B8 : ∀ {rs : List RecR}, (∀ r ∈ rs, B8 r.2) → B8 (encL rs)
  | [], h => B8.nil
  | r :: rs, h => by
    have e : encL (r :: rs) = enc1 r ++ encL rs := rfl
    rw [e]
    exact (((leB_B8 8 r.1).append (leB_B8 4 _)).append (h r (List.mem_cons_self ..))).append (encL_B8 (fun q hq => h q (List.mem_cons_of_mem _ hq)))
def JR.next (j : JR) : JR := { j with seq := (j.seq + 1) % 18446744073709551616 }
def comRel (j : JR) (s : DF) (rs : List RecR) (r : Int × JR × DF) : Prop :=
  ¬ (∀ q ∈ rs, j.out q.1 q.2.length) ∧ r = (4, j, s) ∨
  (∀ q ∈ rs, j.out q.1 q.2.length) ∧ j.size - 512 < (encL rs).length ∧ r = (15, j, s) ∨
  (∀ q ∈ rs, j.out q.1 q.2.length) ∧ (encL rs).length ≤ j.size - 512 ∧ ∃ x, x = s.run [.wr (j.pos + 512) (encL rs), .fl] ∧ (x.1 ≠ 0 ∧ r = (x.1, j, x.2) ∨ x.1 = 0 ∧ ∃ sg, sg = signL j.next.seq rs.length (encL rs) ∧ ∃ y, y = x.2.run [.wr j.pos sg, .fl] ∧ r = (y.1, j.next, y.2))
theorem wrap_u64 (x : Int) : IntKind.u64.wrap x = x % 18446744073709551616 := by simp [IntKind.wrap, IntKind.signed, IntKind.bits]
theorem JR.next_ok {j : JR} (h : j.Ok) : j.next.Ok := by
  obtain ⟨h1, h2, h3, h4, h5, h6⟩ := h
  refine ⟨h1, h2, h3, h4, ?_, ?_⟩
  · show 0 ≤ (j.seq + 1) % 18446744073709551616
    omega
  · show (j.seq + 1) % 18446744073709551616 < _
    omega
set_option maxHeartbeats 16000000 in
theorem commit_c (j : JR) (s : DF) (n : Int) (rs : List RecR) (k : K) (h0 : j.Ok ∧ s.Ok n ∧ n ≤ 137438953472 ∧ rs.length ≤ 1073741824 ∧ (encL rs).length ≤ 1099511627776 ∧ ∀ r ∈ rs, r.2.length ≤ 1073741824 ∧ B8 r.2) (hk : ∀ x : Int × JR × DF, comRel j s rs x → k (.v (.int .i64 x.1)) [x.2.1.blk 1, x.2.2.pk]) : evFunc tab [61] p68 Go.Proofs.Try.f68 [.p 0 0 1 0, .im false 2 rs.length (recsC false rs)] [j.blk 1, s.pk] k := by
  obtain ⟨hj, h7, h8, h9, h10, h11⟩ := h0
  have hj0 := hj
  obtain ⟨j1, j2, j3, j4, j5, j6⟩ := hj0
  repeat' (first
 | (with_reducible first | exact True.intro | apply And.intro | apply If_true | apply If_false | apply If_not)
 | ((with_reducible apply VC.mk); (first | trivial | omega | (simp only [inR]; omega) | (exact ⟨rfl, List.prefix_rfl⟩) | (refine ⟨rfl, rfl, rfl, ?_, rfl⟩; (simp; done)) | (focus (repeat' (first | exact True.intro | apply And.intro | rfl | exact Nat.le_of_ble_eq_true rfl)); done) | (simp [inR, Cont.cells]; done) | (simp [inR, Cont.cells]; omega)))
 | ((with_reducible apply If_dec) <;> intro hc <;> (try (exfalso; omega)))
 | ((with_reducible apply If_any) <;> intro hc)
 | ((with_reducible first | apply PF.mk | apply DrawP.mk); (focus kernel_rfl))
 | ((with_reducible apply Same.mk); (focus rfl); (first | exact trivial | exact rfl))
 | (intro cap hcap)
 | ((fail_if_success (with_reducible first | apply Fin.mk | apply CallP.mk | apply LoopP.mk | apply VC.mk | apply falseMk | apply Round.mk | apply LookP.mk | apply RangeP.mk | apply NextP.mk | apply EntryP.mk | apply Eq.symm)); conv => whnf))
  refine LoopP.mk ⟨Nat, fun y => y ≤ rs.length ∧ ∀ q ∈ rs.take y, j.out q.1 q.2.length, fun y => ([(0, .p 0 0 1 0), (1, .im false 2 rs.length (recsC false rs)), (13, .im false 2 rs.length (recsC false rs)), (14, .v (.int .i64 rs.length)), (15, .v (.int .i64 y))], [j.blk 1, s.pk]), fun y => rs.length - y, 0, ⟨Nat.zero_le _, by simp⟩, Fit.ren [0, 1] [] rfl rfl trivial (two_le rfl (Nat.le_of_ble_eq_true rfl) rfl rfl) ?_, ?_⟩
  · repeat' (first
 | (with_reducible first | exact True.intro | apply And.intro | apply If_true | apply If_false | apply If_not)
 | ((with_reducible apply VC.mk); (first | trivial | omega | (simp only [inR]; omega) | (exact ⟨rfl, List.prefix_rfl⟩) | (refine ⟨rfl, rfl, rfl, ?_, rfl⟩; (simp; done)) | (focus (repeat' (first | exact True.intro | apply And.intro | rfl | exact Nat.le_of_ble_eq_true rfl)); done) | (simp [inR, Cont.cells]; done) | (simp [inR, Cont.cells]; omega)))
 | ((with_reducible apply If_dec) <;> intro hc <;> (try (exfalso; omega)))
 | ((with_reducible apply If_any) <;> intro hc)
 | ((with_reducible first | apply PF.mk | apply DrawP.mk); (focus kernel_rfl))
 | ((with_reducible apply Same.mk); (focus rfl); (first | exact trivial | exact rfl))
 | (intro cap hcap)
 | ((fail_if_success (with_reducible first | apply Fin.mk | apply CallP.mk | apply LoopP.mk | apply VC.mk | apply falseMk | apply Round.mk | apply LookP.mk | apply RangeP.mk | apply NextP.mk | apply EntryP.mk | apply Eq.symm)); conv => whnf))
  · intro y hy
    obtain ⟨g1, g2⟩ := hy
    have e : ((y : Nat) : Int).toNat = y := Int.toNat_natCast _
    by_cases hlt : y < rs.length
    · have hm : rs.getD y (0, []) ∈ rs := by
        rw [show rs.getD y (0, []) = rs[y] by simp [List.getD_eq_getElem?_getD, hlt]]; exact List.getElem_mem hlt
      have hok := (h11 _ hm).1
      repeat' (first
 | (with_reducible first | exact True.intro | apply And.intro | apply If_true | apply If_false | apply If_not)
 | ((with_reducible apply VC.mk); (first | trivial | omega | (simp only [inR]; omega) | (exact ⟨rfl, List.prefix_rfl⟩) | (refine ⟨rfl, rfl, rfl, ?_, rfl⟩; (simp; done)) | (focus (repeat' (first | exact True.intro | apply And.intro | rfl | exact Nat.le_of_ble_eq_true rfl)); done) | (simp [inR, Cont.cells]; done) | (simp [inR, Cont.cells]; omega)))
 | ((with_reducible apply If_dec) <;> intro hc <;> (try (exfalso; omega)))
 | ((with_reducible apply If_any) <;> intro hc)
 | ((with_reducible first | apply PF.mk | apply DrawP.mk); (focus kernel_rfl))
 | ((with_reducible apply Same.mk); (focus rfl); (first | exact trivial | exact rfl))
 | (intro cap hcap)
 | ((fail_if_success (with_reducible first | apply Fin.mk | apply CallP.mk | apply LoopP.mk | apply VC.mk | apply falseMk | apply Round.mk | apply LookP.mk | apply RangeP.mk | apply NextP.mk | apply EntryP.mk | apply Eq.symm)); conv => whnf))
      simp only [e] at *
      have ht : rs.take (y + 1) = rs.take y ++ [rs.getD y (0, [])] := by
        rw [List.take_add_one]; congr 1; simp [List.getD_eq_getElem?_getD, hlt]
      generalize rs.getD y (0, []) = r at *
      refine outside_at j s r.1 (r.2.length : Int) 0 1 hj rfl rfl rfl ⟨rfl, rfl, rfl, trivial⟩ ?_
      intro b hb
      repeat' (first
 | (with_reducible first | exact True.intro | apply And.intro | apply If_true | apply If_false | apply If_not)
 | ((with_reducible apply VC.mk); (first | trivial | omega | (simp only [inR]; omega) | (exact ⟨rfl, List.prefix_rfl⟩) | (refine ⟨rfl, rfl, rfl, ?_, rfl⟩; (simp; done)) | (focus (repeat' (first | exact True.intro | apply And.intro | rfl | exact Nat.le_of_ble_eq_true rfl)); done) | (simp [inR, Cont.cells]; done) | (simp [inR, Cont.cells]; omega)))
 | ((with_reducible apply If_dec) <;> intro hc <;> (try (exfalso; omega)))
 | ((with_reducible apply If_any) <;> intro hc)
 | ((with_reducible first | apply PF.mk | apply DrawP.mk); (focus kernel_rfl))
 | ((with_reducible apply Same.mk); (focus rfl); (first | exact trivial | exact rfl))
 | (intro cap hcap)
 | ((fail_if_success (with_reducible first | apply Fin.mk | apply CallP.mk | apply LoopP.mk | apply VC.mk | apply falseMk | apply Round.mk | apply LookP.mk | apply RangeP.mk | apply NextP.mk | apply EntryP.mk | apply Eq.symm)); conv => whnf))
      · refine Round.mk ⟨y + 1, ⟨by show y + 1 ≤ _; omega, fun q hq => ?_⟩, by show rs.length - (y + 1) < rs.length - y; omega, Fit.ren [0, 1] [] rfl rfl trivial (two_le rfl (Nat.le_of_ble_eq_true rfl) rfl rfl) ?_⟩
        · rw [ht, List.mem_append] at hq
          rcases hq with hq | hq
          · exact g2 q hq
          · rw [List.mem_singleton] at hq; subst hq; exact hb.1 hc
        · repeat' (first
 | (with_reducible first | exact True.intro | apply And.intro | apply If_true | apply If_false | apply If_not)
 | ((with_reducible apply VC.mk); (first | trivial | omega | (simp only [inR]; omega) | (exact ⟨rfl, List.prefix_rfl⟩) | (refine ⟨rfl, rfl, rfl, ?_, rfl⟩; (simp; done)) | (focus (repeat' (first | exact True.intro | apply And.intro | rfl | exact Nat.le_of_ble_eq_true rfl)); done) | (simp [inR, Cont.cells]; done) | (simp [inR, Cont.cells]; omega)))
 | ((with_reducible apply If_dec) <;> intro hc <;> (try (exfalso; omega)))
 | ((with_reducible apply If_any) <;> intro hc)
 | ((with_reducible first | apply PF.mk | apply DrawP.mk); (focus kernel_rfl))
 | ((with_reducible apply Same.mk); (focus rfl); (first | exact trivial | exact rfl))
 | (intro cap hcap)
 | ((fail_if_success (with_reducible first | apply Fin.mk | apply CallP.mk | apply LoopP.mk | apply VC.mk | apply falseMk | apply Round.mk | apply LookP.mk | apply RangeP.mk | apply NextP.mk | apply EntryP.mk | apply Eq.symm)); conv => whnf))
      · exact J2.fin rfl rfl rfl (hk (4, j, s) (.inl ⟨fun h => (by rw [hb.2 (h r hm)] at hc; cases hc), rfl⟩))
    · have e5 : rs.take y = rs := List.take_of_length_le (by omega)
      rw [e5] at g2
      repeat' (first
 | (with_reducible first | exact True.intro | apply And.intro | apply If_true | apply If_false | apply If_not)
 | ((with_reducible apply VC.mk); (first | trivial | omega | (simp only [inR]; omega) | (exact ⟨rfl, List.prefix_rfl⟩) | (refine ⟨rfl, rfl, rfl, ?_, rfl⟩; (simp; done)) | (focus (repeat' (first | exact True.intro | apply And.intro | rfl | exact Nat.le_of_ble_eq_true rfl)); done) | (simp [inR, Cont.cells]; done) | (simp [inR, Cont.cells]; omega)))
 | ((with_reducible apply If_dec) <;> intro hc <;> (try (exfalso; omega)))
 | ((with_reducible apply If_any) <;> intro hc)
 | ((with_reducible first | apply PF.mk | apply DrawP.mk); (focus kernel_rfl))
 | ((with_reducible apply Same.mk); (focus rfl); (first | exact trivial | exact rfl))
 | (intro cap hcap)
 | ((fail_if_success (with_reducible first | apply Fin.mk | apply CallP.mk | apply LoopP.mk | apply VC.mk | apply falseMk | apply Round.mk | apply LookP.mk | apply RangeP.mk | apply NextP.mk | apply EntryP.mk | apply Eq.symm)); conv => whnf))
      refine enc_at rs ⟨by omega, h10, fun q hq => ?_⟩ ⟨⟨rfl, rfl, ⟨rfl, rfl, fun _ _ => rfl⟩⟩, trivial⟩ ?_
      · have := g2 q hq; have := h11 q hq; unfold JR.out at *; unfold recOk; omega
      intro body hbody
      have hbl : body.length ≤ 1099511627776 := by rw [hbody]; exact h10
      have hb8 : B8 body := by rw [hbody]; exact encL_B8 (fun q hq => (h11 q hq).2)
      repeat' (first
 | (with_reducible first | exact True.intro | apply And.intro | apply If_true | apply If_false | apply If_not)
 | ((with_reducible apply VC.mk); (first | trivial | omega | (simp only [inR]; omega) | (exact ⟨rfl, List.prefix_rfl⟩) | (refine ⟨rfl, rfl, rfl, ?_, rfl⟩; (simp; done)) | (focus (repeat' (first | exact True.intro | apply And.intro | rfl | exact Nat.le_of_ble_eq_true rfl)); done) | (simp [inR, Cont.cells]; done) | (simp [inR, Cont.cells]; omega)))
 | ((with_reducible apply If_dec) <;> intro hc <;> (try (exfalso; omega)))
 | ((with_reducible apply If_any) <;> intro hc)
 | ((with_reducible first | apply PF.mk | apply DrawP.mk); (focus kernel_rfl))
 | ((with_reducible apply Same.mk); (focus rfl); (first | exact trivial | exact rfl))
 | (intro cap hcap)
 | ((fail_if_success (with_reducible first | apply Fin.mk | apply CallP.mk | apply LoopP.mk | apply VC.mk | apply falseMk | apply Round.mk | apply LookP.mk | apply RangeP.mk | apply NextP.mk | apply EntryP.mk | apply Eq.symm)); conv => whnf))
      refine room_at j s 0 1 hj rfl rfl rfl ⟨rfl, trivial⟩ ?_
      intro _ _
      repeat' (first
 | (with_reducible first | exact True.intro | apply And.intro | apply If_true | apply If_false | apply If_not)
 | ((with_reducible apply VC.mk); (first | trivial | omega | (simp only [inR]; omega) | (exact ⟨rfl, List.prefix_rfl⟩) | (refine ⟨rfl, rfl, rfl, ?_, rfl⟩; (simp; done)) | (focus (repeat' (first | exact True.intro | apply And.intro | rfl | exact Nat.le_of_ble_eq_true rfl)); done) | (simp [inR, Cont.cells]; done) | (simp [inR, Cont.cells]; omega)))
 | ((with_reducible apply If_dec) <;> intro hc <;> (try (exfalso; omega)))
 | ((with_reducible apply If_any) <;> intro hc)
 | ((with_reducible first | apply PF.mk | apply DrawP.mk); (focus kernel_rfl))
 | ((with_reducible apply Same.mk); (focus rfl); (first | exact trivial | exact rfl))
 | (intro cap hcap)
 | ((fail_if_success (with_reducible first | apply Fin.mk | apply CallP.mk | apply LoopP.mk | apply VC.mk | apply falseMk | apply Round.mk | apply LookP.mk | apply RangeP.mk | apply NextP.mk | apply EntryP.mk | apply Eq.symm)); conv => whnf))
      · exact J2.fin rfl rfl rfl (hk (15, j, s) (.inr (.inl ⟨g2, by rw [← hbody]; omega, rfl⟩)))
      have hbr : (body.length : Int) ≤ j.size - 512 := by omega
      refine doWr_at s n (j.pos + 512) body 1 ⟨h7, by omega⟩ (by omega) rfl ⟨rfl, rfl, ⟨rfl, rfl, rfl⟩, trivial⟩ ?_
      have o1 := DF.doOp_ok h7 (.wr (j.pos + 512) body)
      have e1 := s.run2 (.wr (j.pos + 512) body)
      rw [show (FOp.wr (j.pos + 512) body).size = (body.length : Int) from rfl] at o1
      obtain ⟨x, hx⟩ : ∃ x, x = s.doOp (.wr (j.pos + 512) body) := ⟨_, rfl⟩
      rw [← hx] at o1 e1
      rw [← hx]
      have put : ∀ x : Int × DF, x = s.run [.wr (j.pos + 512) body, .fl] → x.1 ≠ 0 → k (.v (.int .i64 x.1)) [j.blk 1, x.2.pk] := fun x hx h =>
        hk (x.1, j, x.2) (.inr (.inr ⟨g2, by rw [← hbody]; exact hbr, x, by rw [← hbody]; exact hx, .inl ⟨h, rfl⟩⟩))
      repeat' (first
 | (with_reducible first | exact True.intro | apply And.intro | apply If_true | apply If_false | apply If_not)
 | ((with_reducible apply VC.mk); (first | trivial | omega | (simp only [inR]; omega) | (exact ⟨rfl, List.prefix_rfl⟩) | (refine ⟨rfl, rfl, rfl, ?_, rfl⟩; (simp; done)) | (focus (repeat' (first | exact True.intro | apply And.intro | rfl | exact Nat.le_of_ble_eq_true rfl)); done) | (simp [inR, Cont.cells]; done) | (simp [inR, Cont.cells]; omega)))
 | ((with_reducible apply If_dec) <;> intro hc <;> (try (exfalso; omega)))
 | ((with_reducible apply If_any) <;> intro hc)
 | ((with_reducible first | apply PF.mk | apply DrawP.mk); (focus kernel_rfl))
 | ((with_reducible apply Same.mk); (focus rfl); (first | exact trivial | exact rfl))
 | (intro cap hcap)
 | ((fail_if_success (with_reducible first | apply Fin.mk | apply CallP.mk | apply LoopP.mk | apply VC.mk | apply falseMk | apply Round.mk | apply LookP.mk | apply RangeP.mk | apply NextP.mk | apply EntryP.mk | apply Eq.symm)); conv => whnf))
      · rw [if_neg hc] at e1
        exact J2.fin rfl rfl rfl (put x e1.symm hc)
      rw [if_pos (Decidable.not_not.mp hc)] at e1
      refine doFl_at x.2 (n + 1 + body.length) 1 ⟨o1, by omega⟩ rfl ⟨rfl, trivial⟩ ?_
      have o2 := DF.doOp_ok o1 .fl
      rw [show FOp.fl.size = 0 from rfl] at o2
      obtain ⟨y2, hy2⟩ : ∃ y, y = x.2.doOp .fl := ⟨_, rfl⟩
      rw [← hy2] at e1 o2
      rw [← hy2]
      repeat' (first
 | (with_reducible first | exact True.intro | apply And.intro | apply If_true | apply If_false | apply If_not)
 | ((with_reducible apply VC.mk); (first | trivial | omega | (simp only [inR]; omega) | (exact ⟨rfl, List.prefix_rfl⟩) | (refine ⟨rfl, rfl, rfl, ?_, rfl⟩; (simp; done)) | (focus (repeat' (first | exact True.intro | apply And.intro | rfl | exact Nat.le_of_ble_eq_true rfl)); done) | (simp [inR, Cont.cells]; done) | (simp [inR, Cont.cells]; omega)))
 | ((with_reducible apply If_dec) <;> intro hc <;> (try (exfalso; omega)))
 | ((with_reducible apply If_any) <;> intro hc)
 | ((with_reducible first | apply PF.mk | apply DrawP.mk); (focus kernel_rfl))
 | ((with_reducible apply Same.mk); (focus rfl); (first | exact trivial | exact rfl))
 | (intro cap hcap)
 | ((fail_if_success (with_reducible first | apply Fin.mk | apply CallP.mk | apply LoopP.mk | apply VC.mk | apply falseMk | apply Round.mk | apply LookP.mk | apply RangeP.mk | apply NextP.mk | apply EntryP.mk | apply Eq.symm)); conv => whnf))
      · exact J2.fin rfl rfl rfl (put y2 e1.symm hc)
      have e2 : IntKind.u64.wrap (j.seq + 1) = j.next.seq := wrap_u64 _
      simp only [e2]
      obtain ⟨-, -, -, -, q5, q6⟩ := JR.next_ok hj
      refine sign_at j.next.seq rs.length body ⟨q5, q6, h9, by omega, hb8⟩ ⟨rfl, rfl, ⟨rfl, rfl, rfl⟩, trivial⟩ ?_
      intro sg hsg hsl
      repeat' (first
 | (with_reducible first | exact True.intro | apply And.intro | apply If_true | apply If_false | apply If_not)
 | ((with_reducible apply VC.mk); (first | trivial | omega | (simp only [inR]; omega) | (exact ⟨rfl, List.prefix_rfl⟩) | (refine ⟨rfl, rfl, rfl, ?_, rfl⟩; (simp; done)) | (focus (repeat' (first | exact True.intro | apply And.intro | rfl | exact Nat.le_of_ble_eq_true rfl)); done) | (simp [inR, Cont.cells]; done) | (simp [inR, Cont.cells]; omega)))
 | ((with_reducible apply If_dec) <;> intro hc <;> (try (exfalso; omega)))
 | ((with_reducible apply If_any) <;> intro hc)
 | ((with_reducible first | apply PF.mk | apply DrawP.mk); (focus kernel_rfl))
 | ((with_reducible apply Same.mk); (focus rfl); (first | exact trivial | exact rfl))
 | (intro cap hcap)
 | ((fail_if_success (with_reducible first | apply Fin.mk | apply CallP.mk | apply LoopP.mk | apply VC.mk | apply falseMk | apply Round.mk | apply LookP.mk | apply RangeP.mk | apply NextP.mk | apply EntryP.mk | apply Eq.symm)); conv => whnf))
      refine doWr_at y2.2 (n + 1 + body.length + 1 + 0) j.pos sg 1 ⟨o2, by omega⟩ (by omega) rfl ⟨rfl, rfl, ⟨rfl, rfl, rfl⟩, trivial⟩ ?_
      have o3 := DF.doOp_ok o2 (.wr j.pos sg)
      have e3 := y2.2.run2 (.wr j.pos sg)
      rw [show (FOp.wr j.pos sg).size = (sg.length : Int) from rfl] at o3
      obtain ⟨u, hu⟩ : ∃ u, u = y2.2.doOp (.wr j.pos sg) := ⟨_, rfl⟩
      rw [← hu] at o3 e3
      rw [← hu]
      have put2 : ∀ u : Int × DF, y2.2.run [.wr j.pos sg, .fl] = u → k (.v (.int .i64 u.1)) [j.next.blk 1, u.2.pk] := fun u hu =>
        hk (u.1, j.next, u.2) (.inr (.inr ⟨g2, by rw [← hbody]; exact hbr, y2, by rw [← hbody]; exact e1.symm, .inr ⟨Decidable.not_not.mp hc, sg, by rw [← hbody]; exact hsg, u, hu.symm, rfl⟩⟩))
      repeat' (first
 | (with_reducible first | exact True.intro | apply And.intro | apply If_true | apply If_false | apply If_not)
 | ((with_reducible apply VC.mk); (first | trivial | omega | (simp only [inR]; omega) | (exact ⟨rfl, List.prefix_rfl⟩) | (refine ⟨rfl, rfl, rfl, ?_, rfl⟩; (simp; done)) | (focus (repeat' (first | exact True.intro | apply And.intro | rfl | exact Nat.le_of_ble_eq_true rfl)); done) | (simp [inR, Cont.cells]; done) | (simp [inR, Cont.cells]; omega)))
 | ((with_reducible apply If_dec) <;> intro hc <;> (try (exfalso; omega)))
 | ((with_reducible apply If_any) <;> intro hc)
 | ((with_reducible first | apply PF.mk | apply DrawP.mk); (focus kernel_rfl))
 | ((with_reducible apply Same.mk); (focus rfl); (first | exact trivial | exact rfl))
 | (intro cap hcap)
 | ((fail_if_success (with_reducible first | apply Fin.mk | apply CallP.mk | apply LoopP.mk | apply VC.mk | apply falseMk | apply Round.mk | apply LookP.mk | apply RangeP.mk | apply NextP.mk | apply EntryP.mk | apply Eq.symm)); conv => whnf))
      · rw [if_neg hc] at e3
        exact J2.fin rfl rfl rfl (put2 u e3)
      rw [if_pos (Decidable.not_not.mp hc)] at e3
      refine doFl_at u.2 (n + 1 + body.length + 1 + 0 + 1 + sg.length) 1 ⟨o3, by omega⟩ rfl ⟨rfl, trivial⟩ ?_
      obtain ⟨u2, hu2⟩ : ∃ y, y = u.2.doOp .fl := ⟨_, rfl⟩
      rw [← hu2] at e3
      rw [← hu2]
      repeat' (first
 | (with_reducible first | exact True.intro | apply And.intro | apply If_true | apply If_false | apply If_not)
 | ((with_reducible apply VC.mk); (first | trivial | omega | (simp only [inR]; omega) | (exact ⟨rfl, List.prefix_rfl⟩) | (refine ⟨rfl, rfl, rfl, ?_, rfl⟩; (simp; done)) | (focus (repeat' (first | exact True.intro | apply And.intro | rfl | exact Nat.le_of_ble_eq_true rfl)); done) | (simp [inR, Cont.cells]; done) | (simp [inR, Cont.cells]; omega)))
 | ((with_reducible apply If_dec) <;> intro hc <;> (try (exfalso; omega)))
 | ((with_reducible apply If_any) <;> intro hc)
 | ((with_reducible first | apply PF.mk | apply DrawP.mk); (focus kernel_rfl))
 | ((with_reducible apply Same.mk); (focus rfl); (first | exact trivial | exact rfl))
 | (intro cap hcap)
 | ((fail_if_success (with_reducible first | apply Fin.mk | apply CallP.mk | apply LoopP.mk | apply VC.mk | apply falseMk | apply Round.mk | apply LookP.mk | apply RangeP.mk | apply NextP.mk | apply EntryP.mk | apply Eq.symm)); conv => whnf))
      exact J2.fin rfl rfl rfl (put2 u2 e3)
def commitOk (x : JR × DF × Int × List RecR) : Prop := x.1.Ok ∧ x.2.1.Ok x.2.2.1 ∧ x.2.2.1 ≤ 137438953472 ∧ x.2.2.2.length ≤ 1073741824 ∧ (encL x.2.2.2).length ≤ 1099511627776 ∧ ∀ r ∈ x.2.2.2, r.2.length ≤ 1073741824 ∧ B8 r.2
def commitRel (x : JR × DF × Int × List RecR) (r : Int × JR × DF) : Prop := comRel x.1 x.2.1 x.2.2.2 r
theorem commit_K : ConOk Go.Proofs.Try.prog 68 (Con.of (JR × DF × Int × List RecR) (Int × JR × DF) (fun x => [.p 0 0 1 0, .im false 2 x.2.2.2.length (recsC false x.2.2.2)]) (fun x => [x.1.blk 1, x.2.1.pk]) commitOk commitRel (fun x r => .v (.int .i64 r.1)) (fun x r => [JR.blk (r.2.1) 1, DF.pk (r.2.2)])) := by
  refine conOk_rel (T := tab) mix Go.Proofs.Try.func68 (by decide +kernel) (by kernel_rfl) [61] p68 (fun n => by rw [Go.Proofs.Try.ntmps68]; exact Nat.le_of_ble_eq_true rfl) (fun x r _ _ => J2.good (by simp [AV.noF, noFs, Cont.noF])) (fun x _ => J2.nd) ?_
  intro x k h0 hk
  exact commit_c x.1 x.2.1 x.2.2.1 x.2.2.2 k h0 (fun r hr => hk r hr)
theorem commit_at {avs : List AV} {H : List Chunk} {k : K} (j : JR) (s : DF) (n : Int) (rs : List RecR) (a b : Nat) (h0 : j.Ok ∧ s.Ok n ∧ n ≤ 137438953472 ∧ rs.length ≤ 1073741824 ∧ (encL rs).length ≤ 1099511627776 ∧ ∀ r ∈ rs, r.2.length ≤ 1073741824 ∧ B8 r.2) (hab : nodupN [a, b] = true) (ha0 : nth H a = some (j.blk b)) (hb0 : nth H b = some s.pk) (ha : argsM H [a, b] [.p 0 0 1 0, .im false 2 rs.length (recsC false rs)] avs)
    (h : ∀ r : Int × JR × DF, (comRel j s rs r) → k (.v (.int .i64 r.1)) ((H.set a (JR.blk (r.2.1) b)).set b (DF.pk (r.2.2)))) : CallP Go.Proofs.Try.prog 68 avs H k :=
  CallP.mk ⟨_, commit_K.real, Con.spec commit_K, (j, s, n, rs), [a, b], ⟨h0, hab, ⟨ha0, hb0, trivial⟩, ha⟩, fun r hr => (numK_eq _ _).mpr (by simpa [putAll, AV.ren, rens, Cont.ren, Chunk.ren, DF.pk, JR.blk, fren, nth] using h r hr)⟩
end Go.Proofs.Ytjccknmgmommcaa.Sx


set_option maxRecDepth 10000
namespace Go.Proofs.Ytjccknmgmommcaa.Sx
open Go.RowKit Go.Proofs.Ytjccknmgmommcaa.Sx.Tb
/-! ### Decode -/
def le8 (l : List Int) (at_ : Nat) : Int := leV ((l.drop at_).take 8)
def le4 (l : List Int) (at_ : Nat) : Int := leV ((l.drop at_).take 4)
def dec1 (l : List Int) (at_ : Nat) : Option RecR :=
  if at_ + 12 ≤ l.length ∧ (at_ : Int) + 12 + le4 l (at_ + 8) ≤ l.length ∧ le8 l at_ ≤ 4194304 then some (le8 l at_, (l.drop (at_ + 12)).take (le4 l (at_ + 8)).toNat) else none
def decF (l : List Int) : Nat → Option (List RecR × Nat)
  | 0 => some ([], 0)
  | i + 1 => match decF l i with
    | none => none
    | some y => match dec1 l y.2 with
      | none => none
      | some r => some (y.1 ++ [r], y.2 + 12 + r.2.length)
def decL (l : List Int) (n : Nat) : Option (List RecR) := match decF l n with
  | none => none
  | some y => if y.2 = l.length then some y.1 else none
theorem leV_bound {l : List Int} (h : B8 l) (n : Nat) : 0 ≤ leV (l.take n) ∧ leV (l.take n) < ((256 ^ n : Nat) : Int) := by
  refine ⟨leV_nonneg (h.take n), Int.lt_of_lt_of_le (leV_lt (h.take n)) ?_⟩
  have e : (256 : Int) ^ (l.take n).length = ((256 ^ (l.take n).length : Nat) : Int) := by simp
  rw [e]
  exact Int.ofNat_le.2 (Nat.pow_le_pow_right (by decide) (by simp; omega))
end Go.Proofs.Ytjccknmgmommcaa.Sx


set_option maxRecDepth 10000
namespace Go.Proofs.Ytjccknmgmommcaa.Sx
open Go.RowKit Go.Proofs.Ytjccknmgmommcaa.Sx.Tb
/-! ### Pending -/
instance (j : JR) (a n : Int) : Decidable (j.out a n) := by unfold JR.out; infer_instance
def pendOk (j : JR) (b : List Int) : Prop := le4 b 0 = 826954822 ∧ le4 b 24 = moreL 0 (b.take 24) ∧ le4 b 16 ≤ j.size - 512 ∧ le4 b 12 ≤ (j.size - 512) / 12 ∧ (∀ x ∈ (b.drop 28).take 484, x = 0) ∧ le4 b 20 = moreL 0 ((b.drop 512).take (le4 b 16).toNat)
instance (j : JR) (b : List Int) : Decidable (pendOk j b) := by unfold pendOk; infer_instance
def pendB (j : JR) (b : List Int) : Option (List RecR) :=
  if pendOk j b then match decL ((b.drop 512).take (le4 b 16).toNat) (le4 b 12).toNat with
    | some rs => if ∀ r ∈ rs, j.out r.1 r.2.length then some rs else none
    | none => none
  else none
def JR.part (j : JR) (s : DF) : List Int := (s.now.drop j.pos.toNat).take j.size.toNat
/-- What is pending: an error's number, the records, the number of the last. -/
def DF.pend (j : JR) (s : DF) : Int × Option (List RecR) × JR :=
  if s.refB = true then (5, none, j) else if (s.now.length : Int) < j.pos + j.size then (4, none, j) else match pendB j (j.part s) with
    | some rs => (0, some rs, { j with seq := le8 (j.part s) 4 })
    | none => (0, none, j)
end Go.Proofs.Ytjccknmgmommcaa.Sx


set_option maxRecDepth 10000
namespace Go.Proofs.Ytjccknmgmommcaa.Sx
open Go.RowKit Go.Proofs.Ytjccknmgmommcaa.Sx.Tb
def RF.mk0 (l : List Int) : RF := { safe := l, row := [], ops := 0, wrote := 0, fail := 0, stop := 0 }
theorem RF.Ok.zero {b : List Int} (h : b.length ≤ 4194304) : (RF.mk0 b).Ok 0 :=
  ⟨h, fun it hit => absurd hit (by simp [RF.mk0]), Int.le_refl _, ⟨Int.le_refl _, Int.le_refl _⟩, ⟨Int.le_refl _, Int.le_refl _⟩⟩
/-- What is known while operations go on. -/
structure Run (i : Nat) (s : DF) (m : RF) : Prop where
  f : s.Ok (1501 * i)
  m : m.Ok (1501 * i)
  live : s.live
theorem Run.step {i : Nat} {s s' : DF} {m m' : RF} {o : OpR} (h : Run i s m) (ho : o.light) (hd : s.Did o s') (hm : m'.Ok (1501 * i + 1 + o.b.length)) : Run (i + 1) s' m' ∧ (o.kind < 4 → s'.safe = s.safe) := by
  obtain ⟨h1, h2, h3⟩ := DF.Did.ok h.f h.live hd
  have := ho.1
  exact ⟨⟨h1.mono (by omega), RF.OkM hm (by omega), h2⟩, h3⟩
theorem Run.mono {i : Nat} {s : DF} {m : RF} (h : Run i s m) : Run (i + 1) s m := ⟨h.f.mono (by omega), RF.OkM h.m (by omega), h.live⟩
theorem Run.le {i j : Nat} {s : DF} {m : RF} (h : Run i s m) (hij : i ≤ j) : Run j s m := ⟨h.f.mono (by omega), RF.OkM h.m (by omega), h.live⟩
theorem Run.pre {i : Nat} {s : DF} {m : RF} {o : OpR} (h : Run i s m) (hi : i ≤ 1000) (ho : o.light) (hk : o.kind ≤ 4) : doneOk s m (1501 * i) o := by
  have a1 := h.f.ops
  have a2 := h.f.wrote
  have a3 := h.f.len
  have a4 := ho.1
  exact ⟨⟨a1.1, by omega, a2.1, by omega, by omega, h.f.now⟩, ⟨h.m, by omega⟩, by omega, hk⟩
end Go.Proofs.Ytjccknmgmommcaa.Sx


set_option maxRecDepth 10000
namespace Go.Proofs.Ytjccknmgmommcaa.Sx
open Go.RowKit Go.Proofs.Ytjccknmgmommcaa.Sx.Tb
end Go.Proofs.Ytjccknmgmommcaa.Sx


set_option maxRecDepth 10000
namespace Go.Proofs.Ytjccknmgmommcaa.Sx
open Go.RowKit Go.Proofs.Ytjccknmgmommcaa.Sx.Tb
/-! ### Replay, New -/
theorem cost_wrs_le : ∀ (rs : List RecR), cost (wrs rs) ≤ (encL rs).length
  | [] => Int.le_refl _
  | r :: rs => by
    have := cost_wrs_le rs
    have e : encL (r :: rs) = enc1 r ++ encL rs := rfl
    have e2 : wrs (r :: rs) = .wr r.1 r.2 :: wrs rs := rfl
    rw [e, e2, cost, List.length_append, enc1_length]
    show 1 + (r.2.length : Int) + cost (wrs rs) ≤ _
    omega
def applyOps (j : JR) (z : List Int) (rs : List RecR) : List FOp := wrs rs ++ [.fl, .wr j.pos z, .fl]
/-- A replay: how many, an error's number, the journal, the file. -/
def DF.replay (j : JR) (z : List Int) (s : DF) : Int × Int × JR × DF :=
  match (s.pend j).2.1 with
  | some rs => (rs.length, (s.asked.run (applyOps j z rs)).1, (s.pend j).2.2, (s.asked.run (applyOps j z rs)).2)
  | none => (0, (s.pend j).1, j, s.asked)
def newE (s : DF) (pos size : Int) : Int := if pos < 0 ∨ pos % 512 ≠ 0 ∨ size % 512 ≠ 0 then 19 else if size < 1024 ∨ (s.now.length : Int) < pos ∨ (s.now.length : Int) - pos < size then 4 else 0
theorem tmod512 (a : Int) : a.tmod 512 = 0 ↔ a % 512 = 0 := by
  rw [← Int.dvd_iff_tmod_eq_zero, ← Int.dvd_iff_emod_eq_zero]
set_option maxHeartbeats 16000000 in
theorem jnew_c (s : DF) (pos size : Int) (k : K) (h0 : s.now.length ≤ 4194304 ∧ inR .i64 size ∧ inR .i64 pos) (hk1 : newE s pos size ≠ 0 → k (.tup [.v (.pointer none), .v (.int .i64 (newE s pos size))]) [s.pk]) (hk2 : newE s pos size = 0 → k (.tup [.p 1 0 1 0, .v (.int .i64 0)]) [s.pk, JR.blk ⟨pos, size, 0⟩ 0]) : evFunc tab [16, 21] [] Go.Proofs.Try.f62 [.p 0 0 1 0, .v (.int .i64 pos), .v (.int .i64 size)] [s.pk] k := by
  obtain ⟨h1, h2, h3⟩ := h0
  have t1 := tmod512 pos
  have t2 := tmod512 size
  repeat' (first
 | (with_reducible first | exact True.intro | apply And.intro | apply If_true | apply If_false | apply If_not)
 | ((with_reducible apply VC.mk); (first | trivial | omega | (simp only [inR]; omega) | (exact ⟨rfl, List.prefix_rfl⟩) | (refine ⟨rfl, rfl, rfl, ?_, rfl⟩; (simp; done)) | (focus (repeat' (first | exact True.intro | apply And.intro | rfl | exact Nat.le_of_ble_eq_true rfl)); done) | (simp [inR, Cont.cells]; done) | (simp [inR, Cont.cells]; omega)))
 | ((with_reducible apply If_dec) <;> intro hc <;> (try (exfalso; omega)))
 | ((with_reducible apply If_any) <;> intro hc)
 | ((with_reducible first | apply PF.mk | apply DrawP.mk); (focus kernel_rfl))
 | ((with_reducible apply Same.mk); (focus rfl); (first | exact trivial | exact rfl))
 | (intro cap hcap)
 | ((fail_if_success (with_reducible first | apply Fin.mk | apply CallP.mk | apply LoopP.mk | apply VC.mk | apply falseMk | apply Round.mk | apply LookP.mk | apply RangeP.mk | apply NextP.mk | apply EntryP.mk | apply Eq.symm)); conv => whnf))
  · have e : newE s pos size = 19 := by unfold newE; rw [if_pos (.inl hc)]
    exact Fin.same (by rw [← e]; exact hk1 (by rw [e]; decide))
  · have e : newE s pos size = 19 := by unfold newE; rw [if_pos (.inr (.inl (fun h => hc (t1.2 h))))]
    exact Fin.same (by rw [← e]; exact hk1 (by rw [e]; decide))
  · have e : newE s pos size = 19 := by unfold newE; rw [if_pos (.inr (.inr (fun h => hc (t2.2 h))))]
    exact Fin.same (by rw [← e]; exact hk1 (by rw [e]; decide))
  all_goals have c0 : ¬ (pos < 0 ∨ pos % 512 ≠ 0 ∨ size % 512 ≠ 0) := (by have y1 := t1.1 (Decidable.not_not.mp (by assumption)); have y2 := t2.1 (Decidable.not_not.mp (by assumption)); omega)
  · have e : newE s pos size = 4 := by unfold newE; rw [if_neg c0, if_pos (.inl hc)]
    exact Fin.same (by rw [← e]; exact hk1 (by rw [e]; decide))
  refine len_at s 0 (by omega) rfl ⟨rfl, trivial⟩ (fun _ => ?_)
  repeat' (first
 | (with_reducible first | exact True.intro | apply And.intro | apply If_true | apply If_false | apply If_not)
 | ((with_reducible apply VC.mk); (first | trivial | omega | (simp only [inR]; omega) | (exact ⟨rfl, List.prefix_rfl⟩) | (refine ⟨rfl, rfl, rfl, ?_, rfl⟩; (simp; done)) | (focus (repeat' (first | exact True.intro | apply And.intro | rfl | exact Nat.le_of_ble_eq_true rfl)); done) | (simp [inR, Cont.cells]; done) | (simp [inR, Cont.cells]; omega)))
 | ((with_reducible apply If_dec) <;> intro hc <;> (try (exfalso; omega)))
 | ((with_reducible apply If_any) <;> intro hc)
 | ((with_reducible first | apply PF.mk | apply DrawP.mk); (focus kernel_rfl))
 | ((with_reducible apply Same.mk); (focus rfl); (first | exact trivial | exact rfl))
 | (intro cap hcap)
 | ((fail_if_success (with_reducible first | apply Fin.mk | apply CallP.mk | apply LoopP.mk | apply VC.mk | apply falseMk | apply Round.mk | apply LookP.mk | apply RangeP.mk | apply NextP.mk | apply EntryP.mk | apply Eq.symm)); conv => whnf))
  · have e : newE s pos size = 4 := by unfold newE; rw [if_neg c0, if_pos (.inr (.inl hc))]
    exact Fin.same (by rw [← e]; exact hk1 (by rw [e]; decide))
  refine len_at s 0 (by omega) rfl ⟨rfl, trivial⟩ (fun _ => ?_)
  repeat' (first
 | (with_reducible first | exact True.intro | apply And.intro | apply If_true | apply If_false | apply If_not)
 | ((with_reducible apply VC.mk); (first | trivial | omega | (simp only [inR]; omega) | (exact ⟨rfl, List.prefix_rfl⟩) | (refine ⟨rfl, rfl, rfl, ?_, rfl⟩; (simp; done)) | (focus (repeat' (first | exact True.intro | apply And.intro | rfl | exact Nat.le_of_ble_eq_true rfl)); done) | (simp [inR, Cont.cells]; done) | (simp [inR, Cont.cells]; omega)))
 | ((with_reducible apply If_dec) <;> intro hc <;> (try (exfalso; omega)))
 | ((with_reducible apply If_any) <;> intro hc)
 | ((with_reducible first | apply PF.mk | apply DrawP.mk); (focus kernel_rfl))
 | ((with_reducible apply Same.mk); (focus rfl); (first | exact trivial | exact rfl))
 | (intro cap hcap)
 | ((fail_if_success (with_reducible first | apply Fin.mk | apply CallP.mk | apply LoopP.mk | apply VC.mk | apply falseMk | apply Round.mk | apply LookP.mk | apply RangeP.mk | apply NextP.mk | apply EntryP.mk | apply Eq.symm)); conv => whnf))
  · have e : newE s pos size = 4 := by unfold newE; rw [if_neg c0, if_pos (.inr (.inr hc))]
    exact Fin.same (by rw [← e]; exact hk1 (by rw [e]; decide))
  · have e : newE s pos size = 0 := by unfold newE; rw [if_neg c0, if_neg (by omega)]
    exact Fin.same (hk2 e)
end Go.Proofs.Ytjccknmgmommcaa.Sx


set_option maxRecDepth 10000
namespace Go.Proofs.Ytjccknmgmommcaa.Sx
open Go.RowKit Go.Proofs.Ytjccknmgmommcaa.Sx.Tb
theorem jnew_K : ConOk Go.Proofs.Try.prog 62 ⟨DF × Int × Int, fun x => [.p 0 0 1 0, .v (.int .i64 x.2.1), .v (.int .i64 x.2.2)], fun x => [x.1.pk], fun x => x.1.now.length ≤ 4194304 ∧ inR .i64 x.2.2 ∧ inR .i64 x.2.1, fun x k => (newE x.1 x.2.1 x.2.2 ≠ 0 → k (.tup [.v (.pointer none), .v (.int .i64 (newE x.1 x.2.1 x.2.2))]) [x.1.pk]) ∧ (newE x.1 x.2.1 x.2.2 = 0 → k (.tup [.p 1 0 1 0, .v (.int .i64 0)]) [x.1.pk, JR.blk ⟨x.2.1, x.2.2, 0⟩ 0])⟩ := by
  refine conOk_fin (T := tab) mix Go.Proofs.Try.func62 (by decide +kernel) (by kernel_rfl) [16, 21] [] ?_ ?_ ?_ ?_
  · intro x h0; rw [Go.Proofs.Try.ntmps62]; exact Nat.le_of_ble_eq_true rfl
  · intro x k h0 hk; exact ⟨fun h => ⟨hk.1 h, DF.goodP _ (by simp [AV.noF, noFs])⟩, fun h => ⟨hk.2 h, ⟨by simp [AV.noF, noFs], (fun c hc => by simp at hc; rcases hc with rfl | rfl; exact DF.pk_noF _; exact JR.noF _ _), Nat.le_of_ble_eq_true rfl⟩⟩⟩
  · intro x h0; exact DF.ndP x.1
  · intro x k h0 hk; exact jnew_c x.1 x.2.1 x.2.2 _ h0 (fun h => Fin.same (hk.1 h)) (fun h => Fin.same (hk.2 h))
theorem jnew_at {avs : List AV} {H : List Chunk} {k : K} (s : DF) (pos size : Int) (i : Nat) (h0 : s.now.length ≤ 4194304 ∧ inR .i64 size ∧ inR .i64 pos) (hc : nth H i = some s.pk) (ha : argsM H [i] [.p 0 0 1 0, .v (.int .i64 pos), .v (.int .i64 size)] avs) (h1 : newE s pos size ≠ 0 → k (.tup [.v (.pointer none), .v (.int .i64 (newE s pos size))]) (H.set i s.pk))
    (h2 : newE s pos size = 0 → k (.tup [.p H.length 0 1 0, .v (.int .i64 0)]) (H.set i s.pk ++ [JR.blk ⟨pos, size, 0⟩ i])) : CallP Go.Proofs.Try.prog 62 avs H k :=
  CallP.mk ⟨_, jnew_K.real, Con.spec jnew_K, (s, pos, size), [i], ⟨h0, rfl, ⟨hc, trivial⟩, ha⟩, fun h => (numK_eq _ _).mpr (by simpa [putAll, AV.ren, rens, DF.pk, Chunk.ren] using h1 h), fun h => (numK_eq _ _).mpr (by simpa [putAll, AV.ren, rens, fren, nth, Chunk.ren, Cont.ren, DF.pk, JR.blk] using h2 h)⟩
end Go.Proofs.Ytjccknmgmommcaa.Sx


set_option maxRecDepth 10000
namespace Go.Proofs.Ytjccknmgmommcaa.Sx
/-! ### What is signed is pending -/
theorem putB_mid (P Q R : List Int) (n : Nat) (v : Int) (h : Q.length = n) (p : Nat) (hp : P.length = p) : putB (P ++ (Q ++ R)) p n v = P ++ (leB n v ++ R) := by
  subst hp h
  rw [putB_eq _ _ _ _ (by simp)]
  have e1 : (P ++ (Q ++ R)).take P.length = P := by simp
  have e2 : (P ++ (Q ++ R)).drop (P.length + Q.length) = R := by rw [← List.append_assoc, ← List.length_append]; simp
  rw [e1, e2, List.append_assoc]
def headL (seq : Int) (n : Nat) (body : List Int) : List Int := leB 4 826954822 ++ (leB 8 seq ++ (leB 4 (n : Int) ++ (leB 4 (body.length : Int) ++ leB 4 (moreL 0 body))))
theorem headL_length (seq : Int) (n : Nat) (body : List Int) : (headL seq n body).length = 24 := by simp [headL, leB_length]
theorem signL_eq (seq : Int) (n : Nat) (body : List Int) : signL seq n body = headL seq n body ++ (leB 4 (moreL 0 (headL seq n body)) ++ List.replicate 484 0) := by
  have r : ∀ Z : List Int, Z = List.replicate 484 0 → List.replicate 512 (0:Int) = [] ++ (List.replicate 4 0 ++ (List.replicate 8 0 ++ (List.replicate 4 0 ++ (List.replicate 4 0 ++ (List.replicate 4 0 ++ (List.replicate 4 0 ++ Z)))))) := by
    intro Z hZ
    subst hZ
    simp only [List.replicate_append_replicate, List.nil_append]
  obtain ⟨Z, hZ⟩ : ∃ Z : List Int, Z = List.replicate 484 0 := ⟨_, rfl⟩
  have r := r Z hZ
  rw [← hZ]
  obtain ⟨W, hW⟩ : ∃ W : List Int, W = List.replicate 512 0 := ⟨_, rfl⟩
  unfold signL
  rw [← hW] at r ⊢
  clear hZ hW
  obtain ⟨sum, hsum⟩ : ∃ x, x = moreL 0 body := ⟨_, rfl⟩
  have h4 : (List.replicate 4 (0:Int)).length = 4 := rfl
  have h8 : (List.replicate 8 (0:Int)).length = 8 := rfl
  simp only
  rw [r, putB_mid [] _ _ 4 _ h4 0 rfl, List.nil_append]
  rw [putB_mid (leB 4 826954822) _ _ 8 _ h8 4 (leB_length _ _)]
  rw [← List.append_assoc (leB 4 826954822), putB_mid (leB 4 826954822 ++ leB 8 seq) _ _ 4 _ h4 12 (by simp [leB_length])]
  rw [← List.append_assoc (leB 4 826954822 ++ leB 8 seq), putB_mid _ _ _ 4 _ h4 16 (by simp [leB_length])]
  rw [← List.append_assoc (leB 4 826954822 ++ leB 8 seq ++ leB 4 (n : Int)), putB_mid _ _ _ 4 _ h4 20 (by simp [leB_length])]
  rw [← List.append_assoc (leB 4 826954822 ++ leB 8 seq ++ leB 4 (n : Int) ++ leB 4 (body.length : Int))]
  have hh : leB 4 826954822 ++ leB 8 seq ++ leB 4 (n : Int) ++ leB 4 (body.length : Int) ++ leB 4 (moreL 0 body) = headL seq n body := by simp [headL]
  rw [hh, putB_mid _ _ _ 4 _ h4 24 (headL_length _ _ _)]
  have ht : (headL seq n body ++ (List.replicate 4 0 ++ Z)).take 24 = headL seq n body := by
    rw [← headL_length seq n body]; simp
  rw [ht]
def recP (r : RecR) : Prop := 0 ≤ r.1 ∧ r.1 ≤ 4194304 ∧ r.2.length < 4294967296
end Go.Proofs.Ytjccknmgmommcaa.Sx


set_option maxRecDepth 10000
namespace Go.Proofs.Ytjccknmgmommcaa.Sx
/-! ### What a file's bytes become -/
/-- Bytes at a place that isn't behind the end. -/
def putG (b : List Int) (p : Nat) (xs : List Int) : List Int := b.take p ++ (xs ++ b.drop (p + xs.length))
theorem putG_nil (b : List Int) (p : Nat) : putG b p [] = b := by simp [putG]
theorem putG_length {b : List Int} {p : Nat} {xs : List Int} (h : p ≤ b.length) : (putG b p xs).length = max b.length (p + xs.length) := by
  simp only [putG, List.length_append, List.length_take, List.length_drop]; omega
theorem putG_append {b : List Int} {p : Nat} (xs ys : List Int) (h : p ≤ b.length) : putG (putG b p xs) (p + xs.length) ys = putG b p (xs ++ ys) := by
  have e1 : (b.take p ++ xs).length = p + xs.length := by simp only [List.length_append, List.length_take]; omega
  have e2 : putG b p xs = (b.take p ++ xs) ++ b.drop (p + xs.length) := by simp [putG]
  have e3 : (putG b p xs).take (p + xs.length) = b.take p ++ xs := by rw [e2, ← e1, List.take_left]
  have e4 : (putG b p xs).drop (p + xs.length + ys.length) = b.drop (p + (xs ++ ys).length) := by
    rw [← List.drop_drop, e2, ← e1, List.drop_left, e1, List.drop_drop, List.length_append]
    congr 1; omega
  unfold putG at e3 e4 ⊢
  rw [e3, e4]
  simp [List.append_assoc]
theorem putG_B8 {b : List Int} {p : Nat} {xs : List Int} (h : B8 b) (h1 : B8 xs) : B8 (putG b p xs) := (h.take _).append (h1.append (h.drop _))
theorem putG_get {b : List Int} {p : Nat} {xs : List Int} (h : p ≤ b.length) (i : Nat) : (putG b p xs).getD i 0 = if p ≤ i ∧ i < p + xs.length then xs.getD (i - p) 0 else b.getD i 0 := by
  have hl : (b.take p).length = p := by simp only [List.length_take]; omega
  unfold putG
  simp only [List.getD_eq_getElem?_getD]
  by_cases h1 : i < p
  · rw [if_neg (by omega), List.getElem?_append_left (by omega), List.getElem?_take, if_pos h1]
  · rw [List.getElem?_append_right (by omega), hl]
    by_cases h2 : i < p + xs.length
    · rw [if_pos ⟨by omega, h2⟩, List.getElem?_append_left (by omega)]
    · rw [if_neg (by omega), List.getElem?_append_right (by omega), List.getElem?_drop]
      congr 2; omega
theorem layL_putG {b : List Int} {at_ : Int} {xs : List Int} (h0 : 0 ≤ at_) (h : at_.toNat ≤ b.length) : layL b false at_ xs = putG b at_.toNat xs := by
  have e0 : (at_ + xs.length).toNat = at_.toNat + xs.length := by omega
  unfold layL putG
  simp only [Bool.false_eq_true, if_false, List.append_assoc]
  unfold layP
  rw [e0, List.take_append_of_le_length h]
  congr 2
  by_cases hb : at_.toNat + xs.length ≤ b.length
  · rw [show at_.toNat + xs.length - b.length = 0 by omega]; simp
  · have a1 : b.drop (at_.toNat + xs.length) = [] := List.drop_eq_nil_of_le (by omega)
    rw [a1]
    exact List.drop_eq_nil_of_le (by simp only [List.length_append, List.length_replicate]; omega)
/-- A write's items: one for each sector. -/
def segs : Nat → Int → List Int → List (Bool × Int × List Int)
  | 0, _, _ => []
  | n + 1, at_, xs => if xs = [] then [] else (false, at_, xs.take (secN at_ xs.length)) :: segs n (at_ + secN at_ xs.length) (xs.drop (secN at_ xs.length))
theorem wrN_put : ∀ (n : Nat) (s : DF) (at_ : Int) (xs : List Int), xs.length ≤ n → 0 ≤ at_ → at_.toNat ≤ s.now.length → wrN n s at_ xs = { s with now := putG s.now at_.toNat xs, items := s.items ++ segs n at_ xs }
  | 0, s, at_, xs, hn, h0, h1 => by
    have : xs = [] := List.eq_nil_of_length_eq_zero (by omega)
    subst this
    rw [wrN, putG_nil, segs, List.append_nil]
  | n + 1, s, at_, xs, hn, h0, h1 => by
    by_cases hx : xs = []
    · subst hx
      rw [wrN, if_pos rfl, putG_nil, segs, if_pos rfl, List.append_nil]
    · have hp : 0 < xs.length := List.length_pos_iff.2 hx
      obtain ⟨c1, c2⟩ : 0 < secN at_ xs.length ∧ secN at_ xs.length ≤ xs.length := by unfold secN; omega
      rw [wrN, if_neg hx, segs, if_neg hx]
      generalize secN at_ xs.length = d at c1 c2 ⊢
      have e0 : (at_ + d).toNat = at_.toNat + d := by omega
      have tl : (xs.take d).length = d := by simp only [List.length_take]; omega
      rw [wrN_put n _ _ _ (by simp only [List.length_drop]; omega) (by omega) (by simp only []; rw [layL_putG h0 h1, putG_length h1, tl, e0]; omega)]
      simp only
      rw [layL_putG h0 h1, e0]
      have := putG_append (b := s.now) (p := at_.toNat) (xs.take d) (xs.drop d) h1
      rw [tl, List.take_append_drop] at this
      rw [this]
      simp [List.append_assoc]
theorem wrote1_put (s : DF) (at_ : Int) (xs : List Int) (h0 : 0 ≤ at_) (h1 : at_.toNat ≤ s.now.length) : s.wrote1 at_ xs = { s with now := putG s.now at_.toNat xs, items := s.items ++ segs xs.length at_ xs, ops := s.ops + 1, wrote := s.wrote + 1 } := by
  unfold DF.wrote1
  exact wrN_put _ _ _ _ (Nat.le_refl _) h0 h1
end Go.Proofs.Ytjccknmgmommcaa.Sx


set_option maxRecDepth 10000
namespace Go.Proofs.Ytjccknmgmommcaa.Sx
theorem DF.live.refB {s : DF} (h : s.live) : ¬ s.refB = true := fun e => h.not ((DF.refB_iff s).1 e)
theorem calm_wr {s : DF} (c : s.live) {at_ : Int} {xs : List Int} (h0 : 0 ≤ at_) (h1 : at_ + xs.length ≤ 4194304) (h2 : at_.toNat ≤ s.now.length) : s.doOp (.wr at_ xs) = (0, { s with now := putG s.now at_.toNat xs, items := s.items ++ segs xs.length at_ xs, ops := s.ops + 1, wrote := s.wrote + 1 }) := by
  rw [DF.doOp_wr, if_neg c.refB, if_neg (by omega), if_neg (by omega), wrote1_put s at_ xs h0 h2]
theorem calm_fl {s : DF} (c : s.live) : s.doOp .fl = (0, s.flushed) := by
  rw [DF.doOp_fl, if_neg c.refB]
/-- What a write and a flush make of a file that isn't refused. -/
theorem calm_two {s : DF} (c : s.live) {at_ : Int} {xs : List Int} (h0 : 0 ≤ at_) (h1 : at_ + xs.length ≤ 4194304) (h2 : at_.toNat ≤ s.now.length) : ∃ s', s.run [.wr at_ xs, .fl] = (0, s') ∧ s'.live ∧ s'.now = putG s.now at_.toNat xs ∧ s'.safe = s'.now ∧ s'.items = [] := by
  rw [s.run2, calm_wr c h0 h1 h2]
  simp only [if_true]
  refine ⟨_, calm_fl ?_, ?_, rfl, rfl, rfl⟩
  · exact c
  · exact c
theorem putG_two {b : List Int} {p n : Nat} {A B : List Int} (hA : A.length = n) (h : p + n ≤ b.length) : putG (putG b (p + n) B) p A = putG b p (A ++ B) := by
  subst hA
  have e1 : putG b (p + A.length) B = b.take (p + A.length) ++ (B ++ b.drop (p + A.length + B.length)) := rfl
  unfold putG at e1 ⊢
  rw [List.length_append]
  have t : (b.take (p + A.length) ++ (B ++ b.drop (p + A.length + B.length))).take p = b.take p := by
    rw [List.take_append_of_le_length (by simp only [List.length_take]; omega), List.take_take]; congr 1; omega
  have d : (b.take (p + A.length) ++ (B ++ b.drop (p + A.length + B.length))).drop (p + A.length) = B ++ b.drop (p + A.length + B.length) := by
    have hl : (b.take (p + A.length)).length = p + A.length := by simp only [List.length_take]; omega
    exact List.drop_left' hl
  rw [t, d, List.append_assoc, ← Nat.add_assoc]
theorem commit_calm {j : JR} {s : DF} {rs : List RecR} {r : Int × JR × DF} (h : comRel j s rs r) (c : s.live) (hj : j.Ok) (ho : ∀ q ∈ rs, j.out q.1 q.2.length) (hf : (encL rs).length ≤ j.size - 512) (hn : j.pos + j.size ≤ s.now.length) (hm : s.now.length ≤ 4194304) :
    r.1 = 0 ∧ r.2.1 = j.next ∧ r.2.2.live ∧ r.2.2.now = putG s.now j.pos.toNat (signL j.next.seq rs.length (encL rs) ++ encL rs) ∧ r.2.2.safe = r.2.2.now ∧ r.2.2.items = [] := by
  obtain ⟨j1, j2, j3, j4, j5, j6⟩ := hj
  rcases h with ⟨h1, _⟩ | ⟨_, h1, _⟩ | ⟨_, _, x, hx, h1⟩
  · exact absurd ho h1
  · omega
  · obtain ⟨s1, e1, c1, n1, n2, n3⟩ := calm_two c (at_ := j.pos + 512) (xs := encL rs) (by omega) (by omega) (by omega)
    rw [e1] at hx
    subst hx
    have hsl : ∀ a n b, (signL a n b).length = 512 := fun a n b => by rw [signL_eq, List.length_append, List.length_append, headL_length, leB_length]; rw [List.length_replicate]
    rcases h1 with ⟨h1, _⟩ | ⟨_, sg, hsg, y, hy, h2⟩
    · exact absurd rfl h1
    · have hsl := hsl j.next.seq rs.length (encL rs)
      rw [← hsg] at hsl
      have l1 : s1.now.length = s.now.length := by rw [n1, putG_length (by omega)]; omega
      obtain ⟨s2, e2, c2, k1, k2, k3⟩ := calm_two c1 (at_ := j.pos) (xs := sg) (by omega) (by omega) (by omega)
      simp only at hy
      rw [e2] at hy
      subst hy
      subst h2
      refine ⟨rfl, rfl, c2, ?_, k2, k3⟩
      show s2.now = _
      rw [k1, n1, ← hsg, show (j.pos + 512).toNat = j.pos.toNat + 512 by omega]
      exact putG_two hsl (by omega)
end Go.Proofs.Ytjccknmgmommcaa.Sx


set_option maxRecDepth 10000
namespace Go.Proofs.Ytjccknmgmommcaa.Sx
/-! ### Crashes, plainly -/
theorem getD_of_le {l : List Int} {i : Nat} (h : l.length ≤ i) : l.getD i 0 = 0 := by
  rw [List.getD_eq_getElem?_getD, List.getElem?_eq_none h]; rfl
theorem ext_getD {l m : List Int} (h : l.length = m.length) (h1 : ∀ i, i < l.length → l.getD i 0 = m.getD i 0) : l = m := by
  refine List.ext_getElem h (fun i hi hj => ?_)
  have := h1 i hi
  rwa [List.getD_eq_getElem?_getD, List.getElem?_eq_getElem hi, List.getD_eq_getElem?_getD, List.getElem?_eq_getElem hj] at this
theorem layP_get (b : List Int) (e : Int) (i : Nat) : (layP b e).getD i 0 = b.getD i 0 := by
  unfold layP
  by_cases h : i < b.length
  · rw [List.getD_eq_getElem?_getD, List.getElem?_append_left h, ← List.getD_eq_getElem?_getD]
  · rw [getD_of_le (l := b) (by omega)]
    rw [List.getD_eq_getElem?_getD, List.getElem?_append_right (by omega)]
    by_cases h2 : i - b.length < e.toNat - b.length
    · rw [List.getElem?_replicate, if_pos h2]; rfl
    · rw [List.getElem?_replicate, if_neg h2]; rfl
theorem layP_length (b : List Int) (e : Int) : (layP b e).length = max b.length e.toNat := by
  unfold layP; simp only [List.length_append, List.length_replicate]; omega
theorem layL_eq {b : List Int} {at_ : Int} {xs : List Int} (h0 : 0 ≤ at_) : layL b false at_ xs = putG (layP b (at_ + xs.length)) at_.toNat xs := by
  unfold layL putG
  simp only [Bool.false_eq_true, if_false, List.append_assoc]
theorem layL_length {b : List Int} {at_ : Int} {xs : List Int} (h0 : 0 ≤ at_) : (layL b false at_ xs).length = max b.length (at_.toNat + xs.length) := by
  rw [layL_eq h0, putG_length (by rw [layP_length]; omega), layP_length]; omega
theorem layL_at {b : List Int} {at_ : Int} {xs : List Int} (h0 : 0 ≤ at_) (i : Nat) : (layL b false at_ xs).getD i 0 = if at_.toNat ≤ i ∧ i < at_.toNat + xs.length then xs.getD (i - at_.toNat) 0 else b.getD i 0 := by
  rw [layL_eq h0, putG_get (by rw [layP_length]; omega), layP_get]
/-! ### Records are done -/
def covers (r : RecR) (i : Nat) : Prop := r.1.toNat ≤ i ∧ i < r.1.toNat + r.2.length
instance (r : RecR) (i : Nat) : Decidable (covers r i) := by unfold covers; infer_instance
def doneL (rs : List RecR) (C : List Int) : List Int := rs.foldl (fun c r => putG c r.1.toNat r.2) C
def endL (rs : List RecR) (n : Nat) : Nat := rs.foldl (fun m r => max m (r.1.toNat + r.2.length)) n
theorem doneL_length : ∀ (rs : List RecR) (C : List Int), (∀ r ∈ rs, r.1.toNat ≤ C.length) → (doneL rs C).length = endL rs C.length
  | [], C, h => rfl
  | r :: rs, C, h => by
    have h1 := putG_length (xs := r.2) (h r (List.mem_cons_self ..))
    have h2 := doneL_length rs (putG C r.1.toNat r.2) (fun q hq => by have := h q (List.mem_cons_of_mem _ hq); omega)
    rw [h1] at h2
    exact h2
theorem endL_ge : ∀ (rs : List RecR) (n : Nat), n ≤ endL rs n
  | [], n => Nat.le_refl _
  | r :: rs, n => Nat.le_trans (by omega) (endL_ge rs (max n (r.1.toNat + r.2.length)))
theorem endL_idem : ∀ (rs : List RecR) (n m : Nat), n ≤ m → m ≤ endL rs n → endL rs m = endL rs n
  | [], n, m, h1, h2 => Nat.le_antisymm h2 h1
  | r :: rs, n, m, h1, h2 => by
    show endL rs (max m _) = endL rs (max n _)
    have h2 : m ≤ endL rs (max n (r.1.toNat + r.2.length)) := h2
    refine endL_idem rs _ _ (by omega) ?_
    have := endL_ge rs (max n (r.1.toNat + r.2.length))
    omega
/-- Where a record covers, the old bytes don't count. -/
theorem doneL_same : ∀ (rs : List RecR) (C D : List Int) (i : Nat), (∀ r ∈ rs, r.1.toNat ≤ C.length) → (∀ r ∈ rs, r.1.toNat ≤ D.length) → ((∀ r ∈ rs, ¬ covers r i) → C.getD i 0 = D.getD i 0) → (doneL rs C).getD i 0 = (doneL rs D).getD i 0
  | [], C, D, i, _, _, h => h (fun r hr => by cases hr)
  | r :: rs, C, D, i, hC, hD, h => by
    have c1 := hC r (List.mem_cons_self ..)
    have d1 := hD r (List.mem_cons_self ..)
    refine doneL_same rs _ _ i (fun q hq => by rw [putG_length c1]; have := hC q (List.mem_cons_of_mem _ hq); omega) (fun q hq => by rw [putG_length d1]; have := hD q (List.mem_cons_of_mem _ hq); omega) (fun hn => ?_)
    rw [putG_get c1, putG_get d1]
    by_cases hc : r.1.toNat ≤ i ∧ i < r.1.toNat + r.2.length
    · rw [if_pos hc, if_pos hc]
    · rw [if_neg hc, if_neg hc]
      exact h (fun q hq => by rcases List.mem_cons.1 hq with rfl | hq; exact hc; exact hn q hq)
end Go.Proofs.Ytjccknmgmommcaa.Sx


set_option maxRecDepth 10000
namespace Go.Proofs.Ytjccknmgmommcaa.Sx
/-! ### What a file is between a commit and its end -/
def JR.inJ (j : JR) (i : Nat) : Prop := j.pos.toNat ≤ i ∧ i < j.pos.toNat + j.size.toNat
def JR.eqJ (j : JR) (C D : List Int) : Prop := C.length = D.length ∧ ∀ i, ¬ j.inJ i → C.getD i 0 = D.getD i 0
def JR.partL (j : JR) (C : List Int) : List Int := (C.drop j.pos.toNat).take j.size.toNat
/-- The case: a file's bytes, a journal of it, records that may be done. -/
structure JCase (j : JR) (b : List Int) (rs : List RecR) : Prop where
  ok : j.Ok
  al : j.pos % 512 = 0
  fit : j.pos + j.size ≤ b.length
  b8 : B8 b
  out : ∀ r ∈ rs, j.out r.1 r.2.length
  recs : ∀ r ∈ rs, recP r
  r8 : ∀ r ∈ rs, B8 r.2
  at_ : ∀ r ∈ rs, r.1.toNat ≤ b.length
  len : b.length ≤ 4194304
  room : (encL rs).length ≤ j.size - 512
/-- Some of the records' bytes may stand. -/
structure Mid (j : JR) (b : List Int) (rs : List RecR) (C : List Int) : Prop where
  lo : b.length ≤ C.length
  hi : C.length ≤ endL rs b.length
  b8 : B8 C
  off : ∀ i, ¬ j.inJ i → (∀ r ∈ rs, ¬ covers r i) → C.getD i 0 = b.getD i 0
theorem Mid.zero {j : JR} {b : List Int} {rs : List RecR} (hc : JCase j b rs) {C : List Int} (h : j.eqJ C b) (h8 : B8 C) : Mid j b rs C :=
  ⟨by rw [h.1]; exact Nat.le_refl _, by rw [h.1]; exact endL_ge _ _, h8, fun i hi _ => h.2 i hi⟩
/-- All records done, on whatever is between. -/
theorem Mid.done {j : JR} {b : List Int} {rs : List RecR} {C : List Int} (hc : JCase j b rs) (h : Mid j b rs C) : j.eqJ (doneL rs C) (doneL rs b) := by
  have ha : ∀ r ∈ rs, r.1.toNat ≤ C.length := fun r hr => Nat.le_trans (hc.at_ r hr) h.lo
  refine ⟨?_, fun i hi => ?_⟩
  · rw [doneL_length rs C ha, doneL_length rs b hc.at_]
    exact endL_idem rs _ _ h.lo h.hi
  · exact doneL_same rs C b i ha hc.at_ (fun hn => h.off i hi hn)
end Go.Proofs.Ytjccknmgmommcaa.Sx


set_option maxRecDepth 10000
namespace Go.Proofs.Ytjccknmgmommcaa.Sx
/-! ### What a crash may leave -/
/-- What a crash may leave, between a commit and its end. -/
def Cr (j : JR) (b : List Int) (rs : List RecR) (C : List Int) : Prop :=
  B8 C ∧ (j.eqJ C b ∧ pendB j (j.partL C) = none ∨ Mid j b rs C ∧ pendB j (j.partL C) = some rs ∨ j.eqJ C (doneL rs b) ∧ pendB j (j.partL C) = none)
theorem JR.eqJ.refl {j : JR} (C : List Int) : j.eqJ C C := ⟨rfl, fun _ _ => rfl⟩
theorem JR.eqJ.trans {j : JR} {C D E : List Int} (h : j.eqJ C D) (g : j.eqJ D E) : j.eqJ C E := ⟨h.1.trans g.1, fun i hi => (h.2 i hi).trans (g.2 i hi)⟩
/-- Whatever a crash keeps of a file. -/
def CrS (j : JR) (b : List Int) (rs : List RecR) (s : DF) : Prop := ∀ ks, Cr j b rs (crashL s.safe s.items ks)
theorem CrS.asked {j : JR} {b : List Int} {rs : List RecR} {s : DF} (h : CrS j b rs s) : CrS j b rs s.asked := h
end Go.Proofs.Ytjccknmgmommcaa.Sx


set_option maxRecDepth 10000
namespace Go.Proofs.Ytjccknmgmommcaa.Sx
/-! ### Apply, cut off anywhere -/
end Go.Proofs.Ytjccknmgmommcaa.Sx


set_option maxRecDepth 10000
namespace Go.Proofs.Ytjccknmgmommcaa.Sx
/-! ### Commit, cut off anywhere -/
theorem signL_length (a : Int) (n : Nat) (b : List Int) : (signL a n b).length = 512 := by rw [signL_eq, List.length_append, List.length_append, headL_length, leB_length, List.length_replicate]
end Go.Proofs.Ytjccknmgmommcaa.Sx


set_option maxRecDepth 10000
namespace Go.Proofs.Ytjccknmgmommcaa.Sx
/-! ### A replay, cut off anywhere -/
theorem Cr.len {j : JR} {b : List Int} {rs : List RecR} {C : List Int} (hc : JCase j b rs) (h : Cr j b rs C) : b.length ≤ C.length ∧ C.length ≤ endL rs b.length := by
  have := endL_ge rs b.length
  rcases h.2 with ⟨h, _⟩ | ⟨h, _⟩ | ⟨h, _⟩
  · rw [h.1]; exact ⟨Nat.le_refl _, this⟩
  · exact ⟨h.lo, h.hi⟩
  · rw [h.1, doneL_length rs b hc.at_]; exact ⟨this, Nat.le_refl _⟩
end Go.Proofs.Ytjccknmgmommcaa.Sx


set_option maxRecDepth 10000
namespace Go.Proofs.Ytjccknmgmommcaa.Sx
/-! ### The end -/
end Go.Proofs.Ytjccknmgmommcaa.Sx


set_option maxRecDepth 10000
namespace Go.Proofs.Ytjccknmgmommcaa.Sx
open Go.RowKit Go.Proofs.Ytjccknmgmommcaa.Sx.Tb
theorem inR_of_wf {k : IntKind} {n : Int} (h : (Lit.int k n).wf = true) : inR k n := by
  cases k <;> simp [Lit.wf, IntKind.wrap, IntKind.min, IntKind.max, IntKind.bits, IntKind.signed] at h <;> simp only [inR] <;> omega
end Go.Proofs.Ytjccknmgmommcaa.Sx


set_option maxRecDepth 10000
namespace Go.Proofs.Ytjccknmgmommcaa.Sx
open Go.RowKit Go.Proofs.Ytjccknmgmommcaa.Sx.Tb
/-! ### The functions of the law JournalCrashes -/
theorem recsC_noF (rs : List RecR) : (recsC true rs).noF := fun j hj => ⟨trivial, ⟨rfl, trivial⟩, trivial⟩
set_option maxHeartbeats 4000000 in
theorem with_c (l : List Int) (p : Nat) (xs : List Int) (k : K) (h0 : p + xs.length ≤ l.length ∧ l.length ≤ 1099511627776) (hk : ∀ m, m = putG l p xs → k (.im true 1 m.length (.ints .u8 m)) []) : evFunc tab [] [] Go.Proofs.Try.f60 [.im false 1 l.length (.ints .u8 l), .v (.int .i64 p), .im false 1 xs.length (.ints .u8 xs)] [] k := by
  repeat' (first
 | (with_reducible first | exact True.intro | apply And.intro | apply If_true | apply If_false | apply If_not)
 | ((with_reducible apply VC.mk); (first | trivial | omega | (simp only [inR]; omega) | (exact ⟨rfl, List.prefix_rfl⟩) | (refine ⟨rfl, rfl, rfl, ?_, rfl⟩; (simp; done)) | (focus (repeat' (first | exact True.intro | apply And.intro | rfl | exact Nat.le_of_ble_eq_true rfl)); done) | (simp [inR, Cont.cells]; done) | (simp [inR, Cont.cells]; omega)))
 | ((with_reducible apply If_dec) <;> intro hc <;> (try (exfalso; omega)))
 | ((with_reducible apply If_any) <;> intro hc)
 | ((with_reducible first | apply PF.mk | apply DrawP.mk); (focus kernel_rfl))
 | ((with_reducible apply Same.mk); (focus rfl); (first | exact trivial | exact rfl))
 | (intro cap hcap)
 | ((fail_if_success (with_reducible first | apply Fin.mk | apply CallP.mk | apply LoopP.mk | apply VC.mk | apply falseMk | apply Round.mk | apply LookP.mk | apply RangeP.mk | apply NextP.mk | apply EntryP.mk | apply Eq.symm)); conv => whnf))
  have e1 : ((p : Nat) : Int).toNat - Int.toNat 0 = p := by omega
  have e2 : ((p : Nat) + (xs.length : Int)).toNat = p + xs.length := by omega
  have e3 : List.take ((p : Int).toNat - Int.toNat 0) (List.drop (Int.toNat 0) l) ++ xs ++ List.take (l.length - ((p : Int) + (xs.length : Int)).toNat) (List.drop ((p : Int) + (xs.length : Int)).toNat l) = putG l p xs := by
    rw [e1, e2, show List.drop (Int.toNat 0) l = l from rfl, List.append_assoc, List.take_of_length_le (l := List.drop (p + xs.length) l) (by rw [List.length_drop]; exact Nat.le_refl _)]
    rfl
  rw [e3]
  refine Fin.frz rfl ?_ (hk _ rfl)
  rw [putG_length (by omega)]
  omega
def withOk (x : List Int × Nat × List Int) : Prop := x.2.1 + x.2.2.length ≤ x.1.length ∧ x.1.length ≤ 1099511627776
def withRel (x : List Int × Nat × List Int) (r : List Int) : Prop := r = putG x.1 x.2.1 x.2.2
theorem with_K : ConOk Go.Proofs.Try.prog 60 (Con.of (List Int × Nat × List Int) (List Int) (fun x => [.im false 1 x.1.length (.ints .u8 x.1), .v (.int .i64 x.2.1), .im false 1 x.2.2.length (.ints .u8 x.2.2)]) (fun _ => []) withOk withRel (fun _ r => .im true 1 r.length (.ints .u8 r)) (fun _ _ => [])) := by
  refine conOk_rel (T := tab) mix Go.Proofs.Try.func60 (by decide +kernel) (by kernel_rfl) [] [] (fun n => by rw [Go.Proofs.Try.ntmps60]; exact Nat.le_of_ble_eq_true rfl) (fun x r _ _ => ⟨by simp [AV.noF, noFs, Cont.noF, recsC_noF], (fun c hc => by cases hc), Nat.le_refl _⟩) (fun x _ c hc => by cases hc) ?_
  intro x k h0 hk
  exact with_c x.1 x.2.1 x.2.2 k h0 (fun r hr => hk r hr)
theorem with_at {avs : List AV} {H : List Chunk} {k : K} (l : List Int) (p : Nat) (xs : List Int) (h0 : p + xs.length ≤ l.length ∧ l.length ≤ 1099511627776) (ha : argsM H [] [.im false 1 l.length (.ints .u8 l), .v (.int .i64 p), .im false 1 xs.length (.ints .u8 xs)] avs) (h : ∀ r : List Int, (r = putG l p xs) → k (.im true 1 r.length (.ints .u8 r)) H) : CallP Go.Proofs.Try.prog 60 avs H k :=
  CallP.mk ⟨_, with_K.real, Con.spec with_K, (l, p, xs), [], ⟨h0, rfl, trivial, ha⟩, fun r hr => (numK_eq H.length (fun N => k (AV.ren (fren [] N) (.im true 1 r.length (.ints .u8 r))) (putAll H [] []))).mpr (by simpa [putAll, AV.ren, rens, Cont.ren, recsC, recAV] using h r hr)⟩
/-- Noughts that the caller owns. -/
theorem zerosO_c (n : Int) (k : K) (h0 : 0 ≤ n ∧ n ≤ 1099511627776) (hk : ∀ z, z = List.replicate n.toNat 0 → k (.s 0 0 1 z.length z.length) [.blk 5 (.ints .u8 z) z.length]) : evFunc tab [] [] Go.Proofs.Try.f61 [.v (.int .i64 n)] [] k := by
  repeat' (first
 | (with_reducible first | exact True.intro | apply And.intro | apply If_true | apply If_false | apply If_not)
 | ((with_reducible apply VC.mk); (first | trivial | omega | (simp only [inR]; omega) | (exact ⟨rfl, List.prefix_rfl⟩) | (refine ⟨rfl, rfl, rfl, ?_, rfl⟩; (simp; done)) | (focus (repeat' (first | exact True.intro | apply And.intro | rfl | exact Nat.le_of_ble_eq_true rfl)); done) | (simp [inR, Cont.cells]; done) | (simp [inR, Cont.cells]; omega)))
 | ((with_reducible apply If_dec) <;> intro hc <;> (try (exfalso; omega)))
 | ((with_reducible apply If_any) <;> intro hc)
 | ((with_reducible first | apply PF.mk | apply DrawP.mk); (focus kernel_rfl))
 | ((with_reducible apply Same.mk); (focus rfl); (first | exact trivial | exact rfl))
 | (intro cap hcap)
 | ((fail_if_success (with_reducible first | apply Fin.mk | apply CallP.mk | apply LoopP.mk | apply VC.mk | apply falseMk | apply Round.mk | apply LookP.mk | apply RangeP.mk | apply NextP.mk | apply EntryP.mk | apply Eq.symm)); conv => whnf))
  have := hk _ rfl
  rw [List.length_replicate] at this
  rw [Nat.mul_one]
  exact Fin.same this
theorem zerosO_K : ConOk Go.Proofs.Try.prog 61 (Con.of Int (List Int) (fun n => [.v (.int .i64 n)]) (fun _ => []) (fun n => 0 ≤ n ∧ n ≤ 1099511627776) (fun n z => z = List.replicate n.toNat 0) (fun _ z => .s 0 0 1 z.length z.length) (fun _ z => [.blk 5 (.ints .u8 z) z.length])) := by
  refine conOk_rel (T := tab) mix Go.Proofs.Try.func61 (by decide +kernel) (by kernel_rfl) [] [] (fun n => by rw [Go.Proofs.Try.ntmps61]; exact Nat.le_of_ble_eq_true rfl) (fun n z _ _ => ⟨trivial, (fun c hc => by simp at hc; subst hc; exact .blk trivial), Nat.zero_le _⟩) (fun n _ c hc => by cases hc) (fun n k h0 hk => zerosO_c n k h0 (fun z hz => hk z hz))
theorem zerosO_at {avs : List AV} {H : List Chunk} {k : K} (n : Int) (h0 : 0 ≤ n ∧ n ≤ 1099511627776) (ha : argsM H [] [.v (.int .i64 n)] avs) (h : ∀ z, z = List.replicate n.toNat 0 → k (.s H.length 0 1 z.length z.length) (H ++ [.blk 5 (.ints .u8 z) z.length])) : CallP Go.Proofs.Try.prog 61 avs H k :=
  CallP.mk ⟨_, zerosO_K.real, Con.spec zerosO_K, n, [], ⟨h0, rfl, trivial, ha⟩, fun z hz => (numK_eq _ _).mpr (by simpa [putAll, AV.ren, rens, fren, nth, Chunk.ren, Cont.ren] using h z hz)⟩
theorem Fin.vl {u : Value} {H : List Chunk} {k : K} (hk : k (.v u) []) : Fin 0 (.v u) H k := Fin.ren [] [] (.v u) [] rfl rfl trivial trivial (VC.mk rfl) hk
theorem rbytes_c (v : Int) (n : Nat) (k : K) (h0 : 0 ≤ v ∧ v < 18446744073709551616 ∧ n ≤ 1099511627776) (hk : ∀ m, m = leB n v → k (.im true 1 m.length (.ints .u8 m)) []) : evFunc tab [] [] Go.Proofs.Try.f57 [.v (.int .u64 v), .v (.int .i64 n)] [] k := by
  repeat' (first
 | (with_reducible first | exact True.intro | apply And.intro | apply If_true | apply If_false | apply If_not)
 | ((with_reducible apply VC.mk); (first | trivial | omega | (simp only [inR]; omega) | (exact ⟨rfl, List.prefix_rfl⟩) | (refine ⟨rfl, rfl, rfl, ?_, rfl⟩; (simp; done)) | (focus (repeat' (first | exact True.intro | apply And.intro | rfl | exact Nat.le_of_ble_eq_true rfl)); done) | (simp [inR, Cont.cells]; done) | (simp [inR, Cont.cells]; omega)))
 | ((with_reducible apply If_dec) <;> intro hc <;> (try (exfalso; omega)))
 | ((with_reducible apply If_any) <;> intro hc)
 | ((with_reducible first | apply PF.mk | apply DrawP.mk); (focus kernel_rfl))
 | ((with_reducible apply Same.mk); (focus rfl); (first | exact trivial | exact rfl))
 | (intro cap hcap)
 | ((fail_if_success (with_reducible first | apply Fin.mk | apply CallP.mk | apply LoopP.mk | apply VC.mk | apply falseMk | apply Round.mk | apply LookP.mk | apply RangeP.mk | apply NextP.mk | apply EntryP.mk | apply Eq.symm)); conv => whnf))
  refine LoopP.mk ⟨Nat × List Int × Int × Nat, fun y => y.1 ≤ n ∧ y.2.1.length = y.1 ∧ leB n v = y.2.1 ++ leB (n - y.1) y.2.2.1 ∧ 0 ≤ y.2.2.1 ∧ y.2.2.1 < 18446744073709551616, fun y => ([(0, .v (.int .u64 y.2.2.1)), (1, .v (.int .i64 n)), (5, .s 0 0 1 y.2.1.length y.2.2.2), (6, .v (.int .i64 y.1))], [.blk 5 (.ints .u8 y.2.1) (y.2.2.2 * 1)]), fun y => n - y.1, (0, [], v, 0), ⟨Nat.zero_le _, rfl, rfl, h0.1, h0.2.1⟩, Fit.ren [0] [] rfl rfl trivial ?_ ?_, ?_⟩
  · repeat' (first
 | (with_reducible first | exact True.intro | apply And.intro | apply If_true | apply If_false | apply If_not)
 | ((with_reducible apply VC.mk); (first | trivial | omega | (simp only [inR]; omega) | (exact ⟨rfl, List.prefix_rfl⟩) | (refine ⟨rfl, rfl, rfl, ?_, rfl⟩; (simp; done)) | (focus (repeat' (first | exact True.intro | apply And.intro | rfl | exact Nat.le_of_ble_eq_true rfl)); done) | (simp [inR, Cont.cells]; done) | (simp [inR, Cont.cells]; omega)))
 | ((with_reducible apply If_dec) <;> intro hc <;> (try (exfalso; omega)))
 | ((with_reducible apply If_any) <;> intro hc)
 | ((with_reducible first | apply PF.mk | apply DrawP.mk); (focus kernel_rfl))
 | ((with_reducible apply Same.mk); (focus rfl); (first | exact trivial | exact rfl))
 | (intro cap hcap)
 | ((fail_if_success (with_reducible first | apply Fin.mk | apply CallP.mk | apply LoopP.mk | apply VC.mk | apply falseMk | apply Round.mk | apply LookP.mk | apply RangeP.mk | apply NextP.mk | apply EntryP.mk | apply Eq.symm)); conv => whnf))
  · repeat' (first
 | (with_reducible first | exact True.intro | apply And.intro | apply If_true | apply If_false | apply If_not)
 | ((with_reducible apply VC.mk); (first | trivial | omega | (simp only [inR]; omega) | (exact ⟨rfl, List.prefix_rfl⟩) | (refine ⟨rfl, rfl, rfl, ?_, rfl⟩; (simp; done)) | (focus (repeat' (first | exact True.intro | apply And.intro | rfl | exact Nat.le_of_ble_eq_true rfl)); done) | (simp [inR, Cont.cells]; done) | (simp [inR, Cont.cells]; omega)))
 | ((with_reducible apply If_dec) <;> intro hc <;> (try (exfalso; omega)))
 | ((with_reducible apply If_any) <;> intro hc)
 | ((with_reducible first | apply PF.mk | apply DrawP.mk); (focus kernel_rfl))
 | ((with_reducible apply Same.mk); (focus rfl); (first | exact trivial | exact rfl))
 | (intro cap hcap)
 | ((fail_if_success (with_reducible first | apply Fin.mk | apply CallP.mk | apply LoopP.mk | apply VC.mk | apply falseMk | apply Round.mk | apply LookP.mk | apply RangeP.mk | apply NextP.mk | apply EntryP.mk | apply Eq.symm)); conv => whnf))
  · intro y hy
    obtain ⟨g1, g2, g3, g4, g5⟩ := hy
    have h8 : leB (n - y.1) y.2.2.1 = leB (n - y.1) y.2.2.1 := rfl
    repeat' (first
 | (with_reducible first | exact True.intro | apply And.intro | apply If_true | apply If_false | apply If_not)
 | ((with_reducible apply VC.mk); (first | trivial | omega | (simp only [inR]; omega) | (exact ⟨rfl, List.prefix_rfl⟩) | (refine ⟨rfl, rfl, rfl, ?_, rfl⟩; (simp; done)) | (focus (repeat' (first | exact True.intro | apply And.intro | rfl | exact Nat.le_of_ble_eq_true rfl)); done) | (simp [inR, Cont.cells]; done) | (simp [inR, Cont.cells]; omega)))
 | ((with_reducible apply If_dec) <;> intro hc <;> (try (exfalso; omega)))
 | ((with_reducible apply If_any) <;> intro hc)
 | ((with_reducible first | apply PF.mk | apply DrawP.mk); (focus kernel_rfl))
 | ((with_reducible apply Same.mk); (focus rfl); (first | exact trivial | exact rfl))
 | (intro cap hcap)
 | ((fail_if_success (with_reducible first | apply Fin.mk | apply CallP.mk | apply LoopP.mk | apply VC.mk | apply falseMk | apply Round.mk | apply LookP.mk | apply RangeP.mk | apply NextP.mk | apply EntryP.mk | apply Eq.symm)); conv => whnf))
    · obtain ⟨m, hm⟩ : ∃ m, n - y.1 = m + 1 := ⟨n - y.1 - 1, by omega⟩
      rw [hm, leB] at g3
      refine Round.mk ⟨(y.1 + 1, y.2.1 ++ [y.2.2.1 % 256], y.2.2.1 / 256, cap), ⟨by show y.1 + 1 ≤ _; omega, by show (y.2.1 ++ [_]).length = y.1 + 1; simp; omega, ?_, by show 0 ≤ y.2.2.1 / 256; omega, by show y.2.2.1 / 256 < _; omega⟩, by show n - (y.1 + 1) < n - y.1; omega, Fit.ren [2] [] rfl rfl trivial ?_ ?_⟩
      · show leB n v = (y.2.1 ++ [y.2.2.1 % 256]) ++ leB (n - (y.1 + 1)) (y.2.2.1 / 256)
        rw [show n - (y.1 + 1) = m by omega, List.append_assoc]
        exact g3
      · repeat' (first
 | (with_reducible first | exact True.intro | apply And.intro | apply If_true | apply If_false | apply If_not)
 | ((with_reducible apply VC.mk); (first | trivial | omega | (simp only [inR]; omega) | (exact ⟨rfl, List.prefix_rfl⟩) | (refine ⟨rfl, rfl, rfl, ?_, rfl⟩; (simp; done)) | (focus (repeat' (first | exact True.intro | apply And.intro | rfl | exact Nat.le_of_ble_eq_true rfl)); done) | (simp [inR, Cont.cells]; done) | (simp [inR, Cont.cells]; omega)))
 | ((with_reducible apply If_dec) <;> intro hc <;> (try (exfalso; omega)))
 | ((with_reducible apply If_any) <;> intro hc)
 | ((with_reducible first | apply PF.mk | apply DrawP.mk); (focus kernel_rfl))
 | ((with_reducible apply Same.mk); (focus rfl); (first | exact trivial | exact rfl))
 | (intro cap hcap)
 | ((fail_if_success (with_reducible first | apply Fin.mk | apply CallP.mk | apply LoopP.mk | apply VC.mk | apply falseMk | apply Round.mk | apply LookP.mk | apply RangeP.mk | apply NextP.mk | apply EntryP.mk | apply Eq.symm)); conv => whnf))
      · repeat' (first
 | (with_reducible first | exact True.intro | apply And.intro | apply If_true | apply If_false | apply If_not)
 | ((with_reducible apply VC.mk); (first | trivial | omega | (simp only [inR]; omega) | (exact ⟨rfl, List.prefix_rfl⟩) | (refine ⟨rfl, rfl, rfl, ?_, rfl⟩; (simp; done)) | (focus (repeat' (first | exact True.intro | apply And.intro | rfl | exact Nat.le_of_ble_eq_true rfl)); done) | (simp [inR, Cont.cells]; done) | (simp [inR, Cont.cells]; omega)))
 | ((with_reducible apply If_dec) <;> intro hc <;> (try (exfalso; omega)))
 | ((with_reducible apply If_any) <;> intro hc)
 | ((with_reducible first | apply PF.mk | apply DrawP.mk); (focus kernel_rfl))
 | ((with_reducible apply Same.mk); (focus rfl); (first | exact trivial | exact rfl))
 | (intro cap hcap)
 | ((fail_if_success (with_reducible first | apply Fin.mk | apply CallP.mk | apply LoopP.mk | apply VC.mk | apply falseMk | apply Round.mk | apply LookP.mk | apply RangeP.mk | apply NextP.mk | apply EntryP.mk | apply Eq.symm)); conv => whnf))
    · rw [show n - y.1 = 0 by omega, leB, List.append_nil] at g3
      refine Fin.ren [] [0] (.im true 1 y.2.1.length (.ints .u8 y.2.1)) [] rfl rfl ⟨trivial, trivial⟩ trivial ⟨VC.mk ⟨by omega, rfl, rfl, rfl, Nat.one_pos⟩, VC.mk ⟨rfl, by simp⟩⟩ (hk _ g3.symm)
def rbytesOk (x : Int × Nat) : Prop := 0 ≤ x.1 ∧ x.1 < 18446744073709551616 ∧ x.2 ≤ 1099511627776
def rbytesRel (x : Int × Nat) (r : List Int) : Prop := r = leB x.2 x.1
theorem rbytes_K : ConOk Go.Proofs.Try.prog 57 (Con.of (Int × Nat) (List Int) (fun x => [.v (.int .u64 x.1), .v (.int .i64 x.2)]) (fun _ => []) rbytesOk rbytesRel (fun _ r => .im true 1 r.length (.ints .u8 r)) (fun _ _ => [])) := by
  refine conOk_rel (T := tab) mix Go.Proofs.Try.func57 (by decide +kernel) (by kernel_rfl) [] [] (fun n => by rw [Go.Proofs.Try.ntmps57]; exact Nat.le_of_ble_eq_true rfl) (fun x r _ _ => ⟨by simp [AV.noF, noFs, Cont.noF, recsC_noF], (fun c hc => by cases hc), Nat.le_refl _⟩) (fun x _ c hc => by cases hc) ?_
  intro x k h0 hk
  exact rbytes_c x.1 x.2 k h0 (fun r hr => hk r hr)
theorem rbytes_at {avs : List AV} {H : List Chunk} {k : K} (v : Int) (n : Nat) (h0 : 0 ≤ v ∧ v < 18446744073709551616 ∧ n ≤ 1099511627776) (ha : argsM H [] [.v (.int .u64 v), .v (.int .i64 n)] avs) (h : ∀ r : List Int, (r = leB n v) → k (.im true 1 r.length (.ints .u8 r)) H) : CallP Go.Proofs.Try.prog 57 avs H k :=
  CallP.mk ⟨_, rbytes_K.real, Con.spec rbytes_K, (v, n), [], ⟨h0, rfl, trivial, ha⟩, fun r hr => (numK_eq H.length (fun N => k (AV.ren (fren [] N) (.im true 1 r.length (.ints .u8 r))) (putAll H [] []))).mpr (by simpa [putAll, AV.ren, rens, Cont.ren, recsC, recAV] using h r hr)⟩
end Go.Proofs.Ytjccknmgmommcaa.Sx

