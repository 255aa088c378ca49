import Derived.Test.YtjccknmgmommcaaSxJ3
set_option linter.unusedVariables false
set_option linter.unusedSimpArgs false
set_option maxRecDepth 10000
namespace Go.Proofs.Ytjccknmgmommcaa.Sx
open Go.RowKit Go.Proofs.Ytjccknmgmommcaa.Sx.Tb
/-! ### Commit -/
theorem encL_B8 : ∀ {rs : List RecR}, (∀ r ∈ rs, B8 r.2) → B8 (encL rs)
  | [], h => B8.nil
  | r :: rs, h => by
    have e : encL (r :: rs) = enc1 r ++ encL rs := rfl
    rw [e]
    exact (((leB_B8 8 r.1).append (leB_B8 4 _)).append (h r (List.mem_cons_self ..))).append (encL_B8 (fun q hq => h q (List.mem_cons_of_mem _ hq)))
def JR.next (j : JR) : JR := { j with seq := (j.seq + 1) % 18446744073709551616 }
def comRel (j : JR) (s : DF) (rs : List RecR) (r : Int × JR × DF) : Prop :=
  ¬ (∀ q ∈ rs, j.out q.1 q.2.length) ∧ r = (4, j, s) ∨
  (∀ q ∈ rs, j.out q.1 q.2.length) ∧ j.size - 512 < (encL rs).length ∧ r = (15, j, s) ∨
  (∀ q ∈ rs, j.out q.1 q.2.length) ∧ (encL rs).length ≤ j.size - 512 ∧ ∃ x, x = s.run [.wr (j.pos + 512) (encL rs), .fl] ∧ (x.1 ≠ 0 ∧ r = (x.1, j, x.2) ∨ x.1 = 0 ∧ ∃ sg, sg = signL j.next.seq rs.length (encL rs) ∧ ∃ y, y = x.2.run [.wr j.pos sg, .fl] ∧ r = (y.1, j.next, y.2))
theorem wrap_u64 (x : Int) : IntKind.u64.wrap x = x % 18446744073709551616 := by simp [IntKind.wrap, IntKind.signed, IntKind.bits]
theorem JR.next_ok {j : JR} (h : j.Ok) : j.next.Ok := by
  obtain ⟨h1, h2, h3, h4, h5, h6⟩ := h
  refine ⟨h1, h2, h3, h4, ?_, ?_⟩
  · show 0 ≤ (j.seq + 1) % 18446744073709551616
    omega
  · show (j.seq + 1) % 18446744073709551616 < _
    omega
set_option maxHeartbeats 16000000 in
theorem commit_c (j : JR) (s : DF) (n : Int) (rs : List RecR) (k : K) (h0 : j.Ok ∧ s.Ok n ∧ n ≤ 137438953472 ∧ rs.length ≤ 1073741824 ∧ (encL rs).length ≤ 1099511627776 ∧ ∀ r ∈ rs, r.2.length ≤ 1073741824 ∧ B8 r.2) (hk : ∀ x : Int × JR × DF, comRel j s rs x → k (.v (.int .i64 x.1)) [x.2.1.blk 1, x.2.2.pk]) : evFunc tab [61] p68 Go.Proofs.Try.f68 [.p 0 0 1 0, .im false 2 rs.length (recsC false rs)] [j.blk 1, s.pk] k := by
  obtain ⟨hj, h7, h8, h9, h10, h11⟩ := h0
  have hj0 := hj
  obtain ⟨j1, j2, j3, j4, j5, j6⟩ := hj0
  repeat' (first
 | (with_reducible first | exact True.intro | apply And.intro | apply If_true | apply If_false | apply If_not)
 | ((with_reducible apply VC.mk); (first | trivial | omega | (simp only [inR]; omega) | (exact ⟨rfl, List.prefix_rfl⟩) | (refine ⟨rfl, rfl, rfl, ?_, rfl⟩; (simp; done)) | (focus (repeat' (first | exact True.intro | apply And.intro | rfl | exact Nat.le_of_ble_eq_true rfl)); done) | (simp [inR, Cont.cells]; done) | (simp [inR, Cont.cells]; omega)))
 | ((with_reducible apply If_dec) <;> intro hc <;> (try (exfalso; omega)))
 | ((with_reducible apply If_any) <;> intro hc)
 | ((with_reducible first | apply PF.mk | apply DrawP.mk); (focus kernel_rfl))
 | ((with_reducible apply Same.mk); (focus rfl); (first | exact trivial | exact rfl))
 | (intro cap hcap)
 | ((fail_if_success (with_reducible first | apply Fin.mk | apply CallP.mk | apply LoopP.mk | apply VC.mk | apply falseMk | apply Round.mk | apply Eq.symm)); conv => whnf))
  refine LoopP.mk ⟨Nat, fun y => y ≤ rs.length ∧ ∀ q ∈ rs.take y, j.out q.1 q.2.length, fun y => ([(0, .p 0 0 1 0), (1, .im false 2 rs.length (recsC false rs)), (13, .im false 2 rs.length (recsC false rs)), (14, .v (.int .i64 rs.length)), (15, .v (.int .i64 y))], [j.blk 1, s.pk]), fun y => rs.length - y, 0, ⟨Nat.zero_le _, by simp⟩, Fit.ren [0, 1] [] rfl rfl trivial (two_le rfl (Nat.le_of_ble_eq_true rfl) rfl rfl) ?_, ?_⟩
  · repeat' (first
 | (with_reducible first | exact True.intro | apply And.intro | apply If_true | apply If_false | apply If_not)
 | ((with_reducible apply VC.mk); (first | trivial | omega | (simp only [inR]; omega) | (exact ⟨rfl, List.prefix_rfl⟩) | (refine ⟨rfl, rfl, rfl, ?_, rfl⟩; (simp; done)) | (focus (repeat' (first | exact True.intro | apply And.intro | rfl | exact Nat.le_of_ble_eq_true rfl)); done) | (simp [inR, Cont.cells]; done) | (simp [inR, Cont.cells]; omega)))
 | ((with_reducible apply If_dec) <;> intro hc <;> (try (exfalso; omega)))
 | ((with_reducible apply If_any) <;> intro hc)
 | ((with_reducible first | apply PF.mk | apply DrawP.mk); (focus kernel_rfl))
 | ((with_reducible apply Same.mk); (focus rfl); (first | exact trivial | exact rfl))
 | (intro cap hcap)
 | ((fail_if_success (with_reducible first | apply Fin.mk | apply CallP.mk | apply LoopP.mk | apply VC.mk | apply falseMk | apply Round.mk | apply Eq.symm)); conv => whnf))
  · intro y hy
    obtain ⟨g1, g2⟩ := hy
    have e : ((y : Nat) : Int).toNat = y := Int.toNat_natCast _
    by_cases hlt : y < rs.length
    · have hm : rs.getD y (0, []) ∈ rs := by
        rw [show rs.getD y (0, []) = rs[y] by simp [List.getD_eq_getElem?_getD, hlt]]; exact List.getElem_mem hlt
      have hok := (h11 _ hm).1
      repeat' (first
 | (with_reducible first | exact True.intro | apply And.intro | apply If_true | apply If_false | apply If_not)
 | ((with_reducible apply VC.mk); (first | trivial | omega | (simp only [inR]; omega) | (exact ⟨rfl, List.prefix_rfl⟩) | (refine ⟨rfl, rfl, rfl, ?_, rfl⟩; (simp; done)) | (focus (repeat' (first | exact True.intro | apply And.intro | rfl | exact Nat.le_of_ble_eq_true rfl)); done) | (simp [inR, Cont.cells]; done) | (simp [inR, Cont.cells]; omega)))
 | ((with_reducible apply If_dec) <;> intro hc <;> (try (exfalso; omega)))
 | ((with_reducible apply If_any) <;> intro hc)
 | ((with_reducible first | apply PF.mk | apply DrawP.mk); (focus kernel_rfl))
 | ((with_reducible apply Same.mk); (focus rfl); (first | exact trivial | exact rfl))
 | (intro cap hcap)
 | ((fail_if_success (with_reducible first | apply Fin.mk | apply CallP.mk | apply LoopP.mk | apply VC.mk | apply falseMk | apply Round.mk | apply Eq.symm)); conv => whnf))
      simp only [e] at *
      have ht : rs.take (y + 1) = rs.take y ++ [rs.getD y (0, [])] := by
        rw [List.take_add_one]; congr 1; simp [List.getD_eq_getElem?_getD, hlt]
      generalize rs.getD y (0, []) = r at *
      refine outside_at j s r.1 (r.2.length : Int) 0 1 hj rfl rfl rfl ⟨rfl, rfl, rfl, trivial⟩ ?_
      intro b hb
      repeat' (first
 | (with_reducible first | exact True.intro | apply And.intro | apply If_true | apply If_false | apply If_not)
 | ((with_reducible apply VC.mk); (first | trivial | omega | (simp only [inR]; omega) | (exact ⟨rfl, List.prefix_rfl⟩) | (refine ⟨rfl, rfl, rfl, ?_, rfl⟩; (simp; done)) | (focus (repeat' (first | exact True.intro | apply And.intro | rfl | exact Nat.le_of_ble_eq_true rfl)); done) | (simp [inR, Cont.cells]; done) | (simp [inR, Cont.cells]; omega)))
 | ((with_reducible apply If_dec) <;> intro hc <;> (try (exfalso; omega)))
 | ((with_reducible apply If_any) <;> intro hc)
 | ((with_reducible first | apply PF.mk | apply DrawP.mk); (focus kernel_rfl))
 | ((with_reducible apply Same.mk); (focus rfl); (first | exact trivial | exact rfl))
 | (intro cap hcap)
 | ((fail_if_success (with_reducible first | apply Fin.mk | apply CallP.mk | apply LoopP.mk | apply VC.mk | apply falseMk | apply Round.mk | apply Eq.symm)); conv => whnf))
      · refine Round.mk ⟨y + 1, ⟨by show y + 1 ≤ _; omega, fun q hq => ?_⟩, by show rs.length - (y + 1) < rs.length - y; omega, Fit.ren [0, 1] [] rfl rfl trivial (two_le rfl (Nat.le_of_ble_eq_true rfl) rfl rfl) ?_⟩
        · rw [ht, List.mem_append] at hq
          rcases hq with hq | hq
          · exact g2 q hq
          · rw [List.mem_singleton] at hq; subst hq; exact hb.1 hc
        · repeat' (first
 | (with_reducible first | exact True.intro | apply And.intro | apply If_true | apply If_false | apply If_not)
 | ((with_reducible apply VC.mk); (first | trivial | omega | (simp only [inR]; omega) | (exact ⟨rfl, List.prefix_rfl⟩) | (refine ⟨rfl, rfl, rfl, ?_, rfl⟩; (simp; done)) | (focus (repeat' (first | exact True.intro | apply And.intro | rfl | exact Nat.le_of_ble_eq_true rfl)); done) | (simp [inR, Cont.cells]; done) | (simp [inR, Cont.cells]; omega)))
 | ((with_reducible apply If_dec) <;> intro hc <;> (try (exfalso; omega)))
 | ((with_reducible apply If_any) <;> intro hc)
 | ((with_reducible first | apply PF.mk | apply DrawP.mk); (focus kernel_rfl))
 | ((with_reducible apply Same.mk); (focus rfl); (first | exact trivial | exact rfl))
 | (intro cap hcap)
 | ((fail_if_success (with_reducible first | apply Fin.mk | apply CallP.mk | apply LoopP.mk | apply VC.mk | apply falseMk | apply Round.mk | apply Eq.symm)); conv => whnf))
      · exact J2.fin rfl rfl rfl (hk (4, j, s) (.inl ⟨fun h => (by rw [hb.2 (h r hm)] at hc; cases hc), rfl⟩))
    · have e5 : rs.take y = rs := List.take_of_length_le (by omega)
      rw [e5] at g2
      repeat' (first
 | (with_reducible first | exact True.intro | apply And.intro | apply If_true | apply If_false | apply If_not)
 | ((with_reducible apply VC.mk); (first | trivial | omega | (simp only [inR]; omega) | (exact ⟨rfl, List.prefix_rfl⟩) | (refine ⟨rfl, rfl, rfl, ?_, rfl⟩; (simp; done)) | (focus (repeat' (first | exact True.intro | apply And.intro | rfl | exact Nat.le_of_ble_eq_true rfl)); done) | (simp [inR, Cont.cells]; done) | (simp [inR, Cont.cells]; omega)))
 | ((with_reducible apply If_dec) <;> intro hc <;> (try (exfalso; omega)))
 | ((with_reducible apply If_any) <;> intro hc)
 | ((with_reducible first | apply PF.mk | apply DrawP.mk); (focus kernel_rfl))
 | ((with_reducible apply Same.mk); (focus rfl); (first | exact trivial | exact rfl))
 | (intro cap hcap)
 | ((fail_if_success (with_reducible first | apply Fin.mk | apply CallP.mk | apply LoopP.mk | apply VC.mk | apply falseMk | apply Round.mk | apply Eq.symm)); conv => whnf))
      refine enc_at rs ⟨by omega, h10, fun q hq => ?_⟩ ⟨⟨rfl, rfl, ⟨rfl, rfl, fun _ _ => rfl⟩⟩, trivial⟩ ?_
      · have := g2 q hq; have := h11 q hq; unfold JR.out at *; unfold recOk; omega
      intro body hbody
      have hbl : body.length ≤ 1099511627776 := by rw [hbody]; exact h10
      have hb8 : B8 body := by rw [hbody]; exact encL_B8 (fun q hq => (h11 q hq).2)
      repeat' (first
 | (with_reducible first | exact True.intro | apply And.intro | apply If_true | apply If_false | apply If_not)
 | ((with_reducible apply VC.mk); (first | trivial | omega | (simp only [inR]; omega) | (exact ⟨rfl, List.prefix_rfl⟩) | (refine ⟨rfl, rfl, rfl, ?_, rfl⟩; (simp; done)) | (focus (repeat' (first | exact True.intro | apply And.intro | rfl | exact Nat.le_of_ble_eq_true rfl)); done) | (simp [inR, Cont.cells]; done) | (simp [inR, Cont.cells]; omega)))
 | ((with_reducible apply If_dec) <;> intro hc <;> (try (exfalso; omega)))
 | ((with_reducible apply If_any) <;> intro hc)
 | ((with_reducible first | apply PF.mk | apply DrawP.mk); (focus kernel_rfl))
 | ((with_reducible apply Same.mk); (focus rfl); (first | exact trivial | exact rfl))
 | (intro cap hcap)
 | ((fail_if_success (with_reducible first | apply Fin.mk | apply CallP.mk | apply LoopP.mk | apply VC.mk | apply falseMk | apply Round.mk | apply Eq.symm)); conv => whnf))
      refine room_at j s 0 1 hj rfl rfl rfl ⟨rfl, trivial⟩ ?_
      intro _ _
      repeat' (first
 | (with_reducible first | exact True.intro | apply And.intro | apply If_true | apply If_false | apply If_not)
 | ((with_reducible apply VC.mk); (first | trivial | omega | (simp only [inR]; omega) | (exact ⟨rfl, List.prefix_rfl⟩) | (refine ⟨rfl, rfl, rfl, ?_, rfl⟩; (simp; done)) | (focus (repeat' (first | exact True.intro | apply And.intro | rfl | exact Nat.le_of_ble_eq_true rfl)); done) | (simp [inR, Cont.cells]; done) | (simp [inR, Cont.cells]; omega)))
 | ((with_reducible apply If_dec) <;> intro hc <;> (try (exfalso; omega)))
 | ((with_reducible apply If_any) <;> intro hc)
 | ((with_reducible first | apply PF.mk | apply DrawP.mk); (focus kernel_rfl))
 | ((with_reducible apply Same.mk); (focus rfl); (first | exact trivial | exact rfl))
 | (intro cap hcap)
 | ((fail_if_success (with_reducible first | apply Fin.mk | apply CallP.mk | apply LoopP.mk | apply VC.mk | apply falseMk | apply Round.mk | apply Eq.symm)); conv => whnf))
      · exact J2.fin rfl rfl rfl (hk (15, j, s) (.inr (.inl ⟨g2, by rw [← hbody]; omega, rfl⟩)))
      have hbr : (body.length : Int) ≤ j.size - 512 := by omega
      refine doWr_at s n (j.pos + 512) body 1 ⟨h7, by omega⟩ (by omega) rfl ⟨rfl, rfl, ⟨rfl, rfl, rfl⟩, trivial⟩ ?_
      have o1 := DF.doOp_ok h7 (.wr (j.pos + 512) body)
      have e1 := s.run2 (.wr (j.pos + 512) body)
      rw [show (FOp.wr (j.pos + 512) body).size = (body.length : Int) from rfl] at o1
      obtain ⟨x, hx⟩ : ∃ x, x = s.doOp (.wr (j.pos + 512) body) := ⟨_, rfl⟩
      rw [← hx] at o1 e1
      rw [← hx]
      have put : ∀ x : Int × DF, x = s.run [.wr (j.pos + 512) body, .fl] → x.1 ≠ 0 → k (.v (.int .i64 x.1)) [j.blk 1, x.2.pk] := fun x hx h =>
        hk (x.1, j, x.2) (.inr (.inr ⟨g2, by rw [← hbody]; exact hbr, x, by rw [← hbody]; exact hx, .inl ⟨h, rfl⟩⟩))
      repeat' (first
 | (with_reducible first | exact True.intro | apply And.intro | apply If_true | apply If_false | apply If_not)
 | ((with_reducible apply VC.mk); (first | trivial | omega | (simp only [inR]; omega) | (exact ⟨rfl, List.prefix_rfl⟩) | (refine ⟨rfl, rfl, rfl, ?_, rfl⟩; (simp; done)) | (focus (repeat' (first | exact True.intro | apply And.intro | rfl | exact Nat.le_of_ble_eq_true rfl)); done) | (simp [inR, Cont.cells]; done) | (simp [inR, Cont.cells]; omega)))
 | ((with_reducible apply If_dec) <;> intro hc <;> (try (exfalso; omega)))
 | ((with_reducible apply If_any) <;> intro hc)
 | ((with_reducible first | apply PF.mk | apply DrawP.mk); (focus kernel_rfl))
 | ((with_reducible apply Same.mk); (focus rfl); (first | exact trivial | exact rfl))
 | (intro cap hcap)
 | ((fail_if_success (with_reducible first | apply Fin.mk | apply CallP.mk | apply LoopP.mk | apply VC.mk | apply falseMk | apply Round.mk | apply Eq.symm)); conv => whnf))
      · rw [if_neg hc] at e1
        exact J2.fin rfl rfl rfl (put x e1.symm hc)
      rw [if_pos (Decidable.not_not.mp hc)] at e1
      refine doFl_at x.2 (n + 1 + body.length) 1 ⟨o1, by omega⟩ rfl ⟨rfl, trivial⟩ ?_
      have o2 := DF.doOp_ok o1 .fl
      rw [show FOp.fl.size = 0 from rfl] at o2
      obtain ⟨y2, hy2⟩ : ∃ y, y = x.2.doOp .fl := ⟨_, rfl⟩
      rw [← hy2] at e1 o2
      rw [← hy2]
      repeat' (first
 | (with_reducible first | exact True.intro | apply And.intro | apply If_true | apply If_false | apply If_not)
 | ((with_reducible apply VC.mk); (first | trivial | omega | (simp only [inR]; omega) | (exact ⟨rfl, List.prefix_rfl⟩) | (refine ⟨rfl, rfl, rfl, ?_, rfl⟩; (simp; done)) | (focus (repeat' (first | exact True.intro | apply And.intro | rfl | exact Nat.le_of_ble_eq_true rfl)); done) | (simp [inR, Cont.cells]; done) | (simp [inR, Cont.cells]; omega)))
 | ((with_reducible apply If_dec) <;> intro hc <;> (try (exfalso; omega)))
 | ((with_reducible apply If_any) <;> intro hc)
 | ((with_reducible first | apply PF.mk | apply DrawP.mk); (focus kernel_rfl))
 | ((with_reducible apply Same.mk); (focus rfl); (first | exact trivial | exact rfl))
 | (intro cap hcap)
 | ((fail_if_success (with_reducible first | apply Fin.mk | apply CallP.mk | apply LoopP.mk | apply VC.mk | apply falseMk | apply Round.mk | apply Eq.symm)); conv => whnf))
      · exact J2.fin rfl rfl rfl (put y2 e1.symm hc)
      have e2 : IntKind.u64.wrap (j.seq + 1) = j.next.seq := wrap_u64 _
      simp only [e2]
      obtain ⟨-, -, -, -, q5, q6⟩ := JR.next_ok hj
      refine sign_at j.next.seq rs.length body ⟨q5, q6, h9, by omega, hb8⟩ ⟨rfl, rfl, ⟨rfl, rfl, rfl⟩, trivial⟩ ?_
      intro sg hsg hsl
      repeat' (first
 | (with_reducible first | exact True.intro | apply And.intro | apply If_true | apply If_false | apply If_not)
 | ((with_reducible apply VC.mk); (first | trivial | omega | (simp only [inR]; omega) | (exact ⟨rfl, List.prefix_rfl⟩) | (refine ⟨rfl, rfl, rfl, ?_, rfl⟩; (simp; done)) | (focus (repeat' (first | exact True.intro | apply And.intro | rfl | exact Nat.le_of_ble_eq_true rfl)); done) | (simp [inR, Cont.cells]; done) | (simp [inR, Cont.cells]; omega)))
 | ((with_reducible apply If_dec) <;> intro hc <;> (try (exfalso; omega)))
 | ((with_reducible apply If_any) <;> intro hc)
 | ((with_reducible first | apply PF.mk | apply DrawP.mk); (focus kernel_rfl))
 | ((with_reducible apply Same.mk); (focus rfl); (first | exact trivial | exact rfl))
 | (intro cap hcap)
 | ((fail_if_success (with_reducible first | apply Fin.mk | apply CallP.mk | apply LoopP.mk | apply VC.mk | apply falseMk | apply Round.mk | apply Eq.symm)); conv => whnf))
      refine doWr_at y2.2 (n + 1 + body.length + 1 + 0) j.pos sg 1 ⟨o2, by omega⟩ (by omega) rfl ⟨rfl, rfl, ⟨rfl, rfl, rfl⟩, trivial⟩ ?_
      have o3 := DF.doOp_ok o2 (.wr j.pos sg)
      have e3 := y2.2.run2 (.wr j.pos sg)
      rw [show (FOp.wr j.pos sg).size = (sg.length : Int) from rfl] at o3
      obtain ⟨u, hu⟩ : ∃ u, u = y2.2.doOp (.wr j.pos sg) := ⟨_, rfl⟩
      rw [← hu] at o3 e3
      rw [← hu]
      have put2 : ∀ u : Int × DF, y2.2.run [.wr j.pos sg, .fl] = u → k (.v (.int .i64 u.1)) [j.next.blk 1, u.2.pk] := fun u hu =>
        hk (u.1, j.next, u.2) (.inr (.inr ⟨g2, by rw [← hbody]; exact hbr, y2, by rw [← hbody]; exact e1.symm, .inr ⟨Decidable.not_not.mp hc, sg, by rw [← hbody]; exact hsg, u, hu.symm, rfl⟩⟩))
      repeat' (first
 | (with_reducible first | exact True.intro | apply And.intro | apply If_true | apply If_false | apply If_not)
 | ((with_reducible apply VC.mk); (first | trivial | omega | (simp only [inR]; omega) | (exact ⟨rfl, List.prefix_rfl⟩) | (refine ⟨rfl, rfl, rfl, ?_, rfl⟩; (simp; done)) | (focus (repeat' (first | exact True.intro | apply And.intro | rfl | exact Nat.le_of_ble_eq_true rfl)); done) | (simp [inR, Cont.cells]; done) | (simp [inR, Cont.cells]; omega)))
 | ((with_reducible apply If_dec) <;> intro hc <;> (try (exfalso; omega)))
 | ((with_reducible apply If_any) <;> intro hc)
 | ((with_reducible first | apply PF.mk | apply DrawP.mk); (focus kernel_rfl))
 | ((with_reducible apply Same.mk); (focus rfl); (first | exact trivial | exact rfl))
 | (intro cap hcap)
 | ((fail_if_success (with_reducible first | apply Fin.mk | apply CallP.mk | apply LoopP.mk | apply VC.mk | apply falseMk | apply Round.mk | apply Eq.symm)); conv => whnf))
      · rw [if_neg hc] at e3
        exact J2.fin rfl rfl rfl (put2 u e3)
      rw [if_pos (Decidable.not_not.mp hc)] at e3
      refine doFl_at u.2 (n + 1 + body.length + 1 + 0 + 1 + sg.length) 1 ⟨o3, by omega⟩ rfl ⟨rfl, trivial⟩ ?_
      obtain ⟨u2, hu2⟩ : ∃ y, y = u.2.doOp .fl := ⟨_, rfl⟩
      rw [← hu2] at e3
      rw [← hu2]
      repeat' (first
 | (with_reducible first | exact True.intro | apply And.intro | apply If_true | apply If_false | apply If_not)
 | ((with_reducible apply VC.mk); (first | trivial | omega | (simp only [inR]; omega) | (exact ⟨rfl, List.prefix_rfl⟩) | (refine ⟨rfl, rfl, rfl, ?_, rfl⟩; (simp; done)) | (focus (repeat' (first | exact True.intro | apply And.intro | rfl | exact Nat.le_of_ble_eq_true rfl)); done) | (simp [inR, Cont.cells]; done) | (simp [inR, Cont.cells]; omega)))
 | ((with_reducible apply If_dec) <;> intro hc <;> (try (exfalso; omega)))
 | ((with_reducible apply If_any) <;> intro hc)
 | ((with_reducible first | apply PF.mk | apply DrawP.mk); (focus kernel_rfl))
 | ((with_reducible apply Same.mk); (focus rfl); (first | exact trivial | exact rfl))
 | (intro cap hcap)
 | ((fail_if_success (with_reducible first | apply Fin.mk | apply CallP.mk | apply LoopP.mk | apply VC.mk | apply falseMk | apply Round.mk | apply Eq.symm)); conv => whnf))
      exact J2.fin rfl rfl rfl (put2 u2 e3)
def commitOk (x : JR × DF × Int × List RecR) : Prop := x.1.Ok ∧ x.2.1.Ok x.2.2.1 ∧ x.2.2.1 ≤ 137438953472 ∧ x.2.2.2.length ≤ 1073741824 ∧ (encL x.2.2.2).length ≤ 1099511627776 ∧ ∀ r ∈ x.2.2.2, r.2.length ≤ 1073741824 ∧ B8 r.2
def commitRel (x : JR × DF × Int × List RecR) (r : Int × JR × DF) : Prop := comRel x.1 x.2.1 x.2.2.2 r
theorem commit_K : ConOk Go.Proofs.Try.prog 68 (Con.of (JR × DF × Int × List RecR) (Int × JR × DF) (fun x => [.p 0 0 1 0, .im false 2 x.2.2.2.length (recsC false x.2.2.2)]) (fun x => [x.1.blk 1, x.2.1.pk]) commitOk commitRel (fun x r => .v (.int .i64 r.1)) (fun x r => [JR.blk (r.2.1) 1, DF.pk (r.2.2)])) := by
  refine conOk_rel (T := tab) mix Go.Proofs.Try.func68 (by decide +kernel) (by kernel_rfl) [61] p68 (fun n => by rw [Go.Proofs.Try.ntmps68]; exact Nat.le_of_ble_eq_true rfl) (fun x r _ _ => J2.good (by simp [AV.noF, noFs, Cont.noF])) (fun x _ => J2.nd) ?_
  intro x k h0 hk
  exact commit_c x.1 x.2.1 x.2.2.1 x.2.2.2 k h0 (fun r hr => hk r hr)
theorem commit_at {avs : List AV} {H : List Chunk} {k : K} (j : JR) (s : DF) (n : Int) (rs : List RecR) (a b : Nat) (h0 : j.Ok ∧ s.Ok n ∧ n ≤ 137438953472 ∧ rs.length ≤ 1073741824 ∧ (encL rs).length ≤ 1099511627776 ∧ ∀ r ∈ rs, r.2.length ≤ 1073741824 ∧ B8 r.2) (hab : nodupN [a, b] = true) (ha0 : nth H a = some (j.blk b)) (hb0 : nth H b = some s.pk) (ha : argsM H [a, b] [.p 0 0 1 0, .im false 2 rs.length (recsC false rs)] avs)
    (h : ∀ r : Int × JR × DF, (comRel j s rs r) → k (.v (.int .i64 r.1)) ((H.set a (JR.blk (r.2.1) b)).set b (DF.pk (r.2.2)))) : CallP Go.Proofs.Try.prog 68 avs H k :=
  CallP.mk ⟨_, commit_K.real, Con.spec commit_K, (j, s, n, rs), [a, b], ⟨h0, hab, ⟨ha0, hb0, trivial⟩, ha⟩, fun r hr => (numK_eq _ _).mpr (by simpa [putAll, AV.ren, rens, Cont.ren, Chunk.ren, DF.pk, JR.blk, fren, nth] using h r hr)⟩
end Go.Proofs.Ytjccknmgmommcaa.Sx

