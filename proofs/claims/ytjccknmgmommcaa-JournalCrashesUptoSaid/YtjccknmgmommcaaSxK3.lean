import Derived.Test.YtjccknmgmommcaaSxK2
set_option linter.unusedVariables false
set_option linter.unusedSimpArgs false
set_option maxRecDepth 10000
namespace Go.Proofs.Ytjccknmgmommcaa.Sx
open Go.RowKit Go.Proofs.Ytjccknmgmommcaa.Sx.Tb
/-! ### The document's Done -/
/-- A part that the caller owns. -/
theorem partO_c (l : List Int) (p n : Nat) (k : K) (h0 : p + n ≤ l.length ∧ l.length ≤ 1099511627776) (hk : ∀ x : List Int × Nat, (x.1 = (l.drop p).take n ∧ x.1.length ≤ x.2) → k (.s 0 0 1 x.1.length x.2) [.blk 5 (.ints .u8 x.1) x.2]) : evFunc tab [] [] Go.Proofs.Try.f117 [.im false 1 l.length (.ints .u8 l), .v (.int .i64 p), .v (.int .i64 n)] [] k := by
  repeat' (first
 | (with_reducible first | exact True.intro | apply And.intro | apply If_true | apply If_false | apply If_not)
 | ((with_reducible apply VC.mk); (first | trivial | omega | (simp only [inR]; omega) | (exact ⟨rfl, List.prefix_rfl⟩) | (refine ⟨rfl, rfl, rfl, ?_, rfl⟩; (simp; done)) | (focus (repeat' (first | exact True.intro | apply And.intro | rfl | exact Nat.le_of_ble_eq_true rfl)); done) | (simp [inR, Cont.cells]; done) | (simp [inR, Cont.cells]; omega)))
 | ((with_reducible apply If_dec) <;> intro hc <;> (try (exfalso; omega)))
 | ((with_reducible apply If_any) <;> intro hc)
 | ((with_reducible first | apply PF.mk | apply DrawP.mk); (focus kernel_rfl))
 | ((with_reducible apply Same.mk); (focus rfl); (first | exact trivial | exact rfl))
 | (intro cap hcap)
 | ((fail_if_success (with_reducible first | apply Fin.mk | apply CallP.mk | apply LoopP.mk | apply VC.mk | apply falseMk | apply Round.mk | apply Eq.symm)); conv => whnf))
  have e1 : ((p : Int) + (n : Int)).toNat - ((p : Nat) : Int).toNat = n := by omega
  have e2 : ((p : Nat) : Int).toNat = p := by omega
  have e3 : ((l.drop p).take n).length = n := by rw [List.length_take, List.length_drop]; omega
  rw [e1, e2]
  rw [e1] at hcap
  have hk2 := hk ((l.drop p).take n, cap) ⟨rfl, by rw [e3]; exact hcap⟩
  rw [e3] at hk2
  rw [Nat.mul_one]
  exact Fin.same hk2
theorem partO_K : ConOk Go.Proofs.Try.prog 117 (Con.of (List Int × Nat × Nat) (List Int × Nat) (fun x => [.im false 1 x.1.length (.ints .u8 x.1), .v (.int .i64 x.2.1), .v (.int .i64 x.2.2)]) (fun _ => []) (fun x => x.2.1 + x.2.2 ≤ x.1.length ∧ x.1.length ≤ 1099511627776) (fun x r => r.1 = (x.1.drop x.2.1).take x.2.2 ∧ r.1.length ≤ r.2) (fun _ r => .s 0 0 1 r.1.length r.2) (fun _ r => [.blk 5 (.ints .u8 r.1) r.2])) := by
  refine conOk_rel (T := tab) mix Go.Proofs.Try.func117 (by decide +kernel) (by kernel_rfl) [] [] (fun n => by rw [Go.Proofs.Try.ntmps117]; exact Nat.le_of_ble_eq_true rfl) (fun x r _ _ => ⟨trivial, (fun c hc => by simp at hc; subst hc; exact .blk trivial), Nat.zero_le _⟩) (fun x _ c hc => by cases hc) (fun x k h0 hk => partO_c x.1 x.2.1 x.2.2 k h0 (fun r hr => hk r hr))
theorem partO_at {avs : List AV} {H : List Chunk} {k : K} (l : List Int) (p n : Nat) (h0 : p + n ≤ l.length ∧ l.length ≤ 1099511627776) (ha : argsM H [] [.im false 1 l.length (.ints .u8 l), .v (.int .i64 p), .v (.int .i64 n)] avs)
    (h : ∀ (m : List Int) (cap : Nat), m = (l.drop p).take n → m.length ≤ cap → k (.s H.length 0 1 m.length cap) (H ++ [.blk 5 (.ints .u8 m) cap])) : CallP Go.Proofs.Try.prog 117 avs H k :=
  CallP.mk ⟨_, partO_K.real, Con.spec partO_K, (l, p, n), [], ⟨h0, rfl, trivial, ha⟩, fun r hr => (numK_eq _ _).mpr (by simpa [putAll, AV.ren, rens, fren, nth, Chunk.ren, Cont.ren] using h r.1 r.2 hr.1 hr.2)⟩
theorem doneL_snoc (rs : List RecR) (b : List Int) (i : Nat) (h : i < rs.length) : doneL (rs.take (i + 1)) b = putG (doneL (rs.take i) b) (rs.getD i (0, [])).1.toNat (rs.getD i (0, [])).2 := by
  rw [List.take_add_one, List.getElem?_eq_getElem h, doneL_append, List.getD_eq_getElem?_getD, List.getElem?_eq_getElem h]
  rfl
theorem putG_pad {c : List Int} {p m : Nat} {xs : List Int} (h : p ≤ c.length) (hm : m = 0 ∨ c.length + m ≤ p + xs.length) : putG (c ++ List.replicate m 0) p xs = putG c p xs := by
  rcases hm with rfl | hm
  · simp
  · unfold putG
    rw [List.take_append_of_le_length h, List.drop_eq_nil_of_le (by simp; omega), List.drop_eq_nil_of_le (by omega)]
set_option maxHeartbeats 8000000 in
theorem rdone_c (b : List Int) (rs : List RecR) (p : Int) (k : K) (h0 : b.length ≤ 4194304 ∧ rs.length ≤ 1073741824 ∧ (∀ r ∈ rs, 0 ≤ r.1 ∧ r.1.toNat ≤ b.length ∧ r.1 + r.2.length ≤ 4194304) ∧ 0 ≤ p ∧ p + 512 ≤ b.length) (hk : ∀ m, m = putG (doneL rs b) p.toNat (List.replicate 512 0) → k (.im true 1 m.length (.ints .u8 m)) []) : evFunc tab [] p74 Go.Proofs.Try.f74 [.im true 1 b.length (.ints .u8 b), .im true 2 rs.length (recsC true rs), .v (.int .i64 p)] [] k := by
  repeat' (first
 | (with_reducible first | exact True.intro | apply And.intro | apply If_true | apply If_false | apply If_not)
 | ((with_reducible apply VC.mk); (first | trivial | omega | (simp only [inR]; omega) | (exact ⟨rfl, List.prefix_rfl⟩) | (refine ⟨rfl, rfl, rfl, ?_, rfl⟩; (simp; done)) | (focus (repeat' (first | exact True.intro | apply And.intro | rfl | exact Nat.le_of_ble_eq_true rfl)); done) | (simp [inR, Cont.cells]; done) | (simp [inR, Cont.cells]; omega)))
 | ((with_reducible apply If_dec) <;> intro hc <;> (try (exfalso; omega)))
 | ((with_reducible apply If_any) <;> intro hc)
 | ((with_reducible first | apply PF.mk | apply DrawP.mk); (focus kernel_rfl))
 | ((with_reducible apply Same.mk); (focus rfl); (first | exact trivial | exact rfl))
 | (intro cap hcap)
 | ((fail_if_success (with_reducible first | apply Fin.mk | apply CallP.mk | apply LoopP.mk | apply VC.mk | apply falseMk | apply Round.mk | apply Eq.symm)); conv => whnf))
  refine LoopP.mk ⟨Nat × List Int, fun y => y.1 ≤ rs.length ∧ y.2 = doneL (rs.take y.1) b ∧ b.length ≤ y.2.length ∧ y.2.length ≤ 4194304, fun y => ([(1, .im true 2 rs.length (recsC true rs)), (2, .v (.int .i64 p)), (7, .im true 1 y.2.length (.ints .u8 y.2)), (8, .v (.int .i64 y.1))], []), fun y => rs.length - y.1, (0, b), ⟨Nat.zero_le _, rfl, Nat.le_refl _, h0.1⟩, Fit.ren [] [] rfl rfl trivial trivial ?_, ?_⟩
  · repeat' (first
 | (with_reducible first | exact True.intro | apply And.intro | apply If_true | apply If_false | apply If_not)
 | ((with_reducible apply VC.mk); (first | trivial | omega | (simp only [inR]; omega) | (exact ⟨rfl, List.prefix_rfl⟩) | (refine ⟨rfl, rfl, rfl, ?_, rfl⟩; (simp; done)) | (focus (repeat' (first | exact True.intro | apply And.intro | rfl | exact Nat.le_of_ble_eq_true rfl)); done) | (simp [inR, Cont.cells]; done) | (simp [inR, Cont.cells]; omega)))
 | ((with_reducible apply If_dec) <;> intro hc <;> (try (exfalso; omega)))
 | ((with_reducible apply If_any) <;> intro hc)
 | ((with_reducible first | apply PF.mk | apply DrawP.mk); (focus kernel_rfl))
 | ((with_reducible apply Same.mk); (focus rfl); (first | exact trivial | exact rfl))
 | (intro cap hcap)
 | ((fail_if_success (with_reducible first | apply Fin.mk | apply CallP.mk | apply LoopP.mk | apply VC.mk | apply falseMk | apply Round.mk | apply Eq.symm)); conv => whnf))
  · intro y hy
    obtain ⟨g1, g2, g3, g4⟩ := hy
    have e : ((y.1 : Nat) : Int).toNat = y.1 := Int.toNat_natCast _
    by_cases hlt : y.1 < rs.length
    · have hm : rs.getD y.1 (0, []) ∈ rs := by
        rw [show rs.getD y.1 (0, []) = rs[y.1] by simp [List.getD_eq_getElem?_getD, hlt]]; exact List.getElem_mem hlt
      have hok := h0.2.2.1 _ hm
      have hsn := doneL_snoc rs b y.1 hlt
      rw [← g2] at hsn
      obtain ⟨r, hr⟩ : ∃ r, r = rs.getD y.1 (0, []) := ⟨_, rfl⟩
      rw [← hr] at hm hok hsn
      repeat' (first
 | (with_reducible first | exact True.intro | apply And.intro | apply If_true | apply If_false | apply If_not)
 | ((with_reducible apply VC.mk); (first | trivial | omega | (simp only [inR]; omega) | (exact ⟨rfl, List.prefix_rfl⟩) | (refine ⟨rfl, rfl, rfl, ?_, rfl⟩; (simp; done)) | (focus (repeat' (first | exact True.intro | apply And.intro | rfl | exact Nat.le_of_ble_eq_true rfl)); done) | (simp [inR, Cont.cells]; done) | (simp [inR, Cont.cells]; omega)))
 | ((with_reducible apply If_dec) <;> intro hc <;> (try (exfalso; omega)))
 | ((with_reducible apply If_any) <;> intro hc)
 | ((with_reducible first | apply PF.mk | apply DrawP.mk); (focus kernel_rfl))
 | ((with_reducible apply Same.mk); (focus rfl); (first | exact trivial | exact rfl))
 | (intro cap hcap)
 | ((fail_if_success (with_reducible first | apply Fin.mk | apply CallP.mk | apply LoopP.mk | apply VC.mk | apply falseMk | apply Round.mk | apply Eq.symm)); conv => whnf))
      all_goals simp only [e, ← hr] at hc
      · have he : r.2 = [] := List.eq_nil_of_length_eq_zero (by omega)
        rw [he, putG_nil] at hsn
        refine Round.mk ⟨(y.1 + 1, y.2), ⟨by show y.1 + 1 ≤ _; omega, hsn.symm, g3, g4⟩, by show rs.length - (y.1 + 1) < rs.length - y.1; omega, Fit.ren [] [] rfl rfl trivial trivial ?_⟩
        repeat' (first
 | (with_reducible first | exact True.intro | apply And.intro | apply If_true | apply If_false | apply If_not)
 | ((with_reducible apply VC.mk); (first | trivial | omega | (simp only [inR]; omega) | (exact ⟨rfl, List.prefix_rfl⟩) | (refine ⟨rfl, rfl, rfl, ?_, rfl⟩; (simp; done)) | (focus (repeat' (first | exact True.intro | apply And.intro | rfl | exact Nat.le_of_ble_eq_true rfl)); done) | (simp [inR, Cont.cells]; done) | (simp [inR, Cont.cells]; omega)))
 | ((with_reducible apply If_dec) <;> intro hc <;> (try (exfalso; omega)))
 | ((with_reducible apply If_any) <;> intro hc)
 | ((with_reducible first | apply PF.mk | apply DrawP.mk); (focus kernel_rfl))
 | ((with_reducible apply Same.mk); (focus rfl); (first | exact trivial | exact rfl))
 | (intro cap hcap)
 | ((fail_if_success (with_reducible first | apply Fin.mk | apply CallP.mk | apply LoopP.mk | apply VC.mk | apply falseMk | apply Round.mk | apply Eq.symm)); conv => whnf))
      · refine LoopP.mk ⟨Nat × List Int, fun w => w.2 = y.2 ++ List.replicate w.1 0 ∧ (w.1 = 0 ∨ (y.2.length + w.1 : Int) ≤ r.1 + r.2.length), fun w => ([(1, .im true 2 rs.length (recsC true rs)), (2, .v (.int .i64 p)), (7, .im true 1 w.2.length (.ints .u8 w.2)), (8, .v (.int .i64 y.1))], []), fun w => 4194304 - w.1, (0, y.2), ⟨by simp, .inl rfl⟩, Fit.ren [] [] rfl rfl trivial trivial ?_, ?_⟩
        · repeat' (first
 | (with_reducible first | exact True.intro | apply And.intro | apply If_true | apply If_false | apply If_not)
 | ((with_reducible apply VC.mk); (first | trivial | omega | (simp only [inR]; omega) | (exact ⟨rfl, List.prefix_rfl⟩) | (refine ⟨rfl, rfl, rfl, ?_, rfl⟩; (simp; done)) | (focus (repeat' (first | exact True.intro | apply And.intro | rfl | exact Nat.le_of_ble_eq_true rfl)); done) | (simp [inR, Cont.cells]; done) | (simp [inR, Cont.cells]; omega)))
 | ((with_reducible apply If_dec) <;> intro hc <;> (try (exfalso; omega)))
 | ((with_reducible apply If_any) <;> intro hc)
 | ((with_reducible first | apply PF.mk | apply DrawP.mk); (focus kernel_rfl))
 | ((with_reducible apply Same.mk); (focus rfl); (first | exact trivial | exact rfl))
 | (intro cap hcap)
 | ((fail_if_success (with_reducible first | apply Fin.mk | apply CallP.mk | apply LoopP.mk | apply VC.mk | apply falseMk | apply Round.mk | apply Eq.symm)); conv => whnf))
        · intro w hw
          obtain ⟨k1, k2⟩ := hw
          have hwl : w.2.length = y.2.length + w.1 := by rw [k1, List.length_append, List.length_replicate]
          repeat' (first
 | (with_reducible first | exact True.intro | apply And.intro | apply If_true | apply If_false | apply If_not)
 | ((with_reducible apply VC.mk); (first | trivial | omega | (simp only [inR]; omega) | (exact ⟨rfl, List.prefix_rfl⟩) | (refine ⟨rfl, rfl, rfl, ?_, rfl⟩; (simp; done)) | (focus (repeat' (first | exact True.intro | apply And.intro | rfl | exact Nat.le_of_ble_eq_true rfl)); done) | (simp [inR, Cont.cells]; done) | (simp [inR, Cont.cells]; omega)))
 | ((with_reducible apply If_dec) <;> intro hc <;> (try (exfalso; omega)))
 | ((with_reducible apply If_any) <;> intro hc)
 | ((with_reducible first | apply PF.mk | apply DrawP.mk); (focus kernel_rfl))
 | ((with_reducible apply Same.mk); (focus rfl); (first | exact trivial | exact rfl))
 | (intro cap hcap)
 | ((fail_if_success (with_reducible first | apply Fin.mk | apply CallP.mk | apply LoopP.mk | apply VC.mk | apply falseMk | apply Round.mk | apply Eq.symm)); conv => whnf))
          all_goals (try simp only [e, ← hr])
          all_goals (try simp only [e, ← hr] at hc)
          · exact VC.mk (by simp only [inR]; omega)
          · refine partO_at w.2 0 w.2.length ⟨by omega, by omega⟩ ⟨⟨rfl, rfl, rfl⟩, rfl, rfl, trivial⟩ ?_
            intro m c1 hm1 hc1
            have hmw : m = w.2 := by rw [hm1, List.drop_zero]; exact List.take_of_length_le (Nat.le_refl _)
            subst hmw
            repeat' (first
 | (with_reducible first | exact True.intro | apply And.intro | apply If_true | apply If_false | apply If_not)
 | ((with_reducible apply VC.mk); (first | trivial | omega | (simp only [inR]; omega) | (exact ⟨rfl, List.prefix_rfl⟩) | (refine ⟨rfl, rfl, rfl, ?_, rfl⟩; (simp; done)) | (focus (repeat' (first | exact True.intro | apply And.intro | rfl | exact Nat.le_of_ble_eq_true rfl)); done) | (simp [inR, Cont.cells]; done) | (simp [inR, Cont.cells]; omega)))
 | ((with_reducible apply If_dec) <;> intro hc <;> (try (exfalso; omega)))
 | ((with_reducible apply If_any) <;> intro hc)
 | ((with_reducible first | apply PF.mk | apply DrawP.mk); (focus kernel_rfl))
 | ((with_reducible apply Same.mk); (focus rfl); (first | exact trivial | exact rfl))
 | (intro cap hcap)
 | ((fail_if_success (with_reducible first | apply Fin.mk | apply CallP.mk | apply LoopP.mk | apply VC.mk | apply falseMk | apply Round.mk | apply Eq.symm)); conv => whnf))
            refine Round.mk ⟨(w.1 + 1, w.2 ++ [0]), ⟨?_, .inr (by show ((y.2.length + (w.1 + 1 : Nat) : Int)) ≤ _; omega)⟩, by show 4194304 - (w.1 + 1) < 4194304 - w.1; omega, Fit.ren [] [2] rfl rfl ⟨trivial, trivial⟩ trivial ?_⟩
            · show w.2 ++ [0] = y.2 ++ List.replicate (w.1 + 1) 0
              rw [k1, List.replicate_succ', List.append_assoc]
            · repeat' (first
 | (with_reducible first | exact True.intro | apply And.intro | apply If_true | apply If_false | apply If_not)
 | ((with_reducible apply VC.mk); (first | trivial | omega | (simp only [inR]; omega) | (exact ⟨rfl, List.prefix_rfl⟩) | (refine ⟨rfl, rfl, rfl, ?_, rfl⟩; (simp; done)) | (focus (repeat' (first | exact True.intro | apply And.intro | rfl | exact Nat.le_of_ble_eq_true rfl)); done) | (simp [inR, Cont.cells]; done) | (simp [inR, Cont.cells]; omega)))
 | ((with_reducible apply If_dec) <;> intro hc <;> (try (exfalso; omega)))
 | ((with_reducible apply If_any) <;> intro hc)
 | ((with_reducible first | apply PF.mk | apply DrawP.mk); (focus kernel_rfl))
 | ((with_reducible apply Same.mk); (focus rfl); (first | exact trivial | exact rfl))
 | (intro cap hcap)
 | ((fail_if_success (with_reducible first | apply Fin.mk | apply CallP.mk | apply LoopP.mk | apply VC.mk | apply falseMk | apply Round.mk | apply Eq.symm)); conv => whnf))
              exact VC.mk ⟨rfl, List.take_of_length_le (by simp)⟩
          · refine with_at w.2 r.1.toNat r.2 ⟨by omega, by omega⟩ ⟨⟨rfl, rfl, rfl⟩, by show _ = AV.v (.int .i64 _); rw [Int.toNat_of_nonneg hok.1], ⟨rfl, rfl, rfl⟩, trivial⟩ ?_
            intro m hm2
            have hm3 : m = doneL (rs.take (y.1 + 1)) b := by
              rw [hm2, hsn, k1]
              exact putG_pad (by omega) (by omega)
            have hml : m.length = max y.2.length (r.1.toNat + r.2.length) := by rw [hm3, hsn, putG_length (by omega)]
            repeat' (first
 | (with_reducible first | exact True.intro | apply And.intro | apply If_true | apply If_false | apply If_not)
 | ((with_reducible apply VC.mk); (first | trivial | omega | (simp only [inR]; omega) | (exact ⟨rfl, List.prefix_rfl⟩) | (refine ⟨rfl, rfl, rfl, ?_, rfl⟩; (simp; done)) | (focus (repeat' (first | exact True.intro | apply And.intro | rfl | exact Nat.le_of_ble_eq_true rfl)); done) | (simp [inR, Cont.cells]; done) | (simp [inR, Cont.cells]; omega)))
 | ((with_reducible apply If_dec) <;> intro hc <;> (try (exfalso; omega)))
 | ((with_reducible apply If_any) <;> intro hc)
 | ((with_reducible first | apply PF.mk | apply DrawP.mk); (focus kernel_rfl))
 | ((with_reducible apply Same.mk); (focus rfl); (first | exact trivial | exact rfl))
 | (intro cap hcap)
 | ((fail_if_success (with_reducible first | apply Fin.mk | apply CallP.mk | apply LoopP.mk | apply VC.mk | apply falseMk | apply Round.mk | apply Eq.symm)); conv => whnf))
            refine Round.mk ⟨(y.1 + 1, m), ⟨by show y.1 + 1 ≤ _; omega, hm3, by show b.length ≤ m.length; omega, by show m.length ≤ _; omega⟩, by show rs.length - (y.1 + 1) < rs.length - y.1; omega, Fit.ren [] [] rfl rfl trivial trivial ?_⟩
            repeat' (first
 | (with_reducible first | exact True.intro | apply And.intro | apply If_true | apply If_false | apply If_not)
 | ((with_reducible apply VC.mk); (first | trivial | omega | (simp only [inR]; omega) | (exact ⟨rfl, List.prefix_rfl⟩) | (refine ⟨rfl, rfl, rfl, ?_, rfl⟩; (simp; done)) | (focus (repeat' (first | exact True.intro | apply And.intro | rfl | exact Nat.le_of_ble_eq_true rfl)); done) | (simp [inR, Cont.cells]; done) | (simp [inR, Cont.cells]; omega)))
 | ((with_reducible apply If_dec) <;> intro hc <;> (try (exfalso; omega)))
 | ((with_reducible apply If_any) <;> intro hc)
 | ((with_reducible first | apply PF.mk | apply DrawP.mk); (focus kernel_rfl))
 | ((with_reducible apply Same.mk); (focus rfl); (first | exact trivial | exact rfl))
 | (intro cap hcap)
 | ((fail_if_success (with_reducible first | apply Fin.mk | apply CallP.mk | apply LoopP.mk | apply VC.mk | apply falseMk | apply Round.mk | apply Eq.symm)); conv => whnf))
    · repeat' (first
 | (with_reducible first | exact True.intro | apply And.intro | apply If_true | apply If_false | apply If_not)
 | ((with_reducible apply VC.mk); (first | trivial | omega | (simp only [inR]; omega) | (exact ⟨rfl, List.prefix_rfl⟩) | (refine ⟨rfl, rfl, rfl, ?_, rfl⟩; (simp; done)) | (focus (repeat' (first | exact True.intro | apply And.intro | rfl | exact Nat.le_of_ble_eq_true rfl)); done) | (simp [inR, Cont.cells]; done) | (simp [inR, Cont.cells]; omega)))
 | ((with_reducible apply If_dec) <;> intro hc <;> (try (exfalso; omega)))
 | ((with_reducible apply If_any) <;> intro hc)
 | ((with_reducible first | apply PF.mk | apply DrawP.mk); (focus kernel_rfl))
 | ((with_reducible apply Same.mk); (focus rfl); (first | exact trivial | exact rfl))
 | (intro cap hcap)
 | ((fail_if_success (with_reducible first | apply Fin.mk | apply CallP.mk | apply LoopP.mk | apply VC.mk | apply falseMk | apply Round.mk | apply Eq.symm)); conv => whnf))
      rw [show rs.take y.1 = rs by rw [List.take_of_length_le (by omega)]] at g2
      refine zeros_at 512 ⟨by omega, by omega⟩ ⟨rfl, trivial⟩ ?_
      intro zz hzz
      have hzz : zz = List.replicate 512 0 := hzz
      have hzzl : zz.length = 512 := by rw [hzz]; exact List.length_replicate ..
      repeat' (first
 | (with_reducible first | exact True.intro | apply And.intro | apply If_true | apply If_false | apply If_not)
 | ((with_reducible apply VC.mk); (first | trivial | omega | (simp only [inR]; omega) | (exact ⟨rfl, List.prefix_rfl⟩) | (refine ⟨rfl, rfl, rfl, ?_, rfl⟩; (simp; done)) | (focus (repeat' (first | exact True.intro | apply And.intro | rfl | exact Nat.le_of_ble_eq_true rfl)); done) | (simp [inR, Cont.cells]; done) | (simp [inR, Cont.cells]; omega)))
 | ((with_reducible apply If_dec) <;> intro hc <;> (try (exfalso; omega)))
 | ((with_reducible apply If_any) <;> intro hc)
 | ((with_reducible first | apply PF.mk | apply DrawP.mk); (focus kernel_rfl))
 | ((with_reducible apply Same.mk); (focus rfl); (first | exact trivial | exact rfl))
 | (intro cap hcap)
 | ((fail_if_success (with_reducible first | apply Fin.mk | apply CallP.mk | apply LoopP.mk | apply VC.mk | apply falseMk | apply Round.mk | apply Eq.symm)); conv => whnf))
      refine with_at y.2 p.toNat zz ⟨by omega, by omega⟩ ⟨⟨rfl, rfl, rfl⟩, by show _ = AV.v (.int .i64 _); rw [Int.toNat_of_nonneg h0.2.2.2.1], ⟨rfl, rfl, rfl⟩, trivial⟩ ?_
      intro m hm
      repeat' (first
 | (with_reducible first | exact True.intro | apply And.intro | apply If_true | apply If_false | apply If_not)
 | ((with_reducible apply VC.mk); (first | trivial | omega | (simp only [inR]; omega) | (exact ⟨rfl, List.prefix_rfl⟩) | (refine ⟨rfl, rfl, rfl, ?_, rfl⟩; (simp; done)) | (focus (repeat' (first | exact True.intro | apply And.intro | rfl | exact Nat.le_of_ble_eq_true rfl)); done) | (simp [inR, Cont.cells]; done) | (simp [inR, Cont.cells]; omega)))
 | ((with_reducible apply If_dec) <;> intro hc <;> (try (exfalso; omega)))
 | ((with_reducible apply If_any) <;> intro hc)
 | ((with_reducible first | apply PF.mk | apply DrawP.mk); (focus kernel_rfl))
 | ((with_reducible apply Same.mk); (focus rfl); (first | exact trivial | exact rfl))
 | (intro cap hcap)
 | ((fail_if_success (with_reducible first | apply Fin.mk | apply CallP.mk | apply LoopP.mk | apply VC.mk | apply falseMk | apply Round.mk | apply Eq.symm)); conv => whnf))
      refine Fin.same (hk m ?_)
      rw [hm, g2, hzz]
def rdoneOk (x : List Int × List RecR × Int) : Prop := x.1.length ≤ 4194304 ∧ x.2.1.length ≤ 1073741824 ∧ (∀ r ∈ x.2.1, 0 ≤ r.1 ∧ r.1.toNat ≤ x.1.length ∧ r.1 + r.2.length ≤ 4194304) ∧ 0 ≤ x.2.2 ∧ x.2.2 + 512 ≤ x.1.length
def rdoneRel (x : List Int × List RecR × Int) (r : List Int) : Prop := r = putG (doneL x.2.1 x.1) x.2.2.toNat (List.replicate 512 0)
theorem rdone_K : ConOk Go.Proofs.Try.prog 74 (Con.of (List Int × List RecR × Int) (List Int) (fun x => [.im true 1 x.1.length (.ints .u8 x.1), .im true 2 x.2.1.length (recsC true x.2.1), .v (.int .i64 x.2.2)]) (fun _ => []) rdoneOk rdoneRel (fun _ r => .im true 1 r.length (.ints .u8 r)) (fun _ _ => [])) := by
  refine conOk_rel (T := tab) mix Go.Proofs.Try.func74 (by decide +kernel) (by kernel_rfl) [] p74 (fun n => by rw [Go.Proofs.Try.ntmps74]; exact Nat.le_of_ble_eq_true rfl) (fun x r _ _ => ⟨by simp [AV.noF, noFs, Cont.noF, recsC_noF], (fun c hc => by cases hc), Nat.le_refl _⟩) (fun x _ c hc => by cases hc) ?_
  intro x k h0 hk
  exact rdone_c x.1 x.2.1 x.2.2 k h0 (fun r hr => hk r hr)
theorem rdone_at {avs : List AV} {H : List Chunk} {k : K} (b : List Int) (rs : List RecR) (p : Int) (h0 : b.length ≤ 4194304 ∧ rs.length ≤ 1073741824 ∧ (∀ r ∈ rs, 0 ≤ r.1 ∧ r.1.toNat ≤ b.length ∧ r.1 + r.2.length ≤ 4194304) ∧ 0 ≤ p ∧ p + 512 ≤ b.length) (ha : argsM H [] [.im true 1 b.length (.ints .u8 b), .im true 2 rs.length (recsC true rs), .v (.int .i64 p)] avs) (h : ∀ r : List Int, (r = putG (doneL rs b) p.toNat (List.replicate 512 0)) → k (.im true 1 r.length (.ints .u8 r)) H) : CallP Go.Proofs.Try.prog 74 avs H k :=
  CallP.mk ⟨_, rdone_K.real, Con.spec rdone_K, (b, rs, p), [], ⟨h0, rfl, trivial, ha⟩, fun r hr => (numK_eq H.length (fun N => k (AV.ren (fren [] N) (.im true 1 r.length (.ints .u8 r))) (putAll H [] []))).mpr (by simpa [putAll, AV.ren, rens, Cont.ren, recsC, recAV] using h r hr)⟩
theorem lopen_c (b : List Int) (p z : Int) (k : K) (h0 : b.length ≤ 4194304 ∧ 0 ≤ p ∧ p % 512 = 0 ∧ z % 512 = 0 ∧ 1024 ≤ z ∧ p + z ≤ b.length) (hk : k (.tup [.p 0 0 1 0, .p 1 0 1 0, .v (.bool true)]) [(DF.mk0 b).pk, JR.blk ⟨p, z, 0⟩ 0]) : evFunc tab [] [] Go.Proofs.Try.f73 [.im true 1 b.length (.ints .u8 b), .v (.int .i64 p), .v (.int .i64 z)] [] k := by
  repeat' (first
 | (with_reducible first | exact True.intro | apply And.intro | apply If_true | apply If_false | apply If_not)
 | ((with_reducible apply VC.mk); (first | trivial | omega | (simp only [inR]; omega) | (exact ⟨rfl, List.prefix_rfl⟩) | (refine ⟨rfl, rfl, rfl, ?_, rfl⟩; (simp; done)) | (focus (repeat' (first | exact True.intro | apply And.intro | rfl | exact Nat.le_of_ble_eq_true rfl)); done) | (simp [inR, Cont.cells]; done) | (simp [inR, Cont.cells]; omega)))
 | ((with_reducible apply If_dec) <;> intro hc <;> (try (exfalso; omega)))
 | ((with_reducible apply If_any) <;> intro hc)
 | ((with_reducible first | apply PF.mk | apply DrawP.mk); (focus kernel_rfl))
 | ((with_reducible apply Same.mk); (focus rfl); (first | exact trivial | exact rfl))
 | (intro cap hcap)
 | ((fail_if_success (with_reducible first | apply Fin.mk | apply CallP.mk | apply LoopP.mk | apply VC.mk | apply falseMk | apply Round.mk | apply Eq.symm)); conv => whnf))
  refine new_at b (by omega) ⟨⟨rfl, rfl, rfl⟩, trivial⟩ (fun h => absurd h (by omega)) (fun _ => ?_)
  repeat' (first
 | (with_reducible first | exact True.intro | apply And.intro | apply If_true | apply If_false | apply If_not)
 | ((with_reducible apply VC.mk); (first | trivial | omega | (simp only [inR]; omega) | (exact ⟨rfl, List.prefix_rfl⟩) | (refine ⟨rfl, rfl, rfl, ?_, rfl⟩; (simp; done)) | (focus (repeat' (first | exact True.intro | apply And.intro | rfl | exact Nat.le_of_ble_eq_true rfl)); done) | (simp [inR, Cont.cells]; done) | (simp [inR, Cont.cells]; omega)))
 | ((with_reducible apply If_dec) <;> intro hc <;> (try (exfalso; omega)))
 | ((with_reducible apply If_any) <;> intro hc)
 | ((with_reducible first | apply PF.mk | apply DrawP.mk); (focus kernel_rfl))
 | ((with_reducible apply Same.mk); (focus rfl); (first | exact trivial | exact rfl))
 | (intro cap hcap)
 | ((fail_if_success (with_reducible first | apply Fin.mk | apply CallP.mk | apply LoopP.mk | apply VC.mk | apply falseMk | apply Round.mk | apply Eq.symm)); conv => whnf))
  have hE : newE (DF.mk0 b) p z = 0 := by
    unfold newE
    rw [if_neg (by omega), if_neg]
    show ¬ (z < 1024 ∨ (b.length : Int) < p ∨ (b.length : Int) - p < z)
    omega
  refine jnew_at (DF.mk0 b) p z 0 ⟨by show b.length ≤ _; omega, by simp only [inR]; omega, by simp only [inR]; omega⟩ rfl ⟨rfl, rfl, rfl, trivial⟩ (fun h => absurd hE h) (fun _ => ?_)
  repeat' (first
 | (with_reducible first | exact True.intro | apply And.intro | apply If_true | apply If_false | apply If_not)
 | ((with_reducible apply VC.mk); (first | trivial | omega | (simp only [inR]; omega) | (exact ⟨rfl, List.prefix_rfl⟩) | (refine ⟨rfl, rfl, rfl, ?_, rfl⟩; (simp; done)) | (focus (repeat' (first | exact True.intro | apply And.intro | rfl | exact Nat.le_of_ble_eq_true rfl)); done) | (simp [inR, Cont.cells]; done) | (simp [inR, Cont.cells]; omega)))
 | ((with_reducible apply If_dec) <;> intro hc <;> (try (exfalso; omega)))
 | ((with_reducible apply If_any) <;> intro hc)
 | ((with_reducible first | apply PF.mk | apply DrawP.mk); (focus kernel_rfl))
 | ((with_reducible apply Same.mk); (focus rfl); (first | exact trivial | exact rfl))
 | (intro cap hcap)
 | ((fail_if_success (with_reducible first | apply Fin.mk | apply CallP.mk | apply LoopP.mk | apply VC.mk | apply falseMk | apply Round.mk | apply Eq.symm)); conv => whnf))
  exact Fin.same hk
theorem lopen_K : ConOk Go.Proofs.Try.prog 73 (Con.of (List Int × Int × Int) Unit (fun x => [.im true 1 x.1.length (.ints .u8 x.1), .v (.int .i64 x.2.1), .v (.int .i64 x.2.2)]) (fun _ => []) (fun x => x.1.length ≤ 4194304 ∧ 0 ≤ x.2.1 ∧ x.2.1 % 512 = 0 ∧ x.2.2 % 512 = 0 ∧ 1024 ≤ x.2.2 ∧ x.2.1 + x.2.2 ≤ x.1.length) (fun _ _ => True) (fun _ _ => .tup [.p 0 0 1 0, .p 1 0 1 0, .v (.bool true)]) (fun x _ => [(DF.mk0 x.1).pk, JR.blk ⟨x.2.1, x.2.2, 0⟩ 0])) :=
  conOk_rel (T := tab) mix Go.Proofs.Try.func73 (by decide +kernel) (by kernel_rfl) [] [] (fun n => by rw [Go.Proofs.Try.ntmps73]; exact Nat.le_of_ble_eq_true rfl) (fun n _ _ _ => ⟨⟨trivial, trivial, trivial, trivial⟩, (fun c hc => by simp at hc; rcases hc with rfl | rfl; exact DF.pk_noF _; exact JR.noF _ _), Nat.zero_le _⟩) (fun n _ c hc => by cases hc) (fun x k h0 hk => lopen_c x.1 x.2.1 x.2.2 k h0 (hk () trivial))
theorem lopen_at {avs : List AV} {H : List Chunk} {k : K} (b : List Int) (p z : Int) (h0 : b.length ≤ 4194304 ∧ 0 ≤ p ∧ p % 512 = 0 ∧ z % 512 = 0 ∧ 1024 ≤ z ∧ p + z ≤ b.length) (ha : argsM H [] [.im true 1 b.length (.ints .u8 b), .v (.int .i64 p), .v (.int .i64 z)] avs)
    (h : k (.tup [.p H.length 0 1 0, .p (H.length + 1) 0 1 0, .v (.bool true)]) (H ++ [(DF.mk0 b).pk, JR.blk ⟨p, z, 0⟩ H.length])) : CallP Go.Proofs.Try.prog 73 avs H k :=
  CallP.mk ⟨_, lopen_K.real, Con.spec lopen_K, (b, p, z), [], ⟨h0, rfl, trivial, ha⟩, fun _ _ => (numK_eq _ _).mpr (by simpa [putAll, AV.ren, rens, fren, nth, Chunk.ren, Cont.ren, DF.pk, JR.blk] using h)⟩
/-! ### The law -/
def lfileOk (x : CaseR) : Prop := x.recs.length ≤ 9223372036854775807 ∧ x.fill.length ≤ 9223372036854775807 ∧ B8 x.fill ∧ inR .i64 x.n ∧ inR .i64 x.pos ∧ inR .i64 x.size ∧ ∀ q ∈ x.recs, q.2.length ≤ 9223372036854775807
def lfileRel (x : CaseR) (r : List Int × Int × Int × Bool) : Prop := fileRel x r
theorem lfile_K : ConOk Go.Proofs.Try.prog 71 (Con.of (CaseR) (List Int × Int × Int × Bool) (fun x => [caseAV x]) (fun _ => []) lfileOk lfileRel (fun _ r => .tup [.im true 1 r.1.length (.ints .u8 r.1), .v (.int .i64 r.2.1), .v (.int .i64 r.2.2.1), .v (.bool r.2.2.2)]) (fun _ _ => [])) := by
  refine conOk_rel (T := tab) mix Go.Proofs.Try.func71 (by decide +kernel) (by kernel_rfl) [15, 21, 30] p71 (fun n => by rw [Go.Proofs.Try.ntmps71]; exact Nat.le_of_ble_eq_true rfl) (fun x r _ _ => ⟨by simp [AV.noF, noFs, Cont.noF, recsC_noF], (fun c hc => by cases hc), Nat.le_refl _⟩) (fun x _ c hc => by cases hc) ?_
  intro x k h0 hk
  exact lfile_c x.n x.fill x.pos x.size x.recs k h0 (fun r hr => hk r hr)
theorem lfile_at {avs : List AV} {H : List Chunk} {k : K} (c : CaseR) (h0 : c.recs.length ≤ 9223372036854775807 ∧ c.fill.length ≤ 9223372036854775807 ∧ B8 c.fill ∧ inR .i64 c.n ∧ inR .i64 c.pos ∧ inR .i64 c.size ∧ ∀ q ∈ c.recs, q.2.length ≤ 9223372036854775807) (ha : argsM H [] [caseAV c] avs) (h : ∀ r : List Int × Int × Int × Bool, (fileRel c r) → k (.tup [.im true 1 r.1.length (.ints .u8 r.1), .v (.int .i64 r.2.1), .v (.int .i64 r.2.2.1), .v (.bool r.2.2.2)]) H) : CallP Go.Proofs.Try.prog 71 avs H k :=
  CallP.mk ⟨_, lfile_K.real, Con.spec lfile_K, (c), [], ⟨h0, rfl, trivial, ha⟩, fun r hr => (numK_eq H.length (fun N => k (AV.ren (fren [] N) (.tup [.im true 1 r.1.length (.ints .u8 r.1), .v (.int .i64 r.2.1), .v (.int .i64 r.2.2.1), .v (.bool r.2.2.2)])) (putAll H [] []))).mpr (by simpa [putAll, AV.ren, rens, Cont.ren, recsC, recAV] using h r hr)⟩
end Go.Proofs.Ytjccknmgmommcaa.Sx

