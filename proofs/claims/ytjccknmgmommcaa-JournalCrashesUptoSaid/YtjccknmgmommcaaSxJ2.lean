import Derived.Test.YtjccknmgmommcaaSxJ1
set_option linter.unusedVariables false
set_option linter.unusedSimpArgs false
set_option maxRecDepth 10000
namespace Go.Proofs.Ytjccknmgmommcaa.Sx
open Go.RowKit Go.Proofs.Ytjccknmgmommcaa.Sx.Tb
/-- The sign's bytes, as they are put. -/
def signL (seq : Int) (n : Nat) (body : List Int) : List Int :=
  let b1 := putB (List.replicate 512 0) 0 4 826954822
  let b2 := putB b1 4 8 seq
  let b3 := putB b2 12 4 (n : Int)
  let b4 := putB b3 16 4 (body.length : Int)
  let b5 := putB b4 20 4 (moreL 0 body)
  putB b5 24 4 (moreL 0 (b5.take 24))
theorem putB_B8 {l : List Int} (h : B8 l) (at_ n : Nat) (v : Int) (hl : at_ + n ≤ l.length) : B8 (putB l at_ n v) := by
  rw [putB_eq _ _ _ _ hl]
  exact ((h.take _).append (leB_B8 _ _)).append (h.drop _)
set_option maxHeartbeats 8000000 in
theorem sign_c (seq : Int) (n : Nat) (body : List Int) (k : K) (h0 : 0 ≤ seq ∧ seq < 18446744073709551616 ∧ n ≤ 1073741824 ∧ body.length ≤ 1073741824 ∧ B8 body) (hk : ∀ l, l = signL seq n body → l.length = 512 → k (.im true 1 l.length (.ints .u8 l)) []) : evFunc tab [] [] Go.Proofs.Try.f114 [.v (.int .u64 seq), .v (.int .i64 n), .im false 1 body.length (.ints .u8 body)] [] k := by
  repeat' (first
 | (with_reducible first | exact True.intro | apply And.intro | apply If_true | apply If_false | apply If_not)
 | ((with_reducible apply VC.mk); (first | trivial | omega | (simp only [inR]; omega) | (exact ⟨rfl, List.prefix_rfl⟩) | (refine ⟨rfl, rfl, rfl, ?_, rfl⟩; (simp; done)) | (focus (repeat' (first | exact True.intro | apply And.intro | rfl | exact Nat.le_of_ble_eq_true rfl)); done) | (simp [inR, Cont.cells]; done) | (simp [inR, Cont.cells]; omega)))
 | ((with_reducible apply If_dec) <;> intro hc <;> (try (exfalso; omega)))
 | ((with_reducible apply If_any) <;> intro hc)
 | ((with_reducible first | apply PF.mk | apply DrawP.mk); (focus kernel_rfl))
 | ((with_reducible apply Same.mk); (focus rfl); (first | exact trivial | exact rfl))
 | (intro cap hcap)
 | ((fail_if_success (with_reducible first | apply Fin.mk | apply CallP.mk | apply LoopP.mk | apply VC.mk | apply falseMk | apply Round.mk | apply Eq.symm)); conv => whnf))
  obtain ⟨z, hz⟩ : ∃ z : List Int, z = List.replicate (Int.toNat 512) 0 := ⟨_, rfl⟩
  rw [← hz]
  have hz2 : z = List.replicate 512 0 := hz
  have hzl : z.length = 512 := by rw [hz2]; simp
  have hz8 : B8 z := by rw [hz2]; exact B8.replicate 512
  obtain ⟨C, hC⟩ : ∃ C : Nat, C = Int.toNat 512 := ⟨_, rfl⟩
  rw [← hC]
  have hC2 : C = 512 := hC
  have hC3 : C * 1 = C := by omega
  simp only [hC3]
  refine Put32_at z C 0 826954822 0 ⟨by omega, by omega, by omega⟩ rfl ⟨by rw [hzl, ← hC2]; rfl, rfl, rfl, trivial⟩ ?_
  obtain ⟨b1, hb1⟩ : ∃ b1 : List Int, b1 = putB z (Int.toNat 0) 4 826954822 := ⟨_, rfl⟩
  rw [← hb1]
  have l1 : b1.length = 512 := by rw [hb1, putB_length]; exact hzl
  have w1 : B8 b1 := by rw [hb1]; exact putB_B8 hz8 _ _ _ (by rw [hzl]; decide)
  repeat' (first
 | (with_reducible first | exact True.intro | apply And.intro | apply If_true | apply If_false | apply If_not)
 | ((with_reducible apply VC.mk); (first | trivial | omega | (simp only [inR]; omega) | (exact ⟨rfl, List.prefix_rfl⟩) | (refine ⟨rfl, rfl, rfl, ?_, rfl⟩; (simp; done)) | (focus (repeat' (first | exact True.intro | apply And.intro | rfl | exact Nat.le_of_ble_eq_true rfl)); done) | (simp [inR, Cont.cells]; done) | (simp [inR, Cont.cells]; omega)))
 | ((with_reducible apply If_dec) <;> intro hc <;> (try (exfalso; omega)))
 | ((with_reducible apply If_any) <;> intro hc)
 | ((with_reducible first | apply PF.mk | apply DrawP.mk); (focus kernel_rfl))
 | ((with_reducible apply Same.mk); (focus rfl); (first | exact trivial | exact rfl))
 | (intro cap hcap)
 | ((fail_if_success (with_reducible first | apply Fin.mk | apply CallP.mk | apply LoopP.mk | apply VC.mk | apply falseMk | apply Round.mk | apply Eq.symm)); conv => whnf))
  refine Put64_at b1 C 4 seq 0 ⟨by omega, by omega, by omega⟩ rfl ⟨by rw [l1, ← hC2]; rfl, rfl, rfl, trivial⟩ ?_
  obtain ⟨b2, hb2⟩ : ∃ b2 : List Int, b2 = putB b1 (Int.toNat 4) 8 seq := ⟨_, rfl⟩
  rw [← hb2]
  have l2 : b2.length = 512 := by rw [hb2, putB_length]; exact l1
  have w2 : B8 b2 := by rw [hb2]; exact putB_B8 w1 _ _ _ (by rw [l1]; decide)
  repeat' (first
 | (with_reducible first | exact True.intro | apply And.intro | apply If_true | apply If_false | apply If_not)
 | ((with_reducible apply VC.mk); (first | trivial | omega | (simp only [inR]; omega) | (exact ⟨rfl, List.prefix_rfl⟩) | (refine ⟨rfl, rfl, rfl, ?_, rfl⟩; (simp; done)) | (focus (repeat' (first | exact True.intro | apply And.intro | rfl | exact Nat.le_of_ble_eq_true rfl)); done) | (simp [inR, Cont.cells]; done) | (simp [inR, Cont.cells]; omega)))
 | ((with_reducible apply If_dec) <;> intro hc <;> (try (exfalso; omega)))
 | ((with_reducible apply If_any) <;> intro hc)
 | ((with_reducible first | apply PF.mk | apply DrawP.mk); (focus kernel_rfl))
 | ((with_reducible apply Same.mk); (focus rfl); (first | exact trivial | exact rfl))
 | (intro cap hcap)
 | ((fail_if_success (with_reducible first | apply Fin.mk | apply CallP.mk | apply LoopP.mk | apply VC.mk | apply falseMk | apply Round.mk | apply Eq.symm)); conv => whnf))
  refine Put32_at b2 C 12 (n : Int) 0 ⟨by omega, by omega, by omega⟩ rfl ⟨by rw [l2, ← hC2]; rfl, rfl, rfl, trivial⟩ ?_
  obtain ⟨b3, hb3⟩ : ∃ b3 : List Int, b3 = putB b2 (Int.toNat 12) 4 (n : Int) := ⟨_, rfl⟩
  rw [← hb3]
  have l3 : b3.length = 512 := by rw [hb3, putB_length]; exact l2
  have w3 : B8 b3 := by rw [hb3]; exact putB_B8 w2 _ _ _ (by rw [l2]; decide)
  repeat' (first
 | (with_reducible first | exact True.intro | apply And.intro | apply If_true | apply If_false | apply If_not)
 | ((with_reducible apply VC.mk); (first | trivial | omega | (simp only [inR]; omega) | (exact ⟨rfl, List.prefix_rfl⟩) | (refine ⟨rfl, rfl, rfl, ?_, rfl⟩; (simp; done)) | (focus (repeat' (first | exact True.intro | apply And.intro | rfl | exact Nat.le_of_ble_eq_true rfl)); done) | (simp [inR, Cont.cells]; done) | (simp [inR, Cont.cells]; omega)))
 | ((with_reducible apply If_dec) <;> intro hc <;> (try (exfalso; omega)))
 | ((with_reducible apply If_any) <;> intro hc)
 | ((with_reducible first | apply PF.mk | apply DrawP.mk); (focus kernel_rfl))
 | ((with_reducible apply Same.mk); (focus rfl); (first | exact trivial | exact rfl))
 | (intro cap hcap)
 | ((fail_if_success (with_reducible first | apply Fin.mk | apply CallP.mk | apply LoopP.mk | apply VC.mk | apply falseMk | apply Round.mk | apply Eq.symm)); conv => whnf))
  refine Put32_at b3 C 16 (body.length : Int) 0 ⟨by omega, by omega, by omega⟩ rfl ⟨by rw [l3, ← hC2]; rfl, rfl, rfl, trivial⟩ ?_
  obtain ⟨b4, hb4⟩ : ∃ b4 : List Int, b4 = putB b3 (Int.toNat 16) 4 (body.length : Int) := ⟨_, rfl⟩
  rw [← hb4]
  have l4 : b4.length = 512 := by rw [hb4, putB_length]; exact l3
  have w4 : B8 b4 := by rw [hb4]; exact putB_B8 w3 _ _ _ (by rw [l3]; decide)
  repeat' (first
 | (with_reducible first | exact True.intro | apply And.intro | apply If_true | apply If_false | apply If_not)
 | ((with_reducible apply VC.mk); (first | trivial | omega | (simp only [inR]; omega) | (exact ⟨rfl, List.prefix_rfl⟩) | (refine ⟨rfl, rfl, rfl, ?_, rfl⟩; (simp; done)) | (focus (repeat' (first | exact True.intro | apply And.intro | rfl | exact Nat.le_of_ble_eq_true rfl)); done) | (simp [inR, Cont.cells]; done) | (simp [inR, Cont.cells]; omega)))
 | ((with_reducible apply If_dec) <;> intro hc <;> (try (exfalso; omega)))
 | ((with_reducible apply If_any) <;> intro hc)
 | ((with_reducible first | apply PF.mk | apply DrawP.mk); (focus kernel_rfl))
 | ((with_reducible apply Same.mk); (focus rfl); (first | exact trivial | exact rfl))
 | (intro cap hcap)
 | ((fail_if_success (with_reducible first | apply Fin.mk | apply CallP.mk | apply LoopP.mk | apply VC.mk | apply falseMk | apply Round.mk | apply Eq.symm)); conv => whnf))
  refine sum_at body ⟨h0.2.2.2.2, by omega⟩ ⟨⟨by decide, rfl, rfl, ⟨rfl, rfl, fun j hj => by match j, hj with | 0, _ => rfl⟩, rfl, Nat.one_pos⟩, trivial⟩ ?_
  repeat' (first
 | (with_reducible first | exact True.intro | apply And.intro | apply If_true | apply If_false | apply If_not)
 | ((with_reducible apply VC.mk); (first | trivial | omega | (simp only [inR]; omega) | (exact ⟨rfl, List.prefix_rfl⟩) | (refine ⟨rfl, rfl, rfl, ?_, rfl⟩; (simp; done)) | (focus (repeat' (first | exact True.intro | apply And.intro | rfl | exact Nat.le_of_ble_eq_true rfl)); done) | (simp [inR, Cont.cells]; done) | (simp [inR, Cont.cells]; omega)))
 | ((with_reducible apply If_dec) <;> intro hc <;> (try (exfalso; omega)))
 | ((with_reducible apply If_any) <;> intro hc)
 | ((with_reducible first | apply PF.mk | apply DrawP.mk); (focus kernel_rfl))
 | ((with_reducible apply Same.mk); (focus rfl); (first | exact trivial | exact rfl))
 | (intro cap hcap)
 | ((fail_if_success (with_reducible first | apply Fin.mk | apply CallP.mk | apply LoopP.mk | apply VC.mk | apply falseMk | apply Round.mk | apply Eq.symm)); conv => whnf))
  refine Put32_at b4 C 20 (moreL 0 body) 0 ⟨by omega, by omega, by omega⟩ rfl ⟨by rw [l4, ← hC2]; rfl, rfl, rfl, trivial⟩ ?_
  obtain ⟨b5, hb5⟩ : ∃ b5 : List Int, b5 = putB b4 (Int.toNat 20) 4 (moreL 0 body) := ⟨_, rfl⟩
  rw [← hb5]
  have l5 : b5.length = 512 := by rw [hb5, putB_length]; exact l4
  have w5 : B8 b5 := by rw [hb5]; exact putB_B8 w4 _ _ _ (by rw [l4]; decide)
  repeat' (first
 | (with_reducible first | exact True.intro | apply And.intro | apply If_true | apply If_false | apply If_not)
 | ((with_reducible apply VC.mk); (first | trivial | omega | (simp only [inR]; omega) | (exact ⟨rfl, List.prefix_rfl⟩) | (refine ⟨rfl, rfl, rfl, ?_, rfl⟩; (simp; done)) | (focus (repeat' (first | exact True.intro | apply And.intro | rfl | exact Nat.le_of_ble_eq_true rfl)); done) | (simp [inR, Cont.cells]; done) | (simp [inR, Cont.cells]; omega)))
 | ((with_reducible apply If_dec) <;> intro hc <;> (try (exfalso; omega)))
 | ((with_reducible apply If_any) <;> intro hc)
 | ((with_reducible first | apply PF.mk | apply DrawP.mk); (focus kernel_rfl))
 | ((with_reducible apply Same.mk); (focus rfl); (first | exact trivial | exact rfl))
 | (intro cap hcap)
 | ((fail_if_success (with_reducible first | apply Fin.mk | apply CallP.mk | apply LoopP.mk | apply VC.mk | apply falseMk | apply Round.mk | apply Eq.symm)); conv => whnf))
  refine sum2_at b5 24 C [2, 0] ⟨w5, by omega, by decide⟩ rfl ⟨rfl, rfl, trivial⟩ ⟨rfl, trivial⟩ ?_
  repeat' (first
 | (with_reducible first | exact True.intro | apply And.intro | apply If_true | apply If_false | apply If_not)
 | ((with_reducible apply VC.mk); (first | trivial | omega | (simp only [inR]; omega) | (exact ⟨rfl, List.prefix_rfl⟩) | (refine ⟨rfl, rfl, rfl, ?_, rfl⟩; (simp; done)) | (focus (repeat' (first | exact True.intro | apply And.intro | rfl | exact Nat.le_of_ble_eq_true rfl)); done) | (simp [inR, Cont.cells]; done) | (simp [inR, Cont.cells]; omega)))
 | ((with_reducible apply If_dec) <;> intro hc <;> (try (exfalso; omega)))
 | ((with_reducible apply If_any) <;> intro hc)
 | ((with_reducible first | apply PF.mk | apply DrawP.mk); (focus kernel_rfl))
 | ((with_reducible apply Same.mk); (focus rfl); (first | exact trivial | exact rfl))
 | (intro cap hcap)
 | ((fail_if_success (with_reducible first | apply Fin.mk | apply CallP.mk | apply LoopP.mk | apply VC.mk | apply falseMk | apply Round.mk | apply Eq.symm)); conv => whnf))
  refine Put32_at b5 C 24 (moreL 0 (b5.take 24)) 0 ⟨by omega, by omega, by omega⟩ rfl ⟨by rw [l5, ← hC2]; rfl, rfl, rfl, trivial⟩ ?_
  obtain ⟨b6, hb6⟩ : ∃ b6 : List Int, b6 = putB b5 (Int.toNat 24) 4 (moreL 0 (b5.take 24)) := ⟨_, rfl⟩
  rw [← hb6]
  have l6 : b6.length = 512 := by rw [hb6, putB_length]; exact l5
  repeat' (first
 | (with_reducible first | exact True.intro | apply And.intro | apply If_true | apply If_false | apply If_not)
 | ((with_reducible apply VC.mk); (first | trivial | omega | (simp only [inR]; omega) | (exact ⟨rfl, List.prefix_rfl⟩) | (refine ⟨rfl, rfl, rfl, ?_, rfl⟩; (simp; done)) | (focus (repeat' (first | exact True.intro | apply And.intro | rfl | exact Nat.le_of_ble_eq_true rfl)); done) | (simp [inR, Cont.cells]; done) | (simp [inR, Cont.cells]; omega)))
 | ((with_reducible apply If_dec) <;> intro hc <;> (try (exfalso; omega)))
 | ((with_reducible apply If_any) <;> intro hc)
 | ((with_reducible first | apply PF.mk | apply DrawP.mk); (focus kernel_rfl))
 | ((with_reducible apply Same.mk); (focus rfl); (first | exact trivial | exact rfl))
 | (intro cap hcap)
 | ((fail_if_success (with_reducible first | apply Fin.mk | apply CallP.mk | apply LoopP.mk | apply VC.mk | apply falseMk | apply Round.mk | apply Eq.symm)); conv => whnf))
  refine Fin.frz rfl (by rw [l6, hC2]) (hk b6 ?_ l6)
  rw [hb6, hb5, hb4, hb3, hb2, hb1, hz2]
  rfl
def signRel (x : Int × Nat × List Int) (l : List Int) : Prop := l = signL x.1 x.2.1 x.2.2 ∧ l.length = 512
theorem sign_K : ConOk Go.Proofs.Try.prog 114 (Con.of (Int × Nat × List Int) (List Int) (fun x => [.v (.int .u64 x.1), .v (.int .i64 x.2.1), .im false 1 x.2.2.length (.ints .u8 x.2.2)]) (fun _ => []) (fun x => 0 ≤ x.1 ∧ x.1 < 18446744073709551616 ∧ x.2.1 ≤ 1073741824 ∧ x.2.2.length ≤ 1073741824 ∧ B8 x.2.2) signRel (fun _ l => .im true 1 l.length (.ints .u8 l)) (fun _ _ => [])) := by
  refine conOk_rel (T := tab) mix Go.Proofs.Try.func114 (by decide +kernel) (by kernel_rfl) [] [] (fun n => by rw [Go.Proofs.Try.ntmps114]; exact Nat.le_of_ble_eq_true rfl) (fun n z _ _ => ⟨⟨rfl, trivial⟩, (fun c hc => by cases hc), Nat.le_refl _⟩) (fun n _ c hc => by cases hc) ?_
  intro x k h0 hk
  refine sign_c x.1 x.2.1 x.2.2 k h0 (fun l hl hl2 => ?_)
  have h : signRel x l := ⟨hl, hl2⟩
  exact hk l h
theorem sign_at {avs : List AV} {H : List Chunk} {k : K} (seq : Int) (n : Nat) (body : List Int) (h0 : 0 ≤ seq ∧ seq < 18446744073709551616 ∧ n ≤ 1073741824 ∧ body.length ≤ 1073741824 ∧ B8 body) (ha : argsM H [] [.v (.int .u64 seq), .v (.int .i64 n), .im false 1 body.length (.ints .u8 body)] avs) (h : ∀ l, l = signL seq n body → l.length = 512 → k (.im true 1 l.length (.ints .u8 l)) H) : CallP Go.Proofs.Try.prog 114 avs H k :=
  CallP.mk ⟨_, sign_K.real, Con.spec sign_K, (seq, n, body), [], ⟨h0, rfl, trivial, ha⟩, fun l (hl : signRel (seq, n, body) l) => (numK_eq H.length (fun N => k (AV.ren (fren [] N) (.im true 1 l.length (.ints .u8 l))) (putAll H [] []))).mpr (by have := h l hl.1 hl.2; simpa [putAll, AV.ren, Cont.ren] using this)⟩
end Go.Proofs.Ytjccknmgmommcaa.Sx

