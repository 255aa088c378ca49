import Derived.Test.YtjccknmgmommcaaSxO2
set_option linter.unusedVariables false
set_option linter.unusedSimpArgs false
set_option maxRecDepth 10000
namespace Go.Proofs.Ytjccknmgmommcaa.Sx
open Go.RowKit Go.Proofs.Ytjccknmgmommcaa.Sx.Tb
/-! ### Records -/
abbrev RecR := Int × List Int
def recAV (g : Bool) (r : RecR) : List AV := [.v (.int .i64 r.1), .im g 1 r.2.length (.ints .u8 r.2)]
def recsC (g : Bool) (rs : List RecR) : Cont := .recs 2 rs.length (fun i => recAV g (rs.getD i (0, [])))
def enc1 (r : RecR) : List Int := leB 8 r.1 ++ leB 4 (r.2.length : Int) ++ r.2
def encL (rs : List RecR) : List Int := rs.flatMap enc1
def recOk (r : RecR) : Prop := 0 ≤ r.1 ∧ r.1 ≤ 1099511627776 ∧ r.2.length ≤ 1073741824
theorem enc1_length (r : RecR) : (enc1 r).length = 12 + r.2.length := by simp [enc1, leB_length]; omega
theorem encL_snoc (rs : List RecR) (i : Nat) (h : i < rs.length) : encL (rs.take (i + 1)) = encL (rs.take i) ++ enc1 (rs.getD i (0, [])) := by
  unfold encL
  rw [List.take_add_one, List.getElem?_eq_getElem h, List.flatMap_append, List.getD_eq_getElem?_getD, List.getElem?_eq_getElem h]
  simp
theorem encL_le (rs : List RecR) (i : Nat) : (encL (rs.take i)).length ≤ (encL rs).length := by
  have h1 := congrArg List.length (congrArg encL (List.take_append_drop i rs))
  have h2 : encL (rs.take i ++ rs.drop i) = encL (rs.take i) ++ encL (rs.drop i) := by unfold encL; rw [List.flatMap_append]
  rw [h2, List.length_append] at h1
  omega
theorem head_eq (a b : Int) : putB (putB (List.replicate (Int.toNat 12) 0) (Int.toNat 0) 8 a) (Int.toNat 8) 4 b = leB 8 a ++ leB 4 b := by
  have h1 : putB (List.replicate (Int.toNat 12) 0) (Int.toNat 0) 8 a = leB 8 a ++ List.replicate 4 0 := by
    rw [putB_eq _ _ _ _ (by decide)]; rfl
  rw [h1, putB_eq _ _ _ _ (by simp [leB_length])]
  have h2 : (leB 8 a ++ List.replicate 4 0).take (Int.toNat 8) = leB 8 a := by
    rw [List.take_append_of_le_length (by rw [leB_length]; decide)]
    exact List.take_of_length_le (by rw [leB_length]; decide)
  have h3 : (leB 8 a ++ List.replicate 4 0).drop (Int.toNat 8 + 4) = [] := List.drop_eq_nil_of_le (by simp [leB_length])
  rw [h2, h3, List.append_nil]
def joinRow (a b c : List Int) : Cont := .recs 1 3 (fun i => match i with | 0 => [.im true 1 a.length (.ints .u8 a)] | 1 => [.im true 1 b.length (.ints .u8 b)] | _ => [.im false 1 c.length (.ints .u8 c)])
set_option maxHeartbeats 8000000 in
theorem enc_c (rs : List RecR) (k : K) (h0 : rs.length ≤ 1099511627776 ∧ (encL rs).length ≤ 1099511627776 ∧ ∀ r ∈ rs, recOk r) (hk : ∀ l, l = encL rs → k (.im true 1 l.length (.ints .u8 l)) []) : evFunc tab [] [] Go.Proofs.Try.f107 [.im false 2 rs.length (recsC false rs)] [] k := by
  repeat' (first
 | (with_reducible first | exact True.intro | apply And.intro | apply If_true | apply If_false | apply If_not)
 | ((with_reducible apply VC.mk); (first | trivial | omega | (simp only [inR]; omega) | (exact ⟨rfl, List.prefix_rfl⟩) | (refine ⟨rfl, rfl, rfl, ?_, rfl⟩; (simp; done)) | (focus (repeat' (first | exact True.intro | apply And.intro | rfl | exact Nat.le_of_ble_eq_true rfl)); done) | (simp [inR, Cont.cells]; done) | (simp [inR, Cont.cells]; omega)))
 | ((with_reducible apply If_dec) <;> intro hc <;> (try (exfalso; omega)))
 | ((with_reducible apply If_any) <;> intro hc)
 | ((with_reducible first | apply PF.mk | apply DrawP.mk); (focus kernel_rfl))
 | ((with_reducible apply Same.mk); (focus rfl); (first | exact trivial | exact rfl))
 | (intro cap hcap)
 | ((fail_if_success (with_reducible first | apply Fin.mk | apply CallP.mk | apply LoopP.mk | apply VC.mk | apply falseMk | apply Round.mk | apply Eq.symm)); conv => whnf))
  refine LoopP.mk ⟨Nat × List Int, fun y => y.1 ≤ rs.length ∧ y.2 = encL (rs.take y.1), fun y => ([(3, .im true 1 y.2.length (.ints .u8 y.2)), (7, .im false 2 rs.length (recsC false rs)), (8, .v (.int .i64 rs.length)), (9, .v (.int .i64 y.1))], []), fun y => rs.length - y.1, (0, []), ⟨Nat.zero_le _, rfl⟩, Fit.ren [] [] rfl rfl trivial trivial ?_, ?_⟩
  · repeat' (first
 | (with_reducible first | exact True.intro | apply And.intro | apply If_true | apply If_false | apply If_not)
 | ((with_reducible apply VC.mk); (first | trivial | omega | (simp only [inR]; omega) | (exact ⟨rfl, List.prefix_rfl⟩) | (refine ⟨rfl, rfl, rfl, ?_, rfl⟩; (simp; done)) | (focus (repeat' (first | exact True.intro | apply And.intro | rfl | exact Nat.le_of_ble_eq_true rfl)); done) | (simp [inR, Cont.cells]; done) | (simp [inR, Cont.cells]; omega)))
 | ((with_reducible apply If_dec) <;> intro hc <;> (try (exfalso; omega)))
 | ((with_reducible apply If_any) <;> intro hc)
 | ((with_reducible first | apply PF.mk | apply DrawP.mk); (focus kernel_rfl))
 | ((with_reducible apply Same.mk); (focus rfl); (first | exact trivial | exact rfl))
 | (intro cap hcap)
 | ((fail_if_success (with_reducible first | apply Fin.mk | apply CallP.mk | apply LoopP.mk | apply VC.mk | apply falseMk | apply Round.mk | apply Eq.symm)); conv => whnf))
  · intro y hy
    obtain ⟨g1, g2⟩ := hy
    have e : ((y.1 : Nat) : Int).toNat = y.1 := Int.toNat_natCast _
    by_cases hlt : y.1 < rs.length
    · have hm : rs.getD y.1 (0, []) ∈ rs := by
        rw [show rs.getD y.1 (0, []) = rs[y.1] by simp [List.getD_eq_getElem?_getD, hlt]]; exact List.getElem_mem hlt
      have hok := h0.2.2 _ hm
      have hsn := encL_snoc rs y.1 hlt
      have hle := encL_le rs (y.1 + 1)
      have ho1 := hok.1
      have ho2 := hok.2.1
      have ho3 := hok.2.2
      repeat' (first
 | (with_reducible first | exact True.intro | apply And.intro | apply If_true | apply If_false | apply If_not)
 | ((with_reducible apply VC.mk); (first | trivial | omega | (simp only [inR]; omega) | (exact ⟨rfl, List.prefix_rfl⟩) | (refine ⟨rfl, rfl, rfl, ?_, rfl⟩; (simp; done)) | (focus (repeat' (first | exact True.intro | apply And.intro | rfl | exact Nat.le_of_ble_eq_true rfl)); done) | (simp [inR, Cont.cells]; done) | (simp [inR, Cont.cells]; omega)))
 | ((with_reducible apply If_dec) <;> intro hc <;> (try (exfalso; omega)))
 | ((with_reducible apply If_any) <;> intro hc)
 | ((with_reducible first | apply PF.mk | apply DrawP.mk); (focus kernel_rfl))
 | ((with_reducible apply Same.mk); (focus rfl); (first | exact trivial | exact rfl))
 | (intro cap hcap)
 | ((fail_if_success (with_reducible first | apply Fin.mk | apply CallP.mk | apply LoopP.mk | apply VC.mk | apply falseMk | apply Round.mk | apply Eq.symm)); conv => whnf))
      all_goals simp only [e] at *
      all_goals generalize rs.getD y.1 (0, []) = r at *
      · exact VC.mk (by simp only [inR]; omega)
      refine Put64_at (List.replicate (Int.toNat 12) 0) (Int.toNat 12) 0 r.1 1 ⟨by decide, by decide, by decide⟩ rfl ⟨rfl, rfl, rfl, trivial⟩ ?_
      repeat' (first
 | (with_reducible first | exact True.intro | apply And.intro | apply If_true | apply If_false | apply If_not)
 | ((with_reducible apply VC.mk); (first | trivial | omega | (simp only [inR]; omega) | (exact ⟨rfl, List.prefix_rfl⟩) | (refine ⟨rfl, rfl, rfl, ?_, rfl⟩; (simp; done)) | (focus (repeat' (first | exact True.intro | apply And.intro | rfl | exact Nat.le_of_ble_eq_true rfl)); done) | (simp [inR, Cont.cells]; done) | (simp [inR, Cont.cells]; omega)))
 | ((with_reducible apply If_dec) <;> intro hc <;> (try (exfalso; omega)))
 | ((with_reducible apply If_any) <;> intro hc)
 | ((with_reducible first | apply PF.mk | apply DrawP.mk); (focus kernel_rfl))
 | ((with_reducible apply Same.mk); (focus rfl); (first | exact trivial | exact rfl))
 | (intro cap hcap)
 | ((fail_if_success (with_reducible first | apply Fin.mk | apply CallP.mk | apply LoopP.mk | apply VC.mk | apply falseMk | apply Round.mk | apply Eq.symm)); conv => whnf))
      refine Put32_at (putB (List.replicate (Int.toNat 12) 0) (Int.toNat 0) 8 r.1) (Int.toNat 12) 8 (r.2.length : Int) 1 ⟨by decide, by rw [putB_length]; decide, by rw [putB_length]; decide⟩ rfl ⟨by show _ = AV.s _ _ _ _ _; rw [putB_length]; rfl, rfl, rfl, trivial⟩ ?_
      rw [head_eq]
      obtain ⟨hd, hhd⟩ : ∃ hd, hd = leB 8 r.1 ++ leB 4 (r.2.length : Int) := ⟨_, rfl⟩
      have hhl : hd.length = 12 := by rw [hhd]; simp [leB_length]
      rw [← hhd]
      repeat' (first
 | (with_reducible first | exact True.intro | apply And.intro | apply If_true | apply If_false | apply If_not)
 | ((with_reducible apply VC.mk); (first | trivial | omega | (simp only [inR]; omega) | (exact ⟨rfl, List.prefix_rfl⟩) | (refine ⟨rfl, rfl, rfl, ?_, rfl⟩; (simp; done)) | (focus (repeat' (first | exact True.intro | apply And.intro | rfl | exact Nat.le_of_ble_eq_true rfl)); done) | (simp [inR, Cont.cells]; done) | (simp [inR, Cont.cells]; omega)))
 | ((with_reducible apply If_dec) <;> intro hc <;> (try (exfalso; omega)))
 | ((with_reducible apply If_any) <;> intro hc)
 | ((with_reducible first | apply PF.mk | apply DrawP.mk); (focus kernel_rfl))
 | ((with_reducible apply Same.mk); (focus rfl); (first | exact trivial | exact rfl))
 | (intro cap hcap)
 | ((fail_if_success (with_reducible first | apply Fin.mk | apply CallP.mk | apply LoopP.mk | apply VC.mk | apply falseMk | apply Round.mk | apply Eq.symm)); conv => whnf))
      refine CallP.fit [0, 1, 2] [1] (H' := [.dead, .dead, .blk 22 (joinRow y.2 hd r.2) 3]) (avs' := [.s 2 0 1 3 3]) rfl rfl ⟨trivial, trivial⟩ ⟨trivial, trivial, ⟨VC.mk ⟨rfl, rfl⟩, VC.mk ⟨rfl, Nat.le_refl _⟩, fun j hj => ?_⟩, trivial⟩ ⟨VC.mk ⟨rfl, rfl, rfl, rfl, rfl⟩, trivial⟩ ?_
      · match j, hj with
        | 0, _ => exact ⟨⟨VC.mk ⟨rfl, rfl, rfl⟩, VC.mk ⟨rfl, rfl⟩⟩, trivial⟩
        | 1, _ => exact ⟨⟨VC.mk ⟨by show 0 + Int.toNat 12 ≤ hd.length; rw [hhl]; decide, rfl, rfl, by rw [hhl]; rfl, Nat.one_pos⟩, VC.mk ⟨rfl, by rw [List.drop_zero]; exact List.take_of_length_le (by rw [hhl]; decide)⟩⟩, trivial⟩
        | 2, _ => exact ⟨⟨VC.mk ⟨rfl, rfl, rfl⟩, VC.mk ⟨rfl, rfl⟩⟩, trivial⟩
      have hfl : [y.2, hd, r.2].flatten = encL (rs.take (y.1 + 1)) := by
        rw [hsn, ← g2, enc1, ← hhd]; simp
      refine join_at [y.2, hd, r.2] ⟨by rw [hfl]; omega, by simp⟩ ⟨⟨by decide, rfl, rfl, ⟨rfl, rfl, fun j hj => ?_⟩, rfl, Nat.one_pos⟩, trivial⟩ ?_
      · match j, hj with
        | 0, _ => rfl
        | 1, _ => rfl
        | 2, _ => rfl
      intro l hl
      rw [hfl] at hl
      repeat' (first
 | (with_reducible first | exact True.intro | apply And.intro | apply If_true | apply If_false | apply If_not)
 | ((with_reducible apply VC.mk); (first | trivial | omega | (simp only [inR]; omega) | (exact ⟨rfl, List.prefix_rfl⟩) | (refine ⟨rfl, rfl, rfl, ?_, rfl⟩; (simp; done)) | (focus (repeat' (first | exact True.intro | apply And.intro | rfl | exact Nat.le_of_ble_eq_true rfl)); done) | (simp [inR, Cont.cells]; done) | (simp [inR, Cont.cells]; omega)))
 | ((with_reducible apply If_dec) <;> intro hc <;> (try (exfalso; omega)))
 | ((with_reducible apply If_any) <;> intro hc)
 | ((with_reducible first | apply PF.mk | apply DrawP.mk); (focus kernel_rfl))
 | ((with_reducible apply Same.mk); (focus rfl); (first | exact trivial | exact rfl))
 | (intro cap hcap)
 | ((fail_if_success (with_reducible first | apply Fin.mk | apply CallP.mk | apply LoopP.mk | apply VC.mk | apply falseMk | apply Round.mk | apply Eq.symm)); conv => whnf))
      refine Round.mk ⟨(y.1 + 1, l), ⟨by show y.1 + 1 ≤ _; omega, hl⟩, by show rs.length - (y.1 + 1) < rs.length - y.1; omega, Fit.ren [] [] rfl rfl trivial trivial ?_⟩
      repeat' (first
 | (with_reducible first | exact True.intro | apply And.intro | apply If_true | apply If_false | apply If_not)
 | ((with_reducible apply VC.mk); (first | trivial | omega | (simp only [inR]; omega) | (exact ⟨rfl, List.prefix_rfl⟩) | (refine ⟨rfl, rfl, rfl, ?_, rfl⟩; (simp; done)) | (focus (repeat' (first | exact True.intro | apply And.intro | rfl | exact Nat.le_of_ble_eq_true rfl)); done) | (simp [inR, Cont.cells]; done) | (simp [inR, Cont.cells]; omega)))
 | ((with_reducible apply If_dec) <;> intro hc <;> (try (exfalso; omega)))
 | ((with_reducible apply If_any) <;> intro hc)
 | ((with_reducible first | apply PF.mk | apply DrawP.mk); (focus kernel_rfl))
 | ((with_reducible apply Same.mk); (focus rfl); (first | exact trivial | exact rfl))
 | (intro cap hcap)
 | ((fail_if_success (with_reducible first | apply Fin.mk | apply CallP.mk | apply LoopP.mk | apply VC.mk | apply falseMk | apply Round.mk | apply Eq.symm)); conv => whnf))
    · repeat' (first
 | (with_reducible first | exact True.intro | apply And.intro | apply If_true | apply If_false | apply If_not)
 | ((with_reducible apply VC.mk); (first | trivial | omega | (simp only [inR]; omega) | (exact ⟨rfl, List.prefix_rfl⟩) | (refine ⟨rfl, rfl, rfl, ?_, rfl⟩; (simp; done)) | (focus (repeat' (first | exact True.intro | apply And.intro | rfl | exact Nat.le_of_ble_eq_true rfl)); done) | (simp [inR, Cont.cells]; done) | (simp [inR, Cont.cells]; omega)))
 | ((with_reducible apply If_dec) <;> intro hc <;> (try (exfalso; omega)))
 | ((with_reducible apply If_any) <;> intro hc)
 | ((with_reducible first | apply PF.mk | apply DrawP.mk); (focus kernel_rfl))
 | ((with_reducible apply Same.mk); (focus rfl); (first | exact trivial | exact rfl))
 | (intro cap hcap)
 | ((fail_if_success (with_reducible first | apply Fin.mk | apply CallP.mk | apply LoopP.mk | apply VC.mk | apply falseMk | apply Round.mk | apply Eq.symm)); conv => whnf))
      have e5 : rs.take y.1 = rs := List.take_of_length_le (by omega)
      rw [e5] at g2
      exact Fin.same (hk _ g2)
theorem enc_K : ConOk Go.Proofs.Try.prog 107 (Con.of (List RecR) (List Int) (fun rs => [.im false 2 rs.length (recsC false rs)]) (fun _ => []) (fun rs => rs.length ≤ 1099511627776 ∧ (encL rs).length ≤ 1099511627776 ∧ ∀ r ∈ rs, recOk r) (fun rs l => l = encL rs) (fun _ l => .im true 1 l.length (.ints .u8 l)) (fun _ _ => [])) :=
  conOk_rel (T := tab) mix Go.Proofs.Try.func107 (by decide +kernel) (by kernel_rfl) [] [] (fun n => by rw [Go.Proofs.Try.ntmps107]; exact Nat.le_of_ble_eq_true rfl) (fun n z _ _ => ⟨⟨rfl, trivial⟩, (fun c hc => by cases hc), Nat.le_refl _⟩) (fun n _ c hc => by cases hc) (fun rs k h0 hk => enc_c rs k h0 (fun l hl => hk l hl))
theorem enc_at {avs : List AV} {H : List Chunk} {k : K} (rs : List RecR) (h0 : rs.length ≤ 1099511627776 ∧ (encL rs).length ≤ 1099511627776 ∧ ∀ r ∈ rs, recOk r) (ha : argsM H [] [.im false 2 rs.length (recsC false rs)] avs) (h : ∀ l, l = encL rs → k (.im true 1 l.length (.ints .u8 l)) H) : CallP Go.Proofs.Try.prog 107 avs H k :=
  CallP.mk ⟨_, enc_K.real, Con.spec enc_K, rs, [], ⟨h0, rfl, trivial, ha⟩, fun l hl => (numK_eq H.length (fun N => k (AV.ren (fren [] N) (.im true 1 l.length (.ints .u8 l))) (putAll H [] []))).mpr (by simpa [putAll, AV.ren, Cont.ren] using h l hl)⟩
end Go.Proofs.Ytjccknmgmommcaa.Sx

