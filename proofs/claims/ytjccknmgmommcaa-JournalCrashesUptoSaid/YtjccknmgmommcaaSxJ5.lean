import Derived.Test.YtjccknmgmommcaaSxJ4
set_option linter.unusedVariables false
set_option linter.unusedSimpArgs false
set_option maxRecDepth 10000
namespace Go.Proofs.Ytjccknmgmommcaa.Sx
open Go.RowKit Go.Proofs.Ytjccknmgmommcaa.Sx.Tb
/-! ### Decode -/
def le8 (l : List Int) (at_ : Nat) : Int := leV ((l.drop at_).take 8)
def le4 (l : List Int) (at_ : Nat) : Int := leV ((l.drop at_).take 4)
def dec1 (l : List Int) (at_ : Nat) : Option RecR :=
  if at_ + 12 ≤ l.length ∧ (at_ : Int) + 12 + le4 l (at_ + 8) ≤ l.length ∧ le8 l at_ ≤ 4194304 then some (le8 l at_, (l.drop (at_ + 12)).take (le4 l (at_ + 8)).toNat) else none
def decF (l : List Int) : Nat → Option (List RecR × Nat)
  | 0 => some ([], 0)
  | i + 1 => match decF l i with
    | none => none
    | some y => match dec1 l y.2 with
      | none => none
      | some r => some (y.1 ++ [r], y.2 + 12 + r.2.length)
def decL (l : List Int) (n : Nat) : Option (List RecR) := match decF l n with
  | none => none
  | some y => if y.2 = l.length then some y.1 else none
theorem leV_bound {l : List Int} (h : B8 l) (n : Nat) : 0 ≤ leV (l.take n) ∧ leV (l.take n) < ((256 ^ n : Nat) : Int) := by
  refine ⟨leV_nonneg (h.take n), Int.lt_of_lt_of_le (leV_lt (h.take n)) ?_⟩
  have e : (256 : Int) ^ (l.take n).length = ((256 ^ (l.take n).length : Nat) : Int) := by simp
  rw [e]
  exact Int.ofNat_le.2 (Nat.pow_le_pow_right (by decide) (by simp; omega))
theorem got32_R {l : List Int} {p v : Int} {b : Bool} (h : got32 l p v b) (hl : B8 l) : 0 ≤ v ∧ v < 4294967296 := by
  rcases h with ⟨_, _, _, rfl⟩ | ⟨_, _, rfl⟩
  · exact leV_bound (hl.drop _) 4
  · omega
theorem got64_R {l : List Int} {p v : Int} {b : Bool} (h : got64 l p v b) (hl : B8 l) : 0 ≤ v ∧ v < 18446744073709551616 := by
  rcases h with ⟨_, _, _, rfl⟩ | ⟨_, _, rfl⟩
  · exact leV_bound (hl.drop _) 8
  · omega
theorem got64_t {l : List Int} {p : Nat} {v : Int} {b : Bool} (h : got64 l (p : Int) v b) : (b = true → v = le8 l p ∧ p + 8 ≤ l.length) ∧ (b = false → ¬ p + 8 ≤ l.length) := by
  rcases h with ⟨_, h, rfl, rfl⟩ | ⟨h, rfl, rfl⟩
  · exact ⟨fun _ => ⟨by rw [Int.toNat_natCast]; rfl, by omega⟩, fun h => by cases h⟩
  · exact ⟨fun h => (by cases h), fun _ => by omega⟩
theorem got32_t {l : List Int} {p : Nat} {v : Int} {b : Bool} (h : got32 l (p : Int) v b) : (b = true → v = le4 l p ∧ p + 4 ≤ l.length) ∧ (b = false → ¬ p + 4 ≤ l.length) := by
  rcases h with ⟨_, h, rfl, rfl⟩ | ⟨h, rfl, rfl⟩
  · exact ⟨fun _ => ⟨by rw [Int.toNat_natCast]; rfl, by omega⟩, fun h => by cases h⟩
  · exact ⟨fun h => (by cases h), fun _ => by omega⟩
theorem decF_none {l : List Int} {i : Nat} (h : decF l i = none) : ∀ n, i ≤ n → decF l n = none := by
  intro n hn
  obtain ⟨d, rfl⟩ : ∃ d, n = i + d := ⟨n - i, by omega⟩
  clear hn
  induction d with
  | zero => exact h
  | succ d ih => rw [← Nat.add_assoc, decF, ih]
theorem dec1_len {l : List Int} (hl : B8 l) {p : Nat} {r : RecR} (h : dec1 l p = some r) : p + 12 + r.2.length ≤ l.length ∧ 0 ≤ r.1 ∧ r.1 ≤ 4194304 ∧ B8 r.2 := by
  unfold dec1 at h
  split at h
  · rename_i hh
    cases h
    have h0 : 0 ≤ le4 l (p + 8) := leV_nonneg ((hl.drop _).take _)
    have h1 : 0 ≤ le8 l p := leV_nonneg ((hl.drop _).take _)
    refine ⟨?_, h1, hh.2.2, (hl.drop _).take _⟩
    simp only [List.length_take, List.length_drop]
    omega
  · cases h
set_option maxHeartbeats 16000000 in
theorem decode_c (l : List Int) (n : Int) (k : K) (h0 : B8 l ∧ l.length ≤ 1073741824 ∧ n ≤ 1099511627776) (hk : ∀ x : Int × List RecR, (x.1 = 0 ∧ decL l n.toNat = some x.2 ∨ x.1 = 11 ∧ decL l n.toNat = none ∧ x.2 = []) → k (.tup [.im true 2 x.2.length (recsC true x.2), .v (.int .i64 x.1)]) []) : evFunc tab [] [] Go.Proofs.Try.f112 [.im false 1 l.length (.ints .u8 l), .v (.int .i64 n)] [] k := by
  obtain ⟨h1, h2, h3⟩ := h0
  repeat' (first
 | (with_reducible first | exact True.intro | apply And.intro | apply If_true | apply If_false | apply If_not)
 | ((with_reducible apply VC.mk); (first | trivial | omega | (simp only [inR]; omega) | (exact ⟨rfl, List.prefix_rfl⟩) | (refine ⟨rfl, rfl, rfl, ?_, rfl⟩; (simp; done)) | (focus (repeat' (first | exact True.intro | apply And.intro | rfl | exact Nat.le_of_ble_eq_true rfl)); done) | (simp [inR, Cont.cells]; done) | (simp [inR, Cont.cells]; omega)))
 | ((with_reducible apply If_dec) <;> intro hc <;> (try (exfalso; omega)))
 | ((with_reducible apply If_any) <;> intro hc)
 | ((with_reducible first | apply PF.mk | apply DrawP.mk); (focus kernel_rfl))
 | ((with_reducible apply Same.mk); (focus rfl); (first | exact trivial | exact rfl))
 | (intro cap hcap)
 | ((fail_if_success (with_reducible first | apply Fin.mk | apply CallP.mk | apply LoopP.mk | apply VC.mk | apply falseMk | apply Round.mk | apply Eq.symm)); conv => whnf))
  refine LoopP.mk ⟨Nat × List RecR × Nat × Nat, fun y => y.1 ≤ n.toNat ∧ decF l y.1 = some (y.2.1, y.2.2.1) ∧ y.2.2.1 ≤ l.length ∧ y.2.1.length ≤ y.1, fun y => ([(0, .im false 1 l.length (.ints .u8 l)), (6, .s 0 0 2 y.2.1.length y.2.2.2), (7, .v (.int .i64 y.2.2.1)), (13, .v (.int .i64 n)), (14, .v (.int .i64 y.1))], [.blk 174 (recsC true y.2.1) (y.2.2.2 * 2)]), fun y => n.toNat - y.1, (0, [], 0, 0), ⟨Nat.zero_le _, rfl, Nat.zero_le _, Nat.le_refl _⟩, Fit.ren [0] [] rfl rfl trivial ?_ ?_, ?_⟩
  · repeat' (first
 | (with_reducible first | exact True.intro | apply And.intro | apply If_true | apply If_false | apply If_not)
 | ((with_reducible apply VC.mk); (first | trivial | omega | (simp only [inR]; omega) | (exact ⟨rfl, List.prefix_rfl⟩) | (refine ⟨rfl, rfl, rfl, ?_, rfl⟩; (simp; done)) | (focus (repeat' (first | exact True.intro | apply And.intro | rfl | exact Nat.le_of_ble_eq_true rfl)); done) | (simp [inR, Cont.cells]; done) | (simp [inR, Cont.cells]; omega)))
 | ((with_reducible apply If_dec) <;> intro hc <;> (try (exfalso; omega)))
 | ((with_reducible apply If_any) <;> intro hc)
 | ((with_reducible first | apply PF.mk | apply DrawP.mk); (focus kernel_rfl))
 | ((with_reducible apply Same.mk); (focus rfl); (first | exact trivial | exact rfl))
 | (intro cap hcap)
 | ((fail_if_success (with_reducible first | apply Fin.mk | apply CallP.mk | apply LoopP.mk | apply VC.mk | apply falseMk | apply Round.mk | apply Eq.symm)); conv => whnf))
  · repeat' (first
 | (with_reducible first | exact True.intro | apply And.intro | apply If_true | apply If_false | apply If_not)
 | ((with_reducible apply VC.mk); (first | trivial | omega | (simp only [inR]; omega) | (exact ⟨rfl, List.prefix_rfl⟩) | (refine ⟨rfl, rfl, rfl, ?_, rfl⟩; (simp; done)) | (focus (repeat' (first | exact True.intro | apply And.intro | rfl | exact Nat.le_of_ble_eq_true rfl)); done) | (simp [inR, Cont.cells]; done) | (simp [inR, Cont.cells]; omega)))
 | ((with_reducible apply If_dec) <;> intro hc <;> (try (exfalso; omega)))
 | ((with_reducible apply If_any) <;> intro hc)
 | ((with_reducible first | apply PF.mk | apply DrawP.mk); (focus kernel_rfl))
 | ((with_reducible apply Same.mk); (focus rfl); (first | exact trivial | exact rfl))
 | (intro cap hcap)
 | ((fail_if_success (with_reducible first | apply Fin.mk | apply CallP.mk | apply LoopP.mk | apply VC.mk | apply falseMk | apply Round.mk | apply Eq.symm)); conv => whnf))
  · intro y hy
    obtain ⟨g1, g2, g3, g4⟩ := hy
    have bad : ∀ m, m ≤ n.toNat → decF l m = none → k (.tup [.im true 2 0 (recsC true []), .v (.int .i64 11)]) [] := fun m hm h => by
      have e := decF_none h _ hm
      exact hk (11, []) (.inr ⟨rfl, by unfold decL; rw [e], rfl⟩)
    have nilF : ∀ H : List Chunk, k (.tup [.im true 2 0 (recsC true []), .v (.int .i64 11)]) [] → Fin 0 (.tup [.v (.slice none 0 0), .v (.int .i64 11)]) H k := fun H h =>
      Fin.ren [] [] (.tup [.im true 2 0 (recsC true []), .v (.int .i64 11)]) [] rfl rfl trivial trivial ⟨⟨VC.mk rfl, VC.mk rfl⟩, VC.mk rfl, trivial⟩ h
    have ds : decF l (y.1 + 1) = match dec1 l y.2.2.1 with
      | none => none
      | some r => some (y.2.1 ++ [r], y.2.2.1 + 12 + r.2.length) := by rw [decF, g2]
    repeat' (first
 | (with_reducible first | exact True.intro | apply And.intro | apply If_true | apply If_false | apply If_not)
 | ((with_reducible apply VC.mk); (first | trivial | omega | (simp only [inR]; omega) | (exact ⟨rfl, List.prefix_rfl⟩) | (refine ⟨rfl, rfl, rfl, ?_, rfl⟩; (simp; done)) | (focus (repeat' (first | exact True.intro | apply And.intro | rfl | exact Nat.le_of_ble_eq_true rfl)); done) | (simp [inR, Cont.cells]; done) | (simp [inR, Cont.cells]; omega)))
 | ((with_reducible apply If_dec) <;> intro hc <;> (try (exfalso; omega)))
 | ((with_reducible apply If_any) <;> intro hc)
 | ((with_reducible first | apply PF.mk | apply DrawP.mk); (focus kernel_rfl))
 | ((with_reducible apply Same.mk); (focus rfl); (first | exact trivial | exact rfl))
 | (intro cap hcap)
 | ((fail_if_success (with_reducible first | apply Fin.mk | apply CallP.mk | apply LoopP.mk | apply VC.mk | apply falseMk | apply Round.mk | apply Eq.symm)); conv => whnf))
    · refine U64_at l (y.2.2.1 : Int) ⟨by omega, h1, by omega⟩ ⟨⟨rfl, rfl, rfl⟩, rfl, trivial⟩ ?_
      intro v1 b1 hb1
      repeat' (first
 | (with_reducible first | exact True.intro | apply And.intro | apply If_true | apply If_false | apply If_not)
 | ((with_reducible apply VC.mk); (first | trivial | omega | (simp only [inR]; omega) | (exact ⟨rfl, List.prefix_rfl⟩) | (refine ⟨rfl, rfl, rfl, ?_, rfl⟩; (simp; done)) | (focus (repeat' (first | exact True.intro | apply And.intro | rfl | exact Nat.le_of_ble_eq_true rfl)); done) | (simp [inR, Cont.cells]; done) | (simp [inR, Cont.cells]; omega)))
 | ((with_reducible apply If_dec) <;> intro hc <;> (try (exfalso; omega)))
 | ((with_reducible apply If_any) <;> intro hc)
 | ((with_reducible first | apply PF.mk | apply DrawP.mk); (focus kernel_rfl))
 | ((with_reducible apply Same.mk); (focus rfl); (first | exact trivial | exact rfl))
 | (intro cap hcap)
 | ((fail_if_success (with_reducible first | apply Fin.mk | apply CallP.mk | apply LoopP.mk | apply VC.mk | apply falseMk | apply Round.mk | apply Eq.symm)); conv => whnf))
      refine U32_at l ((y.2.2.1 : Int) + 8) ⟨by omega, h1, by omega⟩ ⟨⟨rfl, rfl, rfl⟩, rfl, trivial⟩ ?_
      intro v2 b2 hb2
      obtain ⟨u1, u2⟩ := got32_R hb2 h1
      repeat' (first
 | (with_reducible first | exact True.intro | apply And.intro | apply If_true | apply If_false | apply If_not)
 | ((with_reducible apply VC.mk); (first | trivial | omega | (simp only [inR]; omega) | (exact ⟨rfl, List.prefix_rfl⟩) | (refine ⟨rfl, rfl, rfl, ?_, rfl⟩; (simp; done)) | (focus (repeat' (first | exact True.intro | apply And.intro | rfl | exact Nat.le_of_ble_eq_true rfl)); done) | (simp [inR, Cont.cells]; done) | (simp [inR, Cont.cells]; omega)))
 | ((with_reducible apply If_dec) <;> intro hc <;> (try (exfalso; omega)))
 | ((with_reducible apply If_any) <;> intro hc)
 | ((with_reducible first | apply PF.mk | apply DrawP.mk); (focus kernel_rfl))
 | ((with_reducible apply Same.mk); (focus rfl); (first | exact trivial | exact rfl))
 | (intro cap hcap)
 | ((fail_if_success (with_reducible first | apply Fin.mk | apply CallP.mk | apply LoopP.mk | apply VC.mk | apply falseMk | apply Round.mk | apply Eq.symm)); conv => whnf))
      all_goals obtain ⟨t1, t2⟩ := got64_t hb1
      all_goals obtain ⟨t3, t4⟩ := got32_t (p := y.2.2.1 + 8) hb2
      · exact nilF _ (bad (y.1 + 1) (by omega) (by rw [ds, dec1, if_neg (by have := t3 (by assumption); omega)]))
      · refine oslice_at l ((y.2.2.1 : Int) + 12) v2 ⟨by omega, by omega, by omega⟩ ⟨⟨rfl, rfl, rfl⟩, rfl, rfl, trivial⟩ ?_
        intro m b3 hb3
        have tt1 := t1 (by assumption)
        have tt3 := t3 (by assumption)
        repeat' (first
 | (with_reducible first | exact True.intro | apply And.intro | apply If_true | apply If_false | apply If_not)
 | ((with_reducible apply VC.mk); (first | trivial | omega | (simp only [inR]; omega) | (exact ⟨rfl, List.prefix_rfl⟩) | (refine ⟨rfl, rfl, rfl, ?_, rfl⟩; (simp; done)) | (focus (repeat' (first | exact True.intro | apply And.intro | rfl | exact Nat.le_of_ble_eq_true rfl)); done) | (simp [inR, Cont.cells]; done) | (simp [inR, Cont.cells]; omega)))
 | ((with_reducible apply If_dec) <;> intro hc <;> (try (exfalso; omega)))
 | ((with_reducible apply If_any) <;> intro hc)
 | ((with_reducible first | apply PF.mk | apply DrawP.mk); (focus kernel_rfl))
 | ((with_reducible apply Same.mk); (focus rfl); (first | exact trivial | exact rfl))
 | (intro cap hcap)
 | ((fail_if_success (with_reducible first | apply Fin.mk | apply CallP.mk | apply LoopP.mk | apply VC.mk | apply falseMk | apply Round.mk | apply Eq.symm)); conv => whnf))
        · exact nilF _ (bad (y.1 + 1) (by omega) (by rw [ds, dec1, if_neg (by omega)]))
        · exact VC.mk (by simp only [inR]; have := got64_R hb1 h1; omega)
        · rename_i hb3t cap hcap
          have hb3t : b3 = true := by assumption
          have hm : (y.2.2.1 : Int) + 12 + v2 ≤ l.length ∧ m = (l.drop (y.2.2.1 + 12)).take v2.toNat := by
            rcases hb3 with ⟨q1, q2, q3⟩ | ⟨q1, q2, q3⟩
            · exact ⟨q1.2.2, by rw [q3]; rfl⟩
            · rw [q2] at hb3t; cases hb3t
          have hd : dec1 l y.2.2.1 = some (v1, m) := by
            rw [dec1, if_pos ⟨by omega, by omega, by omega⟩, hm.2, tt1.1, tt3.1]
          have hml : (m.length : Int) = v2 := by rw [hm.2]; simp only [List.length_take, List.length_drop]; omega
          rw [hd] at ds
          refine Round.mk ⟨(y.1 + 1, y.2.1 ++ [(v1, m)], y.2.2.1 + 12 + m.length, cap), ⟨by show y.1 + 1 ≤ _; omega, ds, by show y.2.2.1 + 12 + m.length ≤ _; omega, by show (y.2.1 ++ [(v1, m)]).length ≤ y.1 + 1; rw [List.length_append, List.length_singleton]; omega⟩, by show n.toNat - (y.1 + 1) < n.toNat - y.1; omega, Fit.ren [2] [] rfl rfl trivial ?_ ?_⟩
          · refine ⟨⟨VC.mk ⟨rfl, rfl⟩, VC.mk ⟨rfl, by show (y.2.1 ++ [(v1, m)]).length ≤ _; simp⟩, ?_⟩, trivial⟩
            refine snoc_le (fun r => recAV true r) (0, []) y.2.1 (v1, m) _ ?_ ?_
            · intro j hj; simp only [if_pos hj]; exact ⟨VC.mk rfl, ⟨VC.mk ⟨rfl, rfl, rfl⟩, VC.mk ⟨rfl, rfl⟩⟩, trivial⟩
            · simp only [Nat.lt_irrefl, if_false]; exact ⟨VC.mk rfl, ⟨VC.mk ⟨rfl, rfl, rfl⟩, VC.mk ⟨rfl, rfl⟩⟩, trivial⟩
          · repeat' (first
 | (with_reducible first | exact True.intro | apply And.intro | apply If_true | apply If_false | apply If_not)
 | ((with_reducible apply VC.mk); (first | trivial | omega | (simp only [inR]; omega) | (exact ⟨rfl, List.prefix_rfl⟩) | (refine ⟨rfl, rfl, rfl, ?_, rfl⟩; (simp; done)) | (focus (repeat' (first | exact True.intro | apply And.intro | rfl | exact Nat.le_of_ble_eq_true rfl)); done) | (simp [inR, Cont.cells]; done) | (simp [inR, Cont.cells]; omega)))
 | ((with_reducible apply If_dec) <;> intro hc <;> (try (exfalso; omega)))
 | ((with_reducible apply If_any) <;> intro hc)
 | ((with_reducible first | apply PF.mk | apply DrawP.mk); (focus kernel_rfl))
 | ((with_reducible apply Same.mk); (focus rfl); (first | exact trivial | exact rfl))
 | (intro cap hcap)
 | ((fail_if_success (with_reducible first | apply Fin.mk | apply CallP.mk | apply LoopP.mk | apply VC.mk | apply falseMk | apply Round.mk | apply Eq.symm)); conv => whnf))
        · exact nilF _ (bad (y.1 + 1) (by omega) (by rw [ds, dec1, if_neg (by rcases hb3 with ⟨q1, q2, q3⟩ | ⟨q1, q2, q3⟩; · rw [q2] at hc; cases hc
                                                                              · omega)]))
      · exact nilF _ (bad (y.1 + 1) (by omega) (by rw [ds, dec1, if_neg (by have := t4 hc; omega)]))
      · exact nilF _ (bad (y.1 + 1) (by omega) (by rw [ds, dec1, if_neg (by have := t2 hc; omega)]))
    · refine nilF _ ?_
      have hy1 : y.1 = n.toNat := by omega
      exact hk (11, []) (.inr ⟨rfl, by unfold decL; rw [← hy1, g2]; simp only; rw [if_neg (by omega)], rfl⟩)
    · have hy1 : y.1 = n.toNat := by omega
      have hd : decL l n.toNat = some y.2.1 := by unfold decL; rw [← hy1, g2]; simp only; rw [if_pos (by omega)]
      refine Fin.ren [] [0] (.tup [.im true 2 y.2.1.length (recsC true y.2.1), .v (.int .i64 0)]) [] rfl rfl ⟨trivial, trivial⟩ trivial ⟨⟨VC.mk ⟨?_, rfl, rfl, rfl, Nat.two_pos⟩, VC.mk ⟨rfl, rfl⟩, fun j hj => ?_⟩, VC.mk rfl, trivial⟩ (hk (0, y.2.1) (.inl ⟨rfl, hd⟩))
      · omega
      · simp only [Nat.zero_add]; exact ⟨VC.mk rfl, ⟨VC.mk ⟨rfl, rfl, rfl⟩, VC.mk ⟨rfl, rfl⟩⟩, trivial⟩
def decRel (x : List Int × Int) (r : Int × List RecR) : Prop := r.1 = 0 ∧ decL x.1 x.2.toNat = some r.2 ∨ r.1 = 11 ∧ decL x.1 x.2.toNat = none ∧ r.2 = []
theorem decode_K : ConOk Go.Proofs.Try.prog 112 (Con.of (List Int × Int) (Int × List RecR) (fun x => [.im false 1 x.1.length (.ints .u8 x.1), .v (.int .i64 x.2)]) (fun _ => []) (fun x => B8 x.1 ∧ x.1.length ≤ 1073741824 ∧ x.2 ≤ 1099511627776) decRel (fun _ r => .tup [.im true 2 r.2.length (recsC true r.2), .v (.int .i64 r.1)]) (fun _ _ => [])) := by
  refine conOk_rel (T := tab) mix Go.Proofs.Try.func112 (by decide +kernel) (by kernel_rfl) [] [] (fun n => by rw [Go.Proofs.Try.ntmps112]; exact Nat.le_of_ble_eq_true rfl) (fun n z _ _ => ⟨⟨⟨rfl, fun j hj => ⟨trivial, ⟨rfl, trivial⟩, trivial⟩⟩, trivial, trivial⟩, (fun c hc => by cases hc), Nat.le_refl _⟩) (fun n _ c hc => by cases hc) ?_
  intro x k h0 hk
  exact decode_c x.1 x.2 k h0 (fun r hr => hk r hr)
theorem decode_at {avs : List AV} {H : List Chunk} {k : K} (l : List Int) (n : Int) (h0 : B8 l ∧ l.length ≤ 1073741824 ∧ n ≤ 1099511627776) (ha : argsM H [] [.im false 1 l.length (.ints .u8 l), .v (.int .i64 n)] avs) (h : ∀ r, decRel (l, n) r → k (.tup [.im true 2 r.2.length (recsC true r.2), .v (.int .i64 r.1)]) H) : CallP Go.Proofs.Try.prog 112 avs H k :=
  CallP.mk ⟨_, decode_K.real, Con.spec decode_K, (l, n), [], ⟨h0, rfl, trivial, ha⟩, fun r hr => (numK_eq H.length (fun N => k (AV.ren (fren [] N) (.tup [.im true 2 r.2.length (recsC true r.2), .v (.int .i64 r.1)])) (putAll H [] []))).mpr (by simpa [putAll, AV.ren, rens, Cont.ren, recsC, recAV] using h r hr)⟩
end Go.Proofs.Ytjccknmgmommcaa.Sx

