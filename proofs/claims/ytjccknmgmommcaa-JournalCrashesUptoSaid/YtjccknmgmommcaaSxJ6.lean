import Derived.Test.YtjccknmgmommcaaSxJ5
set_option linter.unusedVariables false
set_option linter.unusedSimpArgs false
set_option maxRecDepth 10000
namespace Go.Proofs.Ytjccknmgmommcaa.Sx
open Go.RowKit Go.Proofs.Ytjccknmgmommcaa.Sx.Tb
/-! ### Pending -/
instance (j : JR) (a n : Int) : Decidable (j.out a n) := by unfold JR.out; infer_instance
def pendOk (j : JR) (b : List Int) : Prop := le4 b 0 = 826954822 ∧ le4 b 24 = moreL 0 (b.take 24) ∧ le4 b 16 ≤ j.size - 512 ∧ le4 b 12 ≤ (j.size - 512) / 12 ∧ (∀ x ∈ (b.drop 28).take 484, x = 0) ∧ le4 b 20 = moreL 0 ((b.drop 512).take (le4 b 16).toNat)
instance (j : JR) (b : List Int) : Decidable (pendOk j b) := by unfold pendOk; infer_instance
def pendB (j : JR) (b : List Int) : Option (List RecR) :=
  if pendOk j b then match decL ((b.drop 512).take (le4 b 16).toNat) (le4 b 12).toNat with
    | some rs => if ∀ r ∈ rs, j.out r.1 r.2.length then some rs else none
    | none => none
  else none
def JR.part (j : JR) (s : DF) : List Int := (s.now.drop j.pos.toNat).take j.size.toNat
/-- What is pending: an error's number, the records, the number of the last. -/
def DF.pend (j : JR) (s : DF) : Int × Option (List RecR) × JR :=
  if s.refB = true then (5, none, j) else if (s.now.length : Int) < j.pos + j.size then (4, none, j) else match pendB j (j.part s) with
    | some rs => (0, some rs, { j with seq := le8 (j.part s) 4 })
    | none => (0, none, j)
def pendV (x : Int × Option (List RecR) × JR) : AV := .tup [.im true 2 (x.2.1.getD []).length (recsC true (x.2.1.getD [])), .v (.bool x.2.1.isSome), .v (.int .i64 x.1)]
theorem pendV_noF (x : Int × Option (List RecR) × JR) : (pendV x).noF := ⟨⟨rfl, fun j hj => ⟨trivial, ⟨rfl, trivial⟩, trivial⟩⟩, trivial, trivial, trivial⟩
theorem pendV_ren (f : Nat → Nat) (x : Int × Option (List RecR) × JR) : (pendV x).ren f = pendV x := rfl
theorem decF_ok {l : List Int} (hl : B8 l) : ∀ {n : Nat} {y : List RecR × Nat}, decF l n = some y → y.2 ≤ l.length ∧ y.1.length = n ∧ (encL y.1).length = y.2 ∧ ∀ r ∈ y.1, 0 ≤ r.1 ∧ r.1 ≤ 4194304 ∧ r.2.length ≤ l.length ∧ B8 r.2
  | 0, y, h => by cases h; exact ⟨Nat.zero_le _, rfl, rfl, fun r hr => by cases hr⟩
  | n + 1, y, h => by
    rw [decF] at h
    cases h1 : decF l n with
    | none => rw [h1] at h; cases h
    | some u =>
      rw [h1] at h
      simp only at h
      obtain ⟨i1, i2, i3, i4⟩ := decF_ok hl h1
      cases h2 : dec1 l u.2 with
      | none => rw [h2] at h; cases h
      | some r =>
        rw [h2] at h
        cases h
        obtain ⟨k1, k2, k3, k4⟩ := dec1_len hl h2
        refine ⟨k1, by simp [i2], ?_, fun q hq => ?_⟩
        · show (encL (u.1 ++ [r])).length = u.2 + 12 + r.2.length
          have : encL (u.1 ++ [r]) = encL u.1 ++ enc1 r := by simp [encL]
          rw [this, List.length_append, i3, enc1_length]; omega
        · rw [List.mem_append, List.mem_singleton] at hq
          rcases hq with hq | rfl
          · exact i4 q hq
          · exact ⟨k2, k3, by omega, k4⟩
theorem decL_ok {l : List Int} (hl : B8 l) {n : Nat} {rs : List RecR} (h : decL l n = some rs) : rs.length = n ∧ (encL rs).length = l.length ∧ ∀ r ∈ rs, 0 ≤ r.1 ∧ r.1 ≤ 4194304 ∧ r.2.length ≤ l.length ∧ B8 r.2 := by
  unfold decL at h
  cases h1 : decF l n with
  | none => rw [h1] at h; cases h
  | some u =>
    rw [h1] at h
    simp only at h
    split at h
    · rename_i hh
      cases h
      obtain ⟨i1, i2, i3, i4⟩ := decF_ok hl h1
      exact ⟨i2, by omega, i4⟩
    · cases h
set_option maxHeartbeats 16000000 in
theorem pending_c (j : JR) (s : DF) (n : Int) (k : K) (h0 : j.Ok ∧ s.Ok n ∧ n ≤ 274877906944 ∧ B8 s.now) (hk : ∀ x, x = s.pend j → k (pendV x) [x.2.2.blk 1, s.asked.pk]) : evFunc tab [] p64 Go.Proofs.Try.f64 [.p 0 0 1 0] [j.blk 1, s.pk] k := by
  obtain ⟨hj, h7, h8, h9⟩ := h0
  have hj0 := hj
  obtain ⟨j1, j2, j3, j4, j5, j6⟩ := hj0
  have a1 := h7.ops
  have a3 := h7.len
  have a4 := h7.now
  repeat' (first
 | (with_reducible first | exact True.intro | apply And.intro | apply If_true | apply If_false | apply If_not)
 | ((with_reducible apply VC.mk); (first | trivial | omega | (simp only [inR]; omega) | (exact ⟨rfl, List.prefix_rfl⟩) | (refine ⟨rfl, rfl, rfl, ?_, rfl⟩; (simp; done)) | (focus (repeat' (first | exact True.intro | apply And.intro | rfl | exact Nat.le_of_ble_eq_true rfl)); done) | (simp [inR, Cont.cells]; done) | (simp [inR, Cont.cells]; omega)))
 | ((with_reducible apply If_dec) <;> intro hc <;> (try (exfalso; omega)))
 | ((with_reducible apply If_any) <;> intro hc)
 | ((with_reducible first | apply PF.mk | apply DrawP.mk); (focus kernel_rfl))
 | ((with_reducible apply Same.mk); (focus rfl); (first | exact trivial | exact rfl))
 | (intro cap hcap)
 | ((fail_if_success (with_reducible first | apply Fin.mk | apply CallP.mk | apply LoopP.mk | apply VC.mk | apply falseMk | apply Round.mk | apply Eq.symm)); conv => whnf))
  refine read_at s j.pos j.size 1 ⟨a1.1, by omega, a4⟩ rfl ⟨rfl, rfl, rfl, trivial⟩ ?_
  intro r l hr
  repeat' (first
 | (with_reducible first | exact True.intro | apply And.intro | apply If_true | apply If_false | apply If_not)
 | ((with_reducible apply VC.mk); (first | trivial | omega | (simp only [inR]; omega) | (exact ⟨rfl, List.prefix_rfl⟩) | (refine ⟨rfl, rfl, rfl, ?_, rfl⟩; (simp; done)) | (focus (repeat' (first | exact True.intro | apply And.intro | rfl | exact Nat.le_of_ble_eq_true rfl)); done) | (simp [inR, Cont.cells]; done) | (simp [inR, Cont.cells]; omega)))
 | ((with_reducible apply If_dec) <;> intro hc <;> (try (exfalso; omega)))
 | ((with_reducible apply If_any) <;> intro hc)
 | ((with_reducible first | apply PF.mk | apply DrawP.mk); (focus kernel_rfl))
 | ((with_reducible apply Same.mk); (focus rfl); (first | exact trivial | exact rfl))
 | (intro cap hcap)
 | ((fail_if_success (with_reducible first | apply Fin.mk | apply CallP.mk | apply LoopP.mk | apply VC.mk | apply falseMk | apply Round.mk | apply Eq.symm)); conv => whnf))
  · have e : s.pend j = (r, none, j) := by
      unfold DF.pend
      rcases hr with ⟨q1, q2, q3⟩ | ⟨q1, q2, q3, q4⟩ | ⟨q1, q2, q3⟩
      · rw [if_pos ((DF.refB_iff s).2 q2), q1]
      · rw [if_neg (fun h => q2 ((DF.refB_iff s).1 h)), if_pos (by omega), q1]
      · exact absurd q1 hc
    refine Fin.ren [0, 1] [] (pendV (r, none, j)) [j.blk 1, s.asked.pk] rfl rfl trivial (two_le rfl (Nat.le_of_ble_eq_true rfl) rfl rfl) ⟨⟨VC.mk rfl, VC.mk rfl⟩, VC.mk rfl, VC.mk rfl, trivial⟩ (hk _ e.symm)
  have hrr : ¬ s.refused ∧ j.pos + j.size ≤ s.now.length ∧ l = j.part s := by
    rcases hr with ⟨q1, q2, q3⟩ | ⟨q1, q2, q3, q4⟩ | ⟨q1, q2, q3, q4, q5, q6, q7⟩
    · omega
    · omega
    · exact ⟨q2, by omega, q7⟩
  obtain ⟨r1, r2, r3⟩ := hrr
  have hl8 : B8 l := by rw [r3]; exact (h9.drop _).take _
  have hll : (l.length : Int) = j.size := by rw [r3]; unfold JR.part; simp only [List.length_take, List.length_drop]; omega
  have e0 : s.pend j = match pendB j l with
    | some rs => (0, some rs, { j with seq := le8 l 4 })
    | none => (0, none, j) := by
    unfold DF.pend
    rw [if_neg (fun h => r1 ((DF.refB_iff s).1 h)), if_neg (by omega), ← r3]
  have bad : ∀ H : List Chunk, Nat.ble 2 H.length = true → nth H 0 = some (j.blk 1) → nth H 1 = some s.asked.pk → pendB j l = none → Fin 2 (.tup [.v (.slice none 0 0), .v (.bool false), .v (.int .i64 0)]) H k := fun H q1 q2 q3 q4 =>
    Fin.ren [0, 1] [] (pendV (0, none, j)) [j.blk 1, s.asked.pk] rfl rfl trivial (two_le rfl (Nat.le_of_ble_eq_true q1) q2 q3) ⟨⟨VC.mk rfl, VC.mk rfl⟩, VC.mk rfl, VC.mk rfl, trivial⟩ (hk _ (by rw [e0, q4]))
  refine U32_at l 0 ⟨by omega, hl8, by omega⟩ ⟨⟨rfl, rfl, rfl⟩, rfl, trivial⟩ ?_
  intro v1 b1 hb1
  repeat' (first
 | (with_reducible first | exact True.intro | apply And.intro | apply If_true | apply If_false | apply If_not)
 | ((with_reducible apply VC.mk); (first | trivial | omega | (simp only [inR]; omega) | (exact ⟨rfl, List.prefix_rfl⟩) | (refine ⟨rfl, rfl, rfl, ?_, rfl⟩; (simp; done)) | (focus (repeat' (first | exact True.intro | apply And.intro | rfl | exact Nat.le_of_ble_eq_true rfl)); done) | (simp [inR, Cont.cells]; done) | (simp [inR, Cont.cells]; omega)))
 | ((with_reducible apply If_dec) <;> intro hc <;> (try (exfalso; omega)))
 | ((with_reducible apply If_any) <;> intro hc)
 | ((with_reducible first | apply PF.mk | apply DrawP.mk); (focus kernel_rfl))
 | ((with_reducible apply Same.mk); (focus rfl); (first | exact trivial | exact rfl))
 | (intro cap hcap)
 | ((fail_if_success (with_reducible first | apply Fin.mk | apply CallP.mk | apply LoopP.mk | apply VC.mk | apply falseMk | apply Round.mk | apply Eq.symm)); conv => whnf))
  refine U64_at l 4 ⟨by omega, hl8, by omega⟩ ⟨⟨rfl, rfl, rfl⟩, rfl, trivial⟩ ?_
  intro v2 b2 hb2
  repeat' (first
 | (with_reducible first | exact True.intro | apply And.intro | apply If_true | apply If_false | apply If_not)
 | ((with_reducible apply VC.mk); (first | trivial | omega | (simp only [inR]; omega) | (exact ⟨rfl, List.prefix_rfl⟩) | (refine ⟨rfl, rfl, rfl, ?_, rfl⟩; (simp; done)) | (focus (repeat' (first | exact True.intro | apply And.intro | rfl | exact Nat.le_of_ble_eq_true rfl)); done) | (simp [inR, Cont.cells]; done) | (simp [inR, Cont.cells]; omega)))
 | ((with_reducible apply If_dec) <;> intro hc <;> (try (exfalso; omega)))
 | ((with_reducible apply If_any) <;> intro hc)
 | ((with_reducible first | apply PF.mk | apply DrawP.mk); (focus kernel_rfl))
 | ((with_reducible apply Same.mk); (focus rfl); (first | exact trivial | exact rfl))
 | (intro cap hcap)
 | ((fail_if_success (with_reducible first | apply Fin.mk | apply CallP.mk | apply LoopP.mk | apply VC.mk | apply falseMk | apply Round.mk | apply Eq.symm)); conv => whnf))
  refine U32_at l 12 ⟨by omega, hl8, by omega⟩ ⟨⟨rfl, rfl, rfl⟩, rfl, trivial⟩ ?_
  intro v3 b3 hb3
  repeat' (first
 | (with_reducible first | exact True.intro | apply And.intro | apply If_true | apply If_false | apply If_not)
 | ((with_reducible apply VC.mk); (first | trivial | omega | (simp only [inR]; omega) | (exact ⟨rfl, List.prefix_rfl⟩) | (refine ⟨rfl, rfl, rfl, ?_, rfl⟩; (simp; done)) | (focus (repeat' (first | exact True.intro | apply And.intro | rfl | exact Nat.le_of_ble_eq_true rfl)); done) | (simp [inR, Cont.cells]; done) | (simp [inR, Cont.cells]; omega)))
 | ((with_reducible apply If_dec) <;> intro hc <;> (try (exfalso; omega)))
 | ((with_reducible apply If_any) <;> intro hc)
 | ((with_reducible first | apply PF.mk | apply DrawP.mk); (focus kernel_rfl))
 | ((with_reducible apply Same.mk); (focus rfl); (first | exact trivial | exact rfl))
 | (intro cap hcap)
 | ((fail_if_success (with_reducible first | apply Fin.mk | apply CallP.mk | apply LoopP.mk | apply VC.mk | apply falseMk | apply Round.mk | apply Eq.symm)); conv => whnf))
  refine U32_at l 16 ⟨by omega, hl8, by omega⟩ ⟨⟨rfl, rfl, rfl⟩, rfl, trivial⟩ ?_
  intro v4 b4 hb4
  repeat' (first
 | (with_reducible first | exact True.intro | apply And.intro | apply If_true | apply If_false | apply If_not)
 | ((with_reducible apply VC.mk); (first | trivial | omega | (simp only [inR]; omega) | (exact ⟨rfl, List.prefix_rfl⟩) | (refine ⟨rfl, rfl, rfl, ?_, rfl⟩; (simp; done)) | (focus (repeat' (first | exact True.intro | apply And.intro | rfl | exact Nat.le_of_ble_eq_true rfl)); done) | (simp [inR, Cont.cells]; done) | (simp [inR, Cont.cells]; omega)))
 | ((with_reducible apply If_dec) <;> intro hc <;> (try (exfalso; omega)))
 | ((with_reducible apply If_any) <;> intro hc)
 | ((with_reducible first | apply PF.mk | apply DrawP.mk); (focus kernel_rfl))
 | ((with_reducible apply Same.mk); (focus rfl); (first | exact trivial | exact rfl))
 | (intro cap hcap)
 | ((fail_if_success (with_reducible first | apply Fin.mk | apply CallP.mk | apply LoopP.mk | apply VC.mk | apply falseMk | apply Round.mk | apply Eq.symm)); conv => whnf))
  refine U32_at l 20 ⟨by omega, hl8, by omega⟩ ⟨⟨rfl, rfl, rfl⟩, rfl, trivial⟩ ?_
  intro v5 b5 hb5
  repeat' (first
 | (with_reducible first | exact True.intro | apply And.intro | apply If_true | apply If_false | apply If_not)
 | ((with_reducible apply VC.mk); (first | trivial | omega | (simp only [inR]; omega) | (exact ⟨rfl, List.prefix_rfl⟩) | (refine ⟨rfl, rfl, rfl, ?_, rfl⟩; (simp; done)) | (focus (repeat' (first | exact True.intro | apply And.intro | rfl | exact Nat.le_of_ble_eq_true rfl)); done) | (simp [inR, Cont.cells]; done) | (simp [inR, Cont.cells]; omega)))
 | ((with_reducible apply If_dec) <;> intro hc <;> (try (exfalso; omega)))
 | ((with_reducible apply If_any) <;> intro hc)
 | ((with_reducible first | apply PF.mk | apply DrawP.mk); (focus kernel_rfl))
 | ((with_reducible apply Same.mk); (focus rfl); (first | exact trivial | exact rfl))
 | (intro cap hcap)
 | ((fail_if_success (with_reducible first | apply Fin.mk | apply CallP.mk | apply LoopP.mk | apply VC.mk | apply falseMk | apply Round.mk | apply Eq.symm)); conv => whnf))
  refine U32_at l 24 ⟨by omega, hl8, by omega⟩ ⟨⟨rfl, rfl, rfl⟩, rfl, trivial⟩ ?_
  intro v6 b6 hb6
  have m1 : v1 = le4 l 0 := by
    cases b1 with
    | true => exact ((got32_t (p := 0) hb1).1 rfl).1
    | false => exact absurd ((got32_t (p := 0) hb1).2 rfl) (by omega)
  have m2 : v2 = le8 l 4 := by
    cases b2 with
    | true => exact ((got64_t (p := 4) hb2).1 rfl).1
    | false => exact absurd ((got64_t (p := 4) hb2).2 rfl) (by omega)
  have m3 : v3 = le4 l 12 := by
    cases b3 with
    | true => exact ((got32_t (p := 12) hb3).1 rfl).1
    | false => exact absurd ((got32_t (p := 12) hb3).2 rfl) (by omega)
  have m4 : v4 = le4 l 16 := by
    cases b4 with
    | true => exact ((got32_t (p := 16) hb4).1 rfl).1
    | false => exact absurd ((got32_t (p := 16) hb4).2 rfl) (by omega)
  have m5 : v5 = le4 l 20 := by
    cases b5 with
    | true => exact ((got32_t (p := 20) hb5).1 rfl).1
    | false => exact absurd ((got32_t (p := 20) hb5).2 rfl) (by omega)
  have m6 : v6 = le4 l 24 := by
    cases b6 with
    | true => exact ((got32_t (p := 24) hb6).1 rfl).1
    | false => exact absurd ((got32_t (p := 24) hb6).2 rfl) (by omega)
  have u3 := got32_R hb3 hl8
  have u4 := got32_R hb4 hl8
  have u2 := got64_R hb2 hl8
  have no : ¬ pendOk j l → pendB j l = none := fun h => by unfold pendB; rw [if_neg h]
  clear hb1 hb2 hb3 hb4 hb5 hb6
  obtain ⟨z, hz⟩ : ∃ z, z = l.take 24 := ⟨_, rfl⟩
  have hzl : z.length = 24 := by rw [hz]; simp only [List.length_take]; omega
  have hz8 : B8 z := by rw [hz]; exact hl8.take _
  have q1 : List.take (Int.toNat 24 - Int.toNat 0) (List.drop (Int.toNat 0) l) = z := hz.symm
  have q2 : Int.toNat 24 - Int.toNat 0 = z.length := by rw [hzl]; rfl
  repeat' (first
 | (with_reducible first | exact True.intro | apply And.intro | apply If_true | apply If_false | apply If_not)
 | ((with_reducible apply VC.mk); (first | trivial | omega | (simp only [inR]; omega) | (exact ⟨rfl, List.prefix_rfl⟩) | (refine ⟨rfl, rfl, rfl, ?_, rfl⟩; (simp; done)) | (focus (repeat' (first | exact True.intro | apply And.intro | rfl | exact Nat.le_of_ble_eq_true rfl)); done) | (simp [inR, Cont.cells]; done) | (simp [inR, Cont.cells]; omega)))
 | ((with_reducible apply If_dec) <;> intro hc <;> (try (exfalso; omega)))
 | ((with_reducible apply If_any) <;> intro hc)
 | ((with_reducible first | apply PF.mk | apply DrawP.mk); (focus kernel_rfl))
 | ((with_reducible apply Same.mk); (focus rfl); (first | exact trivial | exact rfl))
 | (intro cap hcap)
 | ((fail_if_success (with_reducible first | apply Fin.mk | apply CallP.mk | apply LoopP.mk | apply VC.mk | apply falseMk | apply Round.mk | apply Eq.symm)); conv => whnf))
  · exact bad _ rfl rfl rfl (no (fun h => hc (m1.trans h.1)))
  rw [q1]
  rw [q2]
  refine sum_at z ⟨hz8, by omega⟩ ⟨⟨by decide, rfl, rfl, ⟨rfl, rfl, fun j hj => by match j, hj with | 0, _ => rfl⟩, rfl, Nat.one_pos⟩, trivial⟩ ?_
  obtain ⟨w1, hw1⟩ : ∃ w1, w1 = moreL 0 z := ⟨_, rfl⟩
  rw [← hw1]
  repeat' (first
 | (with_reducible first | exact True.intro | apply And.intro | apply If_true | apply If_false | apply If_not)
 | ((with_reducible apply VC.mk); (first | trivial | omega | (simp only [inR]; omega) | (exact ⟨rfl, List.prefix_rfl⟩) | (refine ⟨rfl, rfl, rfl, ?_, rfl⟩; (simp; done)) | (focus (repeat' (first | exact True.intro | apply And.intro | rfl | exact Nat.le_of_ble_eq_true rfl)); done) | (simp [inR, Cont.cells]; done) | (simp [inR, Cont.cells]; omega)))
 | ((with_reducible apply If_dec) <;> intro hc <;> (try (exfalso; omega)))
 | ((with_reducible apply If_any) <;> intro hc)
 | ((with_reducible first | apply PF.mk | apply DrawP.mk); (focus kernel_rfl))
 | ((with_reducible apply Same.mk); (focus rfl); (first | exact trivial | exact rfl))
 | (intro cap hcap)
 | ((fail_if_success (with_reducible first | apply Fin.mk | apply CallP.mk | apply LoopP.mk | apply VC.mk | apply falseMk | apply Round.mk | apply Eq.symm)); conv => whnf))
  · exact bad _ rfl rfl rfl (no (fun h => hc (by rw [m6, hw1, hz]; exact h.2.1)))
  refine room_at j s.asked 0 1 hj rfl rfl rfl ⟨rfl, trivial⟩ ?_
  intro _ _
  repeat' (first
 | (with_reducible first | exact True.intro | apply And.intro | apply If_true | apply If_false | apply If_not)
 | ((with_reducible apply VC.mk); (first | trivial | omega | (simp only [inR]; omega) | (exact ⟨rfl, List.prefix_rfl⟩) | (refine ⟨rfl, rfl, rfl, ?_, rfl⟩; (simp; done)) | (focus (repeat' (first | exact True.intro | apply And.intro | rfl | exact Nat.le_of_ble_eq_true rfl)); done) | (simp [inR, Cont.cells]; done) | (simp [inR, Cont.cells]; omega)))
 | ((with_reducible apply If_dec) <;> intro hc <;> (try (exfalso; omega)))
 | ((with_reducible apply If_any) <;> intro hc)
 | ((with_reducible first | apply PF.mk | apply DrawP.mk); (focus kernel_rfl))
 | ((with_reducible apply Same.mk); (focus rfl); (first | exact trivial | exact rfl))
 | (intro cap hcap)
 | ((fail_if_success (with_reducible first | apply Fin.mk | apply CallP.mk | apply LoopP.mk | apply VC.mk | apply falseMk | apply Round.mk | apply Eq.symm)); conv => whnf))
  · exact bad _ rfl rfl rfl (no (fun h => absurd h.2.2.1 (by rw [← m4]; omega)))
  refine room_at j s.asked 0 1 hj rfl rfl rfl ⟨rfl, trivial⟩ ?_
  intro _ _
  repeat' (first
 | (with_reducible first | exact True.intro | apply And.intro | apply If_true | apply If_false | apply If_not)
 | ((with_reducible apply VC.mk); (first | trivial | omega | (simp only [inR]; omega) | (exact ⟨rfl, List.prefix_rfl⟩) | (refine ⟨rfl, rfl, rfl, ?_, rfl⟩; (simp; done)) | (focus (repeat' (first | exact True.intro | apply And.intro | rfl | exact Nat.le_of_ble_eq_true rfl)); done) | (simp [inR, Cont.cells]; done) | (simp [inR, Cont.cells]; omega)))
 | ((with_reducible apply If_dec) <;> intro hc <;> (try (exfalso; omega)))
 | ((with_reducible apply If_any) <;> intro hc)
 | ((with_reducible first | apply PF.mk | apply DrawP.mk); (focus kernel_rfl))
 | ((with_reducible apply Same.mk); (focus rfl); (first | exact trivial | exact rfl))
 | (intro cap hcap)
 | ((fail_if_success (with_reducible first | apply Fin.mk | apply CallP.mk | apply LoopP.mk | apply VC.mk | apply falseMk | apply Round.mk | apply Eq.symm)); conv => whnf))
  · exact bad _ rfl rfl rfl (no (fun h => absurd h.2.2.2.1 (by rw [← m3]; omega)))
  obtain ⟨zz, hzz⟩ : ∃ zz, zz = (l.drop 28).take 484 := ⟨_, rfl⟩
  have hzzl : zz.length = 484 := by rw [hzz]; simp only [List.length_take, List.length_drop]; omega
  have q3 : List.take (Int.toNat 512 - Int.toNat 28) (List.drop (Int.toNat 28) l) = zz := hzz.symm
  have q4 : Int.toNat 512 - Int.toNat 28 = zz.length := by rw [hzzl]; rfl
  repeat' (first
 | (with_reducible first | exact True.intro | apply And.intro | apply If_true | apply If_false | apply If_not)
 | ((with_reducible apply VC.mk); (first | trivial | omega | (simp only [inR]; omega) | (exact ⟨rfl, List.prefix_rfl⟩) | (refine ⟨rfl, rfl, rfl, ?_, rfl⟩; (simp; done)) | (focus (repeat' (first | exact True.intro | apply And.intro | rfl | exact Nat.le_of_ble_eq_true rfl)); done) | (simp [inR, Cont.cells]; done) | (simp [inR, Cont.cells]; omega)))
 | ((with_reducible apply If_dec) <;> intro hc <;> (try (exfalso; omega)))
 | ((with_reducible apply If_any) <;> intro hc)
 | ((with_reducible first | apply PF.mk | apply DrawP.mk); (focus kernel_rfl))
 | ((with_reducible apply Same.mk); (focus rfl); (first | exact trivial | exact rfl))
 | (intro cap hcap)
 | ((fail_if_success (with_reducible first | apply Fin.mk | apply CallP.mk | apply LoopP.mk | apply VC.mk | apply falseMk | apply Round.mk | apply Eq.symm)); conv => whnf))
  rw [q3]
  rw [q4]
  refine ozero_at zz (by omega) ⟨⟨rfl, rfl, rfl⟩, trivial⟩ ?_
  intro bz hbz
  have hz0 : bz = true ↔ ∀ x ∈ zz, x = 0 := by
    rw [hbz]
    constructor
    · intro h x hx
      obtain ⟨i, hi, rfl⟩ := List.getElem_of_mem hx
      have := h i hi
      rwa [List.getD_eq_getElem?_getD, List.getElem?_eq_getElem hi, Option.getD_some] at this
    · intro h i hi
      rw [List.getD_eq_getElem?_getD, List.getElem?_eq_getElem hi, Option.getD_some]
      exact h _ (List.getElem_mem hi)
  obtain ⟨body, hbody⟩ : ∃ body, body = (l.drop 512).take v4.toNat := ⟨_, rfl⟩
  have hbl : body.length = v4.toNat := by rw [hbody]; simp only [List.length_take, List.length_drop]; omega
  have hb8 : B8 body := by rw [hbody]; exact (hl8.drop _).take _
  repeat' (first
 | (with_reducible first | exact True.intro | apply And.intro | apply If_true | apply If_false | apply If_not)
 | ((with_reducible apply VC.mk); (first | trivial | omega | (simp only [inR]; omega) | (exact ⟨rfl, List.prefix_rfl⟩) | (refine ⟨rfl, rfl, rfl, ?_, rfl⟩; (simp; done)) | (focus (repeat' (first | exact True.intro | apply And.intro | rfl | exact Nat.le_of_ble_eq_true rfl)); done) | (simp [inR, Cont.cells]; done) | (simp [inR, Cont.cells]; omega)))
 | ((with_reducible apply If_dec) <;> intro hc <;> (try (exfalso; omega)))
 | ((with_reducible apply If_any) <;> intro hc)
 | ((with_reducible first | apply PF.mk | apply DrawP.mk); (focus kernel_rfl))
 | ((with_reducible apply Same.mk); (focus rfl); (first | exact trivial | exact rfl))
 | (intro cap hcap)
 | ((fail_if_success (with_reducible first | apply Fin.mk | apply CallP.mk | apply LoopP.mk | apply VC.mk | apply falseMk | apply Round.mk | apply Eq.symm)); conv => whnf))
  case g => exact bad _ rfl rfl rfl (no (fun h => by rw [hz0.2 (by rw [hzz]; exact h.2.2.2.2.1)] at hc; cases hc))
  have q5 : (512 + v4).toNat - Int.toNat 512 = body.length := by rw [hbl]; omega
  rw [q5]
  have q6 : List.take body.length (List.drop (Int.toNat 512) l) = body := by rw [hbl, hbody]; rfl
  rw [q6]
  refine sum_at body ⟨hb8, by omega⟩ ⟨⟨by decide, rfl, rfl, ⟨rfl, rfl, fun j hj => by match j, hj with | 0, _ => rfl⟩, rfl, Nat.one_pos⟩, trivial⟩ ?_
  obtain ⟨w2, hw2⟩ : ∃ w2, w2 = moreL 0 body := ⟨_, rfl⟩
  rw [← hw2]
  repeat' (first
 | (with_reducible first | exact True.intro | apply And.intro | apply If_true | apply If_false | apply If_not)
 | ((with_reducible apply VC.mk); (first | trivial | omega | (simp only [inR]; omega) | (exact ⟨rfl, List.prefix_rfl⟩) | (refine ⟨rfl, rfl, rfl, ?_, rfl⟩; (simp; done)) | (focus (repeat' (first | exact True.intro | apply And.intro | rfl | exact Nat.le_of_ble_eq_true rfl)); done) | (simp [inR, Cont.cells]; done) | (simp [inR, Cont.cells]; omega)))
 | ((with_reducible apply If_dec) <;> intro hc <;> (try (exfalso; omega)))
 | ((with_reducible apply If_any) <;> intro hc)
 | ((with_reducible first | apply PF.mk | apply DrawP.mk); (focus kernel_rfl))
 | ((with_reducible apply Same.mk); (focus rfl); (first | exact trivial | exact rfl))
 | (intro cap hcap)
 | ((fail_if_success (with_reducible first | apply Fin.mk | apply CallP.mk | apply LoopP.mk | apply VC.mk | apply falseMk | apply Round.mk | apply Eq.symm)); conv => whnf))
  · exact bad _ rfl rfl rfl (no (fun h => hc (by rw [m5, hw2, hbody, m4]; exact h.2.2.2.2.2)))
  have ok : pendOk j l := ⟨by rw [← m1]; omega, by rw [← m6, ← hz, ← hw1]; omega, by rw [← m4]; omega, by rw [← m3]; omega, by rw [← hzz]; exact hz0.1 (by assumption), by rw [← m5, ← m4, ← hbody, ← hw2]; omega⟩
  have e1 : pendB j l = match decL body v3.toNat with
    | some rs => if ∀ r ∈ rs, j.out r.1 r.2.length then some rs else none
    | none => none := by unfold pendB; rw [if_pos ok, ← m4, ← hbody, ← m3]
  refine decode_at body v3 ⟨hb8, by omega, by omega⟩ ⟨⟨rfl, rfl, rfl⟩, rfl, trivial⟩ ?_
  intro d hd
  unfold decRel at hd
  simp only at hd
  obtain ⟨rs, hrs⟩ : ∃ rs, rs = d.2 := ⟨_, rfl⟩
  obtain ⟨er, her⟩ : ∃ er, er = d.1 := ⟨_, rfl⟩
  rw [← hrs, ← her] at hd
  rw [← hrs, ← her]
  repeat' (first
 | (with_reducible first | exact True.intro | apply And.intro | apply If_true | apply If_false | apply If_not)
 | ((with_reducible apply VC.mk); (first | trivial | omega | (simp only [inR]; omega) | (exact ⟨rfl, List.prefix_rfl⟩) | (refine ⟨rfl, rfl, rfl, ?_, rfl⟩; (simp; done)) | (focus (repeat' (first | exact True.intro | apply And.intro | rfl | exact Nat.le_of_ble_eq_true rfl)); done) | (simp [inR, Cont.cells]; done) | (simp [inR, Cont.cells]; omega)))
 | ((with_reducible apply If_dec) <;> intro hc <;> (try (exfalso; omega)))
 | ((with_reducible apply If_any) <;> intro hc)
 | ((with_reducible first | apply PF.mk | apply DrawP.mk); (focus kernel_rfl))
 | ((with_reducible apply Same.mk); (focus rfl); (first | exact trivial | exact rfl))
 | (intro cap hcap)
 | ((fail_if_success (with_reducible first | apply Fin.mk | apply CallP.mk | apply LoopP.mk | apply VC.mk | apply falseMk | apply Round.mk | apply Eq.symm)); conv => whnf))
  · rcases hd with ⟨t1, t2⟩ | ⟨t1, t2, t3⟩
    · exact absurd t1 hc
    · exact bad _ rfl rfl rfl (by rw [e1, t2])
  have hd2 : decL body v3.toNat = some rs := by
    rcases hd with ⟨t1, t2⟩ | ⟨t1, t2, t3⟩
    · exact t2
    · exact absurd (by rw [t1]; decide) hc
  obtain ⟨d1, d2, d3⟩ := decL_ok hb8 hd2
  rw [hd2] at e1
  simp only at e1
  refine LoopP.mk ⟨Nat, fun y => y ≤ rs.length ∧ ∀ q ∈ rs.take y, j.out q.1 q.2.length, fun y => ([(0, .p 0 0 1 0), (9, .v (.int .u64 v2)), (20, .im true 2 rs.length (recsC true rs)), (124, .im true 2 rs.length (recsC true rs)), (125, .v (.int .i64 rs.length)), (126, .v (.int .i64 y))], [j.blk 1, s.asked.pk]), fun y => rs.length - y, 0, ⟨Nat.zero_le _, by simp⟩, Fit.ren [0, 1] [] rfl rfl trivial (two_le rfl (Nat.le_of_ble_eq_true rfl) rfl rfl) ?_, ?_⟩
  · repeat' (first
 | (with_reducible first | exact True.intro | apply And.intro | apply If_true | apply If_false | apply If_not)
 | ((with_reducible apply VC.mk); (first | trivial | omega | (simp only [inR]; omega) | (exact ⟨rfl, List.prefix_rfl⟩) | (refine ⟨rfl, rfl, rfl, ?_, rfl⟩; (simp; done)) | (focus (repeat' (first | exact True.intro | apply And.intro | rfl | exact Nat.le_of_ble_eq_true rfl)); done) | (simp [inR, Cont.cells]; done) | (simp [inR, Cont.cells]; omega)))
 | ((with_reducible apply If_dec) <;> intro hc <;> (try (exfalso; omega)))
 | ((with_reducible apply If_any) <;> intro hc)
 | ((with_reducible first | apply PF.mk | apply DrawP.mk); (focus kernel_rfl))
 | ((with_reducible apply Same.mk); (focus rfl); (first | exact trivial | exact rfl))
 | (intro cap hcap)
 | ((fail_if_success (with_reducible first | apply Fin.mk | apply CallP.mk | apply LoopP.mk | apply VC.mk | apply falseMk | apply Round.mk | apply Eq.symm)); conv => whnf))
  · intro y hy
    obtain ⟨g1, g2⟩ := hy
    have e : ((y : Nat) : Int).toNat = y := Int.toNat_natCast _
    by_cases hlt : y < rs.length
    · have hm : rs.getD y (0, []) ∈ rs := by
        rw [show rs.getD y (0, []) = rs[y] by simp [List.getD_eq_getElem?_getD, hlt]]; exact List.getElem_mem hlt
      have hok := (d3 _ hm).2.2.1
      repeat' (first
 | (with_reducible first | exact True.intro | apply And.intro | apply If_true | apply If_false | apply If_not)
 | ((with_reducible apply VC.mk); (first | trivial | omega | (simp only [inR]; omega) | (exact ⟨rfl, List.prefix_rfl⟩) | (refine ⟨rfl, rfl, rfl, ?_, rfl⟩; (simp; done)) | (focus (repeat' (first | exact True.intro | apply And.intro | rfl | exact Nat.le_of_ble_eq_true rfl)); done) | (simp [inR, Cont.cells]; done) | (simp [inR, Cont.cells]; omega)))
 | ((with_reducible apply If_dec) <;> intro hc <;> (try (exfalso; omega)))
 | ((with_reducible apply If_any) <;> intro hc)
 | ((with_reducible first | apply PF.mk | apply DrawP.mk); (focus kernel_rfl))
 | ((with_reducible apply Same.mk); (focus rfl); (first | exact trivial | exact rfl))
 | (intro cap hcap)
 | ((fail_if_success (with_reducible first | apply Fin.mk | apply CallP.mk | apply LoopP.mk | apply VC.mk | apply falseMk | apply Round.mk | apply Eq.symm)); conv => whnf))
      simp only [e] at *
      have ht : rs.take (y + 1) = rs.take y ++ [rs.getD y (0, [])] := by
        rw [List.take_add_one]; congr 1; simp [List.getD_eq_getElem?_getD, hlt]
      generalize rs.getD y (0, []) = r at *
      refine outside_at j s.asked r.1 (r.2.length : Int) 0 1 hj rfl rfl rfl ⟨rfl, rfl, rfl, trivial⟩ ?_
      intro b hb
      repeat' (first
 | (with_reducible first | exact True.intro | apply And.intro | apply If_true | apply If_false | apply If_not)
 | ((with_reducible apply VC.mk); (first | trivial | omega | (simp only [inR]; omega) | (exact ⟨rfl, List.prefix_rfl⟩) | (refine ⟨rfl, rfl, rfl, ?_, rfl⟩; (simp; done)) | (focus (repeat' (first | exact True.intro | apply And.intro | rfl | exact Nat.le_of_ble_eq_true rfl)); done) | (simp [inR, Cont.cells]; done) | (simp [inR, Cont.cells]; omega)))
 | ((with_reducible apply If_dec) <;> intro hc <;> (try (exfalso; omega)))
 | ((with_reducible apply If_any) <;> intro hc)
 | ((with_reducible first | apply PF.mk | apply DrawP.mk); (focus kernel_rfl))
 | ((with_reducible apply Same.mk); (focus rfl); (first | exact trivial | exact rfl))
 | (intro cap hcap)
 | ((fail_if_success (with_reducible first | apply Fin.mk | apply CallP.mk | apply LoopP.mk | apply VC.mk | apply falseMk | apply Round.mk | apply Eq.symm)); conv => whnf))
      · refine Round.mk ⟨y + 1, ⟨by show y + 1 ≤ _; omega, fun q hq => ?_⟩, by show rs.length - (y + 1) < rs.length - y; omega, Fit.ren [0, 1] [] rfl rfl trivial (two_le rfl (Nat.le_of_ble_eq_true rfl) rfl rfl) ?_⟩
        · rw [ht, List.mem_append] at hq
          rcases hq with hq | hq
          · exact g2 q hq
          · rw [List.mem_singleton] at hq; subst hq; exact hb.1 hc
        · repeat' (first
 | (with_reducible first | exact True.intro | apply And.intro | apply If_true | apply If_false | apply If_not)
 | ((with_reducible apply VC.mk); (first | trivial | omega | (simp only [inR]; omega) | (exact ⟨rfl, List.prefix_rfl⟩) | (refine ⟨rfl, rfl, rfl, ?_, rfl⟩; (simp; done)) | (focus (repeat' (first | exact True.intro | apply And.intro | rfl | exact Nat.le_of_ble_eq_true rfl)); done) | (simp [inR, Cont.cells]; done) | (simp [inR, Cont.cells]; omega)))
 | ((with_reducible apply If_dec) <;> intro hc <;> (try (exfalso; omega)))
 | ((with_reducible apply If_any) <;> intro hc)
 | ((with_reducible first | apply PF.mk | apply DrawP.mk); (focus kernel_rfl))
 | ((with_reducible apply Same.mk); (focus rfl); (first | exact trivial | exact rfl))
 | (intro cap hcap)
 | ((fail_if_success (with_reducible first | apply Fin.mk | apply CallP.mk | apply LoopP.mk | apply VC.mk | apply falseMk | apply Round.mk | apply Eq.symm)); conv => whnf))
      · exact bad _ rfl rfl rfl (by rw [e1, if_neg (fun h => by rw [hb.2 (h r hm)] at hc; cases hc)])
    · have e5 : rs.take y = rs := List.take_of_length_le (by omega)
      rw [e5] at g2
      rw [if_pos g2] at e1
      repeat' (first
 | (with_reducible first | exact True.intro | apply And.intro | apply If_true | apply If_false | apply If_not)
 | ((with_reducible apply VC.mk); (first | trivial | omega | (simp only [inR]; omega) | (exact ⟨rfl, List.prefix_rfl⟩) | (refine ⟨rfl, rfl, rfl, ?_, rfl⟩; (simp; done)) | (focus (repeat' (first | exact True.intro | apply And.intro | rfl | exact Nat.le_of_ble_eq_true rfl)); done) | (simp [inR, Cont.cells]; done) | (simp [inR, Cont.cells]; omega)))
 | ((with_reducible apply If_dec) <;> intro hc <;> (try (exfalso; omega)))
 | ((with_reducible apply If_any) <;> intro hc)
 | ((with_reducible first | apply PF.mk | apply DrawP.mk); (focus kernel_rfl))
 | ((with_reducible apply Same.mk); (focus rfl); (first | exact trivial | exact rfl))
 | (intro cap hcap)
 | ((fail_if_success (with_reducible first | apply Fin.mk | apply CallP.mk | apply LoopP.mk | apply VC.mk | apply falseMk | apply Round.mk | apply Eq.symm)); conv => whnf))
      refine Fin.ren [0, 1] [] (pendV (0, some rs, { j with seq := v2 })) [JR.blk { j with seq := v2 } 1, s.asked.pk] rfl rfl trivial (two_le rfl (Nat.le_of_ble_eq_true rfl) rfl rfl) ⟨⟨VC.mk ⟨rfl, rfl, rfl⟩, VC.mk ⟨rfl, rfl⟩, fun j hj => ⟨VC.mk rfl, ⟨VC.mk ⟨rfl, rfl, rfl⟩, VC.mk ⟨rfl, rfl⟩⟩, trivial⟩⟩, VC.mk rfl, VC.mk rfl, trivial⟩ (hk _ (by rw [e0, e1, ← m2]))
def pendingOk (x : JR × DF × Int) : Prop := x.1.Ok ∧ x.2.1.Ok x.2.2 ∧ x.2.2 ≤ 274877906944 ∧ B8 x.2.1.now
def pendingRel (x : JR × DF × Int) (r : Int × Option (List RecR) × JR) : Prop := r = DF.pend x.1 x.2.1
theorem pending_K : ConOk Go.Proofs.Try.prog 64 (Con.of (JR × DF × Int) (Int × Option (List RecR) × JR) (fun x => [.p 0 0 1 0]) (fun x => [x.1.blk 1, x.2.1.pk]) pendingOk pendingRel (fun x r => pendV r) (fun x r => [JR.blk (r.2.2) 1, DF.pk (x.2.1.asked)])) := by
  refine conOk_rel (T := tab) mix Go.Proofs.Try.func64 (by decide +kernel) (by kernel_rfl) [] p64 (fun n => by rw [Go.Proofs.Try.ntmps64]; exact Nat.le_of_ble_eq_true rfl) (fun x r _ _ => J2.good (pendV_noF r)) (fun x _ => J2.nd) ?_
  intro x k h0 hk
  exact pending_c x.1 x.2.1 x.2.2 k h0 (fun r hr => hk r hr)
theorem pending_at {avs : List AV} {H : List Chunk} {k : K} (j : JR) (s : DF) (n : Int) (a b : Nat) (h0 : j.Ok ∧ s.Ok n ∧ n ≤ 274877906944 ∧ B8 s.now) (hab : nodupN [a, b] = true) (ha0 : nth H a = some (j.blk b)) (hb0 : nth H b = some s.pk) (ha : argsM H [a, b] [.p 0 0 1 0] avs)
    (h : ∀ r : Int × Option (List RecR) × JR, (r = DF.pend j s) → k (pendV r) ((H.set a (JR.blk (r.2.2) b)).set b (DF.pk (s.asked)))) : CallP Go.Proofs.Try.prog 64 avs H k :=
  CallP.mk ⟨_, pending_K.real, Con.spec pending_K, (j, s, n), [a, b], ⟨h0, hab, ⟨ha0, hb0, trivial⟩, ha⟩, fun r hr => (numK_eq _ _).mpr (by simpa [putAll, AV.ren, rens, Cont.ren, Chunk.ren, DF.pk, JR.blk, fren, nth, pendV_ren] using h r hr)⟩
end Go.Proofs.Ytjccknmgmommcaa.Sx

