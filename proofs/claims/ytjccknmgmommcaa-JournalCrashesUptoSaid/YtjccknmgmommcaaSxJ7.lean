import Derived.Test.YtjccknmgmommcaaSxJ6
import Derived.Test.YtjccknmgmommcaaSxL5
set_option linter.unusedVariables false
set_option linter.unusedSimpArgs false
set_option maxRecDepth 10000
namespace Go.Proofs.Ytjccknmgmommcaa.Sx
open Go.RowKit Go.Proofs.Ytjccknmgmommcaa.Sx.Tb
/-! ### Replay, New -/
theorem cost_wrs_le : ∀ (rs : List RecR), cost (wrs rs) ≤ (encL rs).length
  | [] => Int.le_refl _
  | r :: rs => by
    have := cost_wrs_le rs
    have e : encL (r :: rs) = enc1 r ++ encL rs := rfl
    have e2 : wrs (r :: rs) = .wr r.1 r.2 :: wrs rs := rfl
    rw [e, e2, cost, List.length_append, enc1_length]
    show 1 + (r.2.length : Int) + cost (wrs rs) ≤ _
    omega
theorem pendB_ok {j : JR} {b : List Int} (hb : B8 b) {rs : List RecR} (h : pendB j b = some rs) : (encL rs).length ≤ b.length ∧ (rs.length : Int) ≤ (j.size - 512) / 12 ∧ ∀ r ∈ rs, j.out r.1 r.2.length ∧ r.2.length ≤ b.length ∧ B8 r.2 := by
  unfold pendB at h
  split at h
  · rename_i hp
    cases hd : decL ((b.drop 512).take (le4 b 16).toNat) (le4 b 12).toNat with
    | none => rw [hd] at h; cases h
    | some u =>
      rw [hd] at h
      simp only at h
      split at h
      · rename_i hu
        cases h
        obtain ⟨d1, d2, d3⟩ := decL_ok ((hb.drop _).take _) hd
        have hl : ((b.drop 512).take (le4 b 16).toNat).length ≤ b.length := by simp only [List.length_take, List.length_drop]; omega
        have h12 := hp.2.2.2.1
        have h0 : 0 ≤ le4 b 12 := (leV_bound (hb.drop _) 4).1
        exact ⟨by omega, by omega, fun r hr => ⟨hu r hr, by have := (d3 r hr).2.2.1; omega, (d3 r hr).2.2.2⟩⟩
      · cases h
  · cases h
theorem DF.pend_ok {j : JR} {s : DF} (hs : B8 s.now) {rs : List RecR} (h : (s.pend j).2.1 = some rs) : pendB j (j.part s) = some rs ∧ s.pend j = (0, some rs, { j with seq := le8 (j.part s) 4 }) ∧ ¬ s.refB = true ∧ j.pos + j.size ≤ s.now.length := by
  unfold DF.pend at h
  split at h
  · cases h
  · rename_i h1
    split at h
    · cases h
    · rename_i h2
      cases hp : pendB j (j.part s) with
      | none => rw [hp] at h; cases h
      | some u =>
        rw [hp] at h
        cases h
        refine ⟨rfl, ?_, h1, by omega⟩
        unfold DF.pend
        rw [if_neg h1, if_neg h2, hp]
def applyOps (j : JR) (z : List Int) (rs : List RecR) : List FOp := wrs rs ++ [.fl, .wr j.pos z, .fl]
/-- A replay: how many, an error's number, the journal, the file. -/
def DF.replay (j : JR) (z : List Int) (s : DF) : Int × Int × JR × DF :=
  match (s.pend j).2.1 with
  | some rs => (rs.length, (s.asked.run (applyOps j z rs)).1, (s.pend j).2.2, (s.asked.run (applyOps j z rs)).2)
  | none => (0, (s.pend j).1, j, s.asked)
theorem DF.pend_none {j : JR} {s : DF} (h : (s.pend j).2.1 = none) : (s.pend j).2.2 = j := by
  unfold DF.pend at *
  split
  · rfl
  · rename_i h1
    rw [if_neg h1] at h
    split
    · rfl
    · rename_i h2
      rw [if_neg h2] at h
      cases hp : pendB j (j.part s) with
      | none => rfl
      | some u => rw [hp] at h; cases h
set_option maxHeartbeats 16000000 in
theorem replay_c (j : JR) (s : DF) (n : Int) (z : List Int) (k : K) (h0 : j.Ok ∧ s.Ok n ∧ n ≤ 68719476736 ∧ B8 s.now ∧ z = List.replicate 512 0) (hk : ∀ x, x = s.replay j z → k (.tup [.v (.int .i64 x.1), .v (.int .i64 x.2.1)]) [x.2.2.1.blk 1, x.2.2.2.pk]) : evFunc tab [] [] Go.Proofs.Try.f63 [.p 0 0 1 0] [j.blk 1, s.pk] k := by
  obtain ⟨hj, h7, h8, h9, hz⟩ := h0
  repeat' (first
 | (with_reducible first | exact True.intro | apply And.intro | apply If_true | apply If_false | apply If_not)
 | ((with_reducible apply VC.mk); (first | trivial | omega | (simp only [inR]; omega) | (exact ⟨rfl, List.prefix_rfl⟩) | (refine ⟨rfl, rfl, rfl, ?_, rfl⟩; (simp; done)) | (focus (repeat' (first | exact True.intro | apply And.intro | rfl | exact Nat.le_of_ble_eq_true rfl)); done) | (simp [inR, Cont.cells]; done) | (simp [inR, Cont.cells]; omega)))
 | ((with_reducible apply If_dec) <;> intro hc <;> (try (exfalso; omega)))
 | ((with_reducible apply If_any) <;> intro hc)
 | ((with_reducible first | apply PF.mk | apply DrawP.mk); (focus kernel_rfl))
 | ((with_reducible apply Same.mk); (focus rfl); (first | exact trivial | exact rfl))
 | (intro cap hcap)
 | ((fail_if_success (with_reducible first | apply Fin.mk | apply CallP.mk | apply LoopP.mk | apply VC.mk | apply falseMk | apply Round.mk | apply Eq.symm)); conv => whnf))
  refine pending_at j s n 0 1 ⟨hj, h7, by omega, h9⟩ rfl rfl rfl ⟨rfl, trivial⟩ ?_
  intro p hp
  unfold pendV
  have none : p.2.1 = none → (0, p.1, p.2.2, s.asked) = s.replay j z := fun h => by
    rw [hp] at h
    unfold DF.replay
    rw [h, hp, DF.pend_none h]
  have e12 : p.1 ≠ 0 → p.2.1 = Option.none := fun h => by
    cases hq : p.2.1 with
    | none => rfl
    | some rs =>
      rw [hp] at hq
      obtain ⟨-, q2, -⟩ := DF.pend_ok h9 hq
      rw [hp, q2] at h
      exact absurd rfl h
  repeat' (first
 | (with_reducible first | exact True.intro | apply And.intro | apply If_true | apply If_false | apply If_not)
 | ((with_reducible apply VC.mk); (first | trivial | omega | (simp only [inR]; omega) | (exact ⟨rfl, List.prefix_rfl⟩) | (refine ⟨rfl, rfl, rfl, ?_, rfl⟩; (simp; done)) | (focus (repeat' (first | exact True.intro | apply And.intro | rfl | exact Nat.le_of_ble_eq_true rfl)); done) | (simp [inR, Cont.cells]; done) | (simp [inR, Cont.cells]; omega)))
 | ((with_reducible apply If_dec) <;> intro hc <;> (try (exfalso; omega)))
 | ((with_reducible apply If_any) <;> intro hc)
 | ((with_reducible first | apply PF.mk | apply DrawP.mk); (focus kernel_rfl))
 | ((with_reducible apply Same.mk); (focus rfl); (first | exact trivial | exact rfl))
 | (intro cap hcap)
 | ((fail_if_success (with_reducible first | apply Fin.mk | apply CallP.mk | apply LoopP.mk | apply VC.mk | apply falseMk | apply Round.mk | apply Eq.symm)); conv => whnf))
  · exact J2.fin (j := p.2.2) (s := s.asked) rfl rfl rfl (hk _ (none (e12 hc)))
  · obtain ⟨rs, hrs⟩ : ∃ rs, p.2.1 = some rs := Option.isSome_iff_exists.1 hc
    have hq : (s.pend j).2.1 = some rs := by rw [← hp]; exact hrs
    obtain ⟨q1, q2, q3, q4⟩ := DF.pend_ok h9 hq
    have hb8 : B8 (j.part s) := (h9.drop _).take _
    obtain ⟨o1, o2, o3⟩ := pendB_ok hb8 q1
    obtain ⟨j1, j2, j3, j4, j5, j6⟩ := hj
    have hpl : (j.part s).length ≤ 4194304 := by unfold JR.part; simp only [List.length_take, List.length_drop]; omega
    have hcost := cost_wrs_le rs
    have hc0 := cost_nonneg (wrs rs)
    rw [q2] at hp
    subst hp
    simp only [Option.getD_some]
    have hsq : 0 ≤ le8 (j.part s) 4 ∧ le8 (j.part s) 4 < 18446744073709551616 := leV_bound (hb8.drop _) 8
    refine apply_at { j with seq := le8 (j.part s) 4 } s.asked (n + 1) z rs 0 1 ⟨⟨j1, j2, j3, j4, hsq.1, hsq.2⟩, h7.ask, by omega, by omega, fun r hr => by have := (o3 r hr).2.1; omega, by omega, hz⟩ rfl rfl rfl ⟨rfl, ⟨rfl, rfl, ⟨rfl, rfl, fun _ _ => rfl⟩⟩, trivial⟩ ?_
    intro x hx
    repeat' (first
 | (with_reducible first | exact True.intro | apply And.intro | apply If_true | apply If_false | apply If_not)
 | ((with_reducible apply VC.mk); (first | trivial | omega | (simp only [inR]; omega) | (exact ⟨rfl, List.prefix_rfl⟩) | (refine ⟨rfl, rfl, rfl, ?_, rfl⟩; (simp; done)) | (focus (repeat' (first | exact True.intro | apply And.intro | rfl | exact Nat.le_of_ble_eq_true rfl)); done) | (simp [inR, Cont.cells]; done) | (simp [inR, Cont.cells]; omega)))
 | ((with_reducible apply If_dec) <;> intro hc <;> (try (exfalso; omega)))
 | ((with_reducible apply If_any) <;> intro hc)
 | ((with_reducible first | apply PF.mk | apply DrawP.mk); (focus kernel_rfl))
 | ((with_reducible apply Same.mk); (focus rfl); (first | exact trivial | exact rfl))
 | (intro cap hcap)
 | ((fail_if_success (with_reducible first | apply Fin.mk | apply CallP.mk | apply LoopP.mk | apply VC.mk | apply falseMk | apply Round.mk | apply Eq.symm)); conv => whnf))
    have e : ((rs.length : Int), x.1, ({ j with seq := le8 (j.part s) 4 } : JR), x.2) = s.replay j z := by
      unfold DF.replay applyOps
      rw [q2]
      simp only
      rw [hx]
    exact J2.fin (j := { j with seq := le8 (j.part s) 4 }) (s := x.2) rfl rfl rfl (hk _ e)
  · exact J2.fin (j := p.2.2) (s := s.asked) rfl rfl rfl (hk _ (none (Option.isSome_eq_false_iff.1 hc |> Option.isNone_iff_eq_none.1)))
def replayOk (x : JR × DF × Int × List Int) : Prop := x.1.Ok ∧ x.2.1.Ok x.2.2.1 ∧ x.2.2.1 ≤ 68719476736 ∧ B8 x.2.1.now ∧ x.2.2.2 = List.replicate 512 0
def replayRel (x : JR × DF × Int × List Int) (r : Int × Int × JR × DF) : Prop := r = DF.replay x.1 x.2.2.2 x.2.1
theorem replay_K : ConOk Go.Proofs.Try.prog 63 (Con.of (JR × DF × Int × List Int) (Int × Int × JR × DF) (fun x => [.p 0 0 1 0]) (fun x => [x.1.blk 1, x.2.1.pk]) replayOk replayRel (fun x r => .tup [.v (.int .i64 r.1), .v (.int .i64 r.2.1)]) (fun x r => [JR.blk (r.2.2.1) 1, DF.pk (r.2.2.2)])) := by
  refine conOk_rel (T := tab) mix Go.Proofs.Try.func63 (by decide +kernel) (by kernel_rfl) [] [] (fun n => by rw [Go.Proofs.Try.ntmps63]; exact Nat.le_of_ble_eq_true rfl) (fun x r _ _ => J2.good (by simp [AV.noF, noFs, Cont.noF])) (fun x _ => J2.nd) ?_
  intro x k h0 hk
  exact replay_c x.1 x.2.1 x.2.2.1 x.2.2.2 k h0 (fun r hr => hk r hr)
theorem replay_at {avs : List AV} {H : List Chunk} {k : K} (j : JR) (s : DF) (n : Int) (z : List Int) (a b : Nat) (h0 : j.Ok ∧ s.Ok n ∧ n ≤ 68719476736 ∧ B8 s.now ∧ z = List.replicate 512 0) (hab : nodupN [a, b] = true) (ha0 : nth H a = some (j.blk b)) (hb0 : nth H b = some s.pk) (ha : argsM H [a, b] [.p 0 0 1 0] avs)
    (h : ∀ r : Int × Int × JR × DF, (r = DF.replay j z s) → k (.tup [.v (.int .i64 r.1), .v (.int .i64 r.2.1)]) ((H.set a (JR.blk (r.2.2.1) b)).set b (DF.pk (r.2.2.2)))) : CallP Go.Proofs.Try.prog 63 avs H k :=
  CallP.mk ⟨_, replay_K.real, Con.spec replay_K, (j, s, n, z), [a, b], ⟨h0, hab, ⟨ha0, hb0, trivial⟩, ha⟩, fun r hr => (numK_eq _ _).mpr (by simpa [putAll, AV.ren, rens, Cont.ren, Chunk.ren, DF.pk, JR.blk, fren, nth] using h r hr)⟩
def newE (s : DF) (pos size : Int) : Int := if pos < 0 ∨ pos % 512 ≠ 0 ∨ size % 512 ≠ 0 then 19 else if size < 1024 ∨ (s.now.length : Int) < pos ∨ (s.now.length : Int) - pos < size then 4 else 0
theorem tmod512 (a : Int) : a.tmod 512 = 0 ↔ a % 512 = 0 := by
  rw [← Int.dvd_iff_tmod_eq_zero, ← Int.dvd_iff_emod_eq_zero]
set_option maxHeartbeats 16000000 in
theorem jnew_c (s : DF) (pos size : Int) (k : K) (h0 : s.now.length ≤ 4194304 ∧ inR .i64 size ∧ inR .i64 pos) (hk1 : newE s pos size ≠ 0 → k (.tup [.v (.pointer none), .v (.int .i64 (newE s pos size))]) [s.pk]) (hk2 : newE s pos size = 0 → k (.tup [.p 1 0 1 0, .v (.int .i64 0)]) [s.pk, JR.blk ⟨pos, size, 0⟩ 0]) : evFunc tab [16, 21] [] Go.Proofs.Try.f62 [.p 0 0 1 0, .v (.int .i64 pos), .v (.int .i64 size)] [s.pk] k := by
  obtain ⟨h1, h2, h3⟩ := h0
  have t1 := tmod512 pos
  have t2 := tmod512 size
  repeat' (first
 | (with_reducible first | exact True.intro | apply And.intro | apply If_true | apply If_false | apply If_not)
 | ((with_reducible apply VC.mk); (first | trivial | omega | (simp only [inR]; omega) | (exact ⟨rfl, List.prefix_rfl⟩) | (refine ⟨rfl, rfl, rfl, ?_, rfl⟩; (simp; done)) | (focus (repeat' (first | exact True.intro | apply And.intro | rfl | exact Nat.le_of_ble_eq_true rfl)); done) | (simp [inR, Cont.cells]; done) | (simp [inR, Cont.cells]; omega)))
 | ((with_reducible apply If_dec) <;> intro hc <;> (try (exfalso; omega)))
 | ((with_reducible apply If_any) <;> intro hc)
 | ((with_reducible first | apply PF.mk | apply DrawP.mk); (focus kernel_rfl))
 | ((with_reducible apply Same.mk); (focus rfl); (first | exact trivial | exact rfl))
 | (intro cap hcap)
 | ((fail_if_success (with_reducible first | apply Fin.mk | apply CallP.mk | apply LoopP.mk | apply VC.mk | apply falseMk | apply Round.mk | apply Eq.symm)); conv => whnf))
  · have e : newE s pos size = 19 := by unfold newE; rw [if_pos (.inl hc)]
    exact Fin.same (by rw [← e]; exact hk1 (by rw [e]; decide))
  · have e : newE s pos size = 19 := by unfold newE; rw [if_pos (.inr (.inl (fun h => hc (t1.2 h))))]
    exact Fin.same (by rw [← e]; exact hk1 (by rw [e]; decide))
  · have e : newE s pos size = 19 := by unfold newE; rw [if_pos (.inr (.inr (fun h => hc (t2.2 h))))]
    exact Fin.same (by rw [← e]; exact hk1 (by rw [e]; decide))
  all_goals have c0 : ¬ (pos < 0 ∨ pos % 512 ≠ 0 ∨ size % 512 ≠ 0) := (by have y1 := t1.1 (Decidable.not_not.mp (by assumption)); have y2 := t2.1 (Decidable.not_not.mp (by assumption)); omega)
  · have e : newE s pos size = 4 := by unfold newE; rw [if_neg c0, if_pos (.inl hc)]
    exact Fin.same (by rw [← e]; exact hk1 (by rw [e]; decide))
  refine len_at s 0 (by omega) rfl ⟨rfl, trivial⟩ (fun _ => ?_)
  repeat' (first
 | (with_reducible first | exact True.intro | apply And.intro | apply If_true | apply If_false | apply If_not)
 | ((with_reducible apply VC.mk); (first | trivial | omega | (simp only [inR]; omega) | (exact ⟨rfl, List.prefix_rfl⟩) | (refine ⟨rfl, rfl, rfl, ?_, rfl⟩; (simp; done)) | (focus (repeat' (first | exact True.intro | apply And.intro | rfl | exact Nat.le_of_ble_eq_true rfl)); done) | (simp [inR, Cont.cells]; done) | (simp [inR, Cont.cells]; omega)))
 | ((with_reducible apply If_dec) <;> intro hc <;> (try (exfalso; omega)))
 | ((with_reducible apply If_any) <;> intro hc)
 | ((with_reducible first | apply PF.mk | apply DrawP.mk); (focus kernel_rfl))
 | ((with_reducible apply Same.mk); (focus rfl); (first | exact trivial | exact rfl))
 | (intro cap hcap)
 | ((fail_if_success (with_reducible first | apply Fin.mk | apply CallP.mk | apply LoopP.mk | apply VC.mk | apply falseMk | apply Round.mk | apply Eq.symm)); conv => whnf))
  · have e : newE s pos size = 4 := by unfold newE; rw [if_neg c0, if_pos (.inr (.inl hc))]
    exact Fin.same (by rw [← e]; exact hk1 (by rw [e]; decide))
  refine len_at s 0 (by omega) rfl ⟨rfl, trivial⟩ (fun _ => ?_)
  repeat' (first
 | (with_reducible first | exact True.intro | apply And.intro | apply If_true | apply If_false | apply If_not)
 | ((with_reducible apply VC.mk); (first | trivial | omega | (simp only [inR]; omega) | (exact ⟨rfl, List.prefix_rfl⟩) | (refine ⟨rfl, rfl, rfl, ?_, rfl⟩; (simp; done)) | (focus (repeat' (first | exact True.intro | apply And.intro | rfl | exact Nat.le_of_ble_eq_true rfl)); done) | (simp [inR, Cont.cells]; done) | (simp [inR, Cont.cells]; omega)))
 | ((with_reducible apply If_dec) <;> intro hc <;> (try (exfalso; omega)))
 | ((with_reducible apply If_any) <;> intro hc)
 | ((with_reducible first | apply PF.mk | apply DrawP.mk); (focus kernel_rfl))
 | ((with_reducible apply Same.mk); (focus rfl); (first | exact trivial | exact rfl))
 | (intro cap hcap)
 | ((fail_if_success (with_reducible first | apply Fin.mk | apply CallP.mk | apply LoopP.mk | apply VC.mk | apply falseMk | apply Round.mk | apply Eq.symm)); conv => whnf))
  · have e : newE s pos size = 4 := by unfold newE; rw [if_neg c0, if_pos (.inr (.inr hc))]
    exact Fin.same (by rw [← e]; exact hk1 (by rw [e]; decide))
  · have e : newE s pos size = 0 := by unfold newE; rw [if_neg c0, if_neg (by omega)]
    exact Fin.same (hk2 e)
end Go.Proofs.Ytjccknmgmommcaa.Sx

