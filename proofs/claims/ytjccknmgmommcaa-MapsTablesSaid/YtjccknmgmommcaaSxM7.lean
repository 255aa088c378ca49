import Derived.Test.YtjccknmgmommcaaSxM6
set_option linter.unusedVariables false
set_option linter.unusedSimpArgs false
set_option maxRecDepth 10000
namespace Go.Proofs.Ytjccknmgmommcaa.Sx
open Go.RowKit Go.Proofs.Ytjccknmgmommcaa.Sx.Tb
/-! ### Set -/
def SetRel (t : TR) (now : List Int) (h : HD) (n i : Int) (x : ER) (r : Int × TR × Nat) : Prop :=
  ¬ (0 ≤ i ∧ i < h.clus / 8) ∧ r = (4, t, 0) ∨ (0 ≤ i ∧ i < h.clus / 8) ∧ (encV x).2 ≠ 0 ∧ r = ((encV x).2, t, 0) ∨ (0 ≤ i ∧ i < h.clus / 8) ∧ (encV x).2 = 0 ∧ r.1 = 0 ∧ r.2.1 = t.put now (n * h.clus + 8 * i).toNat (leB 8 (encV x).1) ∧ r.2.2 ≤ 8
theorem encV_b (x : ER) : 0 ≤ (encV x).1 ∧ (encV x).1 < 18446744073709551616 := by
  unfold encV
  repeat' split
  all_goals simp only
  all_goals omega
set_option maxHeartbeats 8000000 in
theorem mset_c (t : TR) (j : JR) (s : DF) (h : HD) (n i : Int) (x : ER) (k : K) (h0 : TabOk t s h n ∧ inR .i64 i ∧ inR .i64 x.kind ∧ inR .i64 x.cl ∧ t.over = false) (hk : ∀ r : Int × TR × Nat, SetRel t s.now h n i x r → k (.v (.int .i64 r.1)) (tp6 r.2.1 j (s.tick r.2.2) h n)) : evFunc tab [] p40 Go.Proofs.Try.f40 [.p 5 0 1 0, .v (.int .i64 i), .agg [.v (.int .i64 x.kind), .v (.int .i64 x.cl), .v (.bool x.own)]] (tp6 t j s h n) k := by
  obtain ⟨⟨h1, h2, h3, h4, ⟨n1, n2, n3⟩, h6, h7, h8⟩, h9, hx1, hx2, hov⟩ := h0
  have s0 : s.tick 0 = s := by unfold DF.tick; simp
  have cb := h.clus_b
  have nb : 512 ≤ n * h.clus ∧ n * h.clus + h.clus ≤ 4194304 := by
    have e : (n + 1) * h.clus = n * h.clus + h.clus := by rw [Int.add_mul]; omega
    have e2 : 1 * h.clus ≤ n * h.clus := Int.mul_le_mul_of_nonneg_right n1 (by omega)
    omega
  have bad : ∀ e : Int, SetRel t s.now h n i x (e, t, 0) → k (.v (.int .i64 e)) (tp6 t j s h n) := by
    intro e hb
    have := hk (e, t, 0) hb
    rw [show ((e, t, 0) : Int × TR × Nat).2.2 = 0 from rfl, s0] at this
    exact this
  repeat' (first
 | (with_reducible first | exact True.intro | apply And.intro | apply If_true | apply If_false | apply If_not)
 | ((with_reducible apply VC.mk); (first | trivial | omega | (simp only [inR]; omega) | (exact ⟨rfl, List.prefix_rfl⟩) | (refine ⟨rfl, rfl, rfl, ?_, rfl⟩; (simp; done)) | (focus (repeat' (first | exact True.intro | apply And.intro | rfl | exact Nat.le_of_ble_eq_true rfl)); done) | (simp [inR, Cont.cells]; done) | (simp [inR, Cont.cells]; omega)))
 | ((with_reducible apply If_dec) <;> intro hc <;> (try (exfalso; omega)))
 | ((with_reducible apply If_any) <;> intro hc)
 | ((with_reducible first | apply PF.mk | apply DrawP.mk); (focus kernel_rfl))
 | ((with_reducible apply Same.mk); (focus rfl); (first | exact trivial | exact rfl))
 | (intro cap hcap)
 | ((fail_if_success (with_reducible first | apply Fin.mk | apply CallP.mk | apply LoopP.mk | apply VC.mk | apply falseMk | apply Round.mk | apply LookP.mk | apply RangeP.mk | apply NextP.mk | apply EntryP.mk | apply Eq.symm)); conv => whnf))
  · exact T6.fin rfl rfl rfl rfl rfl rfl (bad 4 (.inl ⟨by omega, rfl⟩))
  refine hentries_at h h3 ⟨⟨rfl, rfl, rfl, rfl, rfl, trivial⟩, trivial⟩ ?_
  rintro _ rfl
  repeat' (first
 | (with_reducible first | exact True.intro | apply And.intro | apply If_true | apply If_false | apply If_not)
 | ((with_reducible apply VC.mk); (first | trivial | omega | (simp only [inR]; omega) | (exact ⟨rfl, List.prefix_rfl⟩) | (refine ⟨rfl, rfl, rfl, ?_, rfl⟩; (simp; done)) | (focus (repeat' (first | exact True.intro | apply And.intro | rfl | exact Nat.le_of_ble_eq_true rfl)); done) | (simp [inR, Cont.cells]; done) | (simp [inR, Cont.cells]; omega)))
 | ((with_reducible apply If_dec) <;> intro hc <;> (try (exfalso; omega)))
 | ((with_reducible apply If_any) <;> intro hc)
 | ((with_reducible first | apply PF.mk | apply DrawP.mk); (focus kernel_rfl))
 | ((with_reducible apply Same.mk); (focus rfl); (first | exact trivial | exact rfl))
 | (intro cap hcap)
 | ((fail_if_success (with_reducible first | apply Fin.mk | apply CallP.mk | apply LoopP.mk | apply VC.mk | apply falseMk | apply Round.mk | apply LookP.mk | apply RangeP.mk | apply NextP.mk | apply EntryP.mk | apply Eq.symm)); conv => whnf))
  · exact T6.fin rfl rfl rfl rfl rfl rfl (bad 4 (.inl ⟨by omega, rfl⟩))
  have hin : 0 ≤ i ∧ i < h.clus / 8 := by omega
  refine menc_at x ⟨hx1, hx2⟩ ⟨⟨rfl, rfl, rfl, trivial⟩, trivial⟩ ?_
  rintro ⟨w, e⟩ hw
  have hw1 : (encV x).1 = w := by rw [← hw]
  have hw2 : (encV x).2 = e := by rw [← hw]
  have eb := encV_b x
  rw [hw1] at eb
  dsimp only
  repeat' (first
 | (with_reducible first | exact True.intro | apply And.intro | apply If_true | apply If_false | apply If_not)
 | ((with_reducible apply VC.mk); (first | trivial | omega | (simp only [inR]; omega) | (exact ⟨rfl, List.prefix_rfl⟩) | (refine ⟨rfl, rfl, rfl, ?_, rfl⟩; (simp; done)) | (focus (repeat' (first | exact True.intro | apply And.intro | rfl | exact Nat.le_of_ble_eq_true rfl)); done) | (simp [inR, Cont.cells]; done) | (simp [inR, Cont.cells]; omega)))
 | ((with_reducible apply If_dec) <;> intro hc <;> (try (exfalso; omega)))
 | ((with_reducible apply If_any) <;> intro hc)
 | ((with_reducible first | apply PF.mk | apply DrawP.mk); (focus kernel_rfl))
 | ((with_reducible apply Same.mk); (focus rfl); (first | exact trivial | exact rfl))
 | (intro cap hcap)
 | ((fail_if_success (with_reducible first | apply Fin.mk | apply CallP.mk | apply LoopP.mk | apply VC.mk | apply falseMk | apply Round.mk | apply LookP.mk | apply RangeP.mk | apply NextP.mk | apply EntryP.mk | apply Eq.symm)); conv => whnf))
  · exact T6.fin rfl rfl rfl rfl rfl rfl (bad e (.inr (.inl ⟨hin, by rw [hw2]; exact hc, by rw [hw2]⟩)))
  have hc : e = 0 := Decidable.not_not.1 hc
  repeat' (first
 | (with_reducible first | exact True.intro | apply And.intro | apply If_true | apply If_false | apply If_not)
 | ((with_reducible apply VC.mk); (first | trivial | omega | (simp only [inR]; omega) | (exact ⟨rfl, List.prefix_rfl⟩) | (refine ⟨rfl, rfl, rfl, ?_, rfl⟩; (simp; done)) | (focus (repeat' (first | exact True.intro | apply And.intro | rfl | exact Nat.le_of_ble_eq_true rfl)); done) | (simp [inR, Cont.cells]; done) | (simp [inR, Cont.cells]; omega)))
 | ((with_reducible apply If_dec) <;> intro hc <;> (try (exfalso; omega)))
 | ((with_reducible apply If_any) <;> intro hc)
 | ((with_reducible first | apply PF.mk | apply DrawP.mk); (focus kernel_rfl))
 | ((with_reducible apply Same.mk); (focus rfl); (first | exact trivial | exact rfl))
 | (intro cap hcap)
 | ((fail_if_success (with_reducible first | apply Fin.mk | apply CallP.mk | apply LoopP.mk | apply VC.mk | apply falseMk | apply Round.mk | apply LookP.mk | apply RangeP.mk | apply NextP.mk | apply EntryP.mk | apply Eq.symm)); conv => whnf))
  refine Put64_at (List.replicate 8 0) 8 0 w 7 ⟨by decide, by decide, by decide⟩ rfl ⟨rfl, rfl, rfl, trivial⟩ ?_
  have eq : putB (List.replicate 8 0) (0 : Int).toNat 8 w = leB 8 w := by
    rw [putB_eq _ _ _ _ (by decide)]
    show [] ++ leB 8 w ++ [] = _
    simp
  rw [eq]
  obtain ⟨p, hp⟩ : ∃ p, p = leB 8 w := ⟨_, rfl⟩
  have hpl : p.length = 8 := by rw [hp]; exact leB_length ..
  rw [← hp]
  repeat' (first
 | (with_reducible first | exact True.intro | apply And.intro | apply If_true | apply If_false | apply If_not)
 | ((with_reducible apply VC.mk); (first | trivial | omega | (simp only [inR]; omega) | (exact ⟨rfl, List.prefix_rfl⟩) | (refine ⟨rfl, rfl, rfl, ?_, rfl⟩; (simp; done)) | (focus (repeat' (first | exact True.intro | apply And.intro | rfl | exact Nat.le_of_ble_eq_true rfl)); done) | (simp [inR, Cont.cells]; done) | (simp [inR, Cont.cells]; omega)))
 | ((with_reducible apply If_dec) <;> intro hc <;> (try (exfalso; omega)))
 | ((with_reducible apply If_any) <;> intro hc)
 | ((with_reducible first | apply PF.mk | apply DrawP.mk); (focus kernel_rfl))
 | ((with_reducible apply Same.mk); (focus rfl); (first | exact trivial | exact rfl))
 | (intro cap hcap)
 | ((fail_if_success (with_reducible first | apply Fin.mk | apply CallP.mk | apply LoopP.mk | apply VC.mk | apply falseMk | apply Round.mk | apply LookP.mk | apply RangeP.mk | apply NextP.mk | apply EntryP.mk | apply Eq.symm)); conv => whnf))
  refine hclus_at h h3 ⟨⟨rfl, rfl, rfl, rfl, rfl, trivial⟩, trivial⟩ ?_
  rintro _ rfl
  repeat' (first
 | (with_reducible first | exact True.intro | apply And.intro | apply If_true | apply If_false | apply If_not)
 | ((with_reducible apply VC.mk); (first | trivial | omega | (simp only [inR]; omega) | (exact ⟨rfl, List.prefix_rfl⟩) | (refine ⟨rfl, rfl, rfl, ?_, rfl⟩; (simp; done)) | (focus (repeat' (first | exact True.intro | apply And.intro | rfl | exact Nat.le_of_ble_eq_true rfl)); done) | (simp [inR, Cont.cells]; done) | (simp [inR, Cont.cells]; omega)))
 | ((with_reducible apply If_dec) <;> intro hc <;> (try (exfalso; omega)))
 | ((with_reducible apply If_any) <;> intro hc)
 | ((with_reducible first | apply PF.mk | apply DrawP.mk); (focus kernel_rfl))
 | ((with_reducible apply Same.mk); (focus rfl); (first | exact trivial | exact rfl))
 | (intro cap hcap)
 | ((fail_if_success (with_reducible first | apply Fin.mk | apply CallP.mk | apply LoopP.mk | apply VC.mk | apply falseMk | apply Round.mk | apply LookP.mk | apply RangeP.mk | apply NextP.mk | apply EntryP.mk | apply Eq.symm)); conv => whnf))
  refine tput_at t j s (n * h.clus + 8 * i) p 0 1 2 3 4 ⟨h1, h2, ⟨by simp only [inR]; omega, by omega⟩, h6, h7, h8⟩ rfl rfl rfl rfl rfl rfl ⟨rfl, rfl, ?_, trivial⟩ ?_
  rotate_left
  · rintro ⟨e2, t2, m⟩ hr
    dsimp only at hr ⊢
    have hib : inB (n * h.clus + 8 * i) p.length := by unfold inB; omega
    rcases hr with ⟨e1, -⟩ | ⟨-, e1, -⟩ | ⟨-, -, e1, e3, e4⟩
    · rw [hov] at e1; cases e1
    · exact absurd hib e1
    have hk2 := hk (e2, t2, m) (.inr (.inr ⟨hin, by omega, e1, by rw [e3, hp, hw1], by rw [hpl] at e4; exact e4⟩))
    repeat' (first
 | (with_reducible first | exact True.intro | apply And.intro | apply If_true | apply If_false | apply If_not)
 | ((with_reducible apply VC.mk); (first | trivial | omega | (simp only [inR]; omega) | (exact ⟨rfl, List.prefix_rfl⟩) | (refine ⟨rfl, rfl, rfl, ?_, rfl⟩; (simp; done)) | (focus (repeat' (first | exact True.intro | apply And.intro | rfl | exact Nat.le_of_ble_eq_true rfl)); done) | (simp [inR, Cont.cells]; done) | (simp [inR, Cont.cells]; omega)))
 | ((with_reducible apply If_dec) <;> intro hc <;> (try (exfalso; omega)))
 | ((with_reducible apply If_any) <;> intro hc)
 | ((with_reducible first | apply PF.mk | apply DrawP.mk); (focus kernel_rfl))
 | ((with_reducible apply Same.mk); (focus rfl); (first | exact trivial | exact rfl))
 | (intro cap hcap)
 | ((fail_if_success (with_reducible first | apply Fin.mk | apply CallP.mk | apply LoopP.mk | apply VC.mk | apply falseMk | apply Round.mk | apply LookP.mk | apply RangeP.mk | apply NextP.mk | apply EntryP.mk | apply Eq.symm)); conv => whnf))
    exact T6.fin rfl rfl rfl rfl rfl rfl hk2
  · refine ⟨?_, rfl, hpl.symm, ?_, rfl, Nat.one_pos⟩
    · show 0 + Int.toNat 8 ≤ p.length; rw [hpl]; decide
    · simp only [Cont.low, Cont.ren, Int.toNat_zero, List.drop_zero, List.take_take, Nat.min_self]
      simp [Cont.same, List.take_of_length_le, hpl]
def msetOk (x : TR × JR × DF × HD × Int × Int × ER) : Prop := TabOk x.1 x.2.2.1 x.2.2.2.1 x.2.2.2.2.1 ∧ inR .i64 x.2.2.2.2.2.1 ∧ inR .i64 x.2.2.2.2.2.2.kind ∧ inR .i64 x.2.2.2.2.2.2.cl ∧ x.1.over = false
def msetRel (x : TR × JR × DF × HD × Int × Int × ER) (r : Int × TR × Nat) : Prop := SetRel x.1 x.2.2.1.now x.2.2.2.1 x.2.2.2.2.1 x.2.2.2.2.2.1 x.2.2.2.2.2.2 r
theorem mset_K : ConOk Go.Proofs.Try.prog 40 (Con.of (TR × JR × DF × HD × Int × Int × ER) (Int × TR × Nat) (fun x => [.p 5 0 1 0, .v (.int .i64 x.2.2.2.2.2.1), .agg [.v (.int .i64 x.2.2.2.2.2.2.kind), .v (.int .i64 x.2.2.2.2.2.2.cl), .v (.bool x.2.2.2.2.2.2.own)]]) (fun x => tp6 x.1 x.2.1 x.2.2.1 x.2.2.2.1 x.2.2.2.2.1) msetOk msetRel (fun x r => .v (.int .i64 r.1)) (fun x r => tp6 (r.2.1) x.2.1 (x.2.2.1.tick r.2.2) x.2.2.2.1 x.2.2.2.2.1)) := by
  refine conOk_rel (T := tab) mix Go.Proofs.Try.func40 (by decide +kernel) (by kernel_rfl) [] p40 (fun n => by rw [Go.Proofs.Try.ntmps40]; exact Nat.le_of_ble_eq_true rfl) (fun x r _ _ => T6.good (by simp [AV.noF, noFs, Cont.noF, entsC_noF])) (fun x _ => T6.nd) ?_
  intro x k h0 hk
  exact mset_c x.1 x.2.1 x.2.2.1 x.2.2.2.1 x.2.2.2.2.1 x.2.2.2.2.2.1 x.2.2.2.2.2.2 k h0 (fun r hr => hk r hr)
theorem mset_at {avs : List AV} {H : List Chunk} {k : K} (t : TR) (j : JR) (s : DF) (h : HD) (n : Int) (i : Int) (x : ER) (ta tb tc td te tf : Nat) (h0 : TabOk t s h n ∧ inR .i64 i ∧ inR .i64 x.kind ∧ inR .i64 x.cl ∧ t.over = false) (hn : nodupN [ta, tb, tc, td, te, tf] = true) (ha0 : nth H ta = some (t.c0 td tb tc)) (hb0 : nth H tb = some t.c1) (hc0 : nth H tc = some t.c2) (hd0 : nth H td = some (j.blk te)) (he0 : nth H te = some s.pk) (hf0 : nth H tf = some (mtb h n ta)) (ha : argsM H [ta, tb, tc, td, te, tf] [.p 5 0 1 0, .v (.int .i64 i), .agg [.v (.int .i64 x.kind), .v (.int .i64 x.cl), .v (.bool x.own)]] avs)
    (hQ : ∀ r : Int × TR × Nat, (SetRel t s.now h n i x r) → k (.v (.int .i64 r.1)) ((((((H.set ta (TR.c0 (r.2.1) td tb tc)).set tb (TR.c1 (r.2.1))).set tc (TR.c2 (r.2.1))).set td (j.blk te)).set te (DF.pk (s.tick r.2.2))).set tf (mtb h n ta))) : CallP Go.Proofs.Try.prog 40 avs H k :=
  CallP.mk ⟨_, mset_K.real, Con.spec mset_K, (t, j, s, h, n, i, x), [ta, tb, tc, td, te, tf], ⟨h0, hn, ⟨ha0, hb0.trans (congrArg some (TR.c1_ren t _).symm), hc0, hd0, he0, hf0, trivial⟩, ha⟩, fun r hr => (numK_eq _ _).mpr (by simpa [tp6, putAll, TR.c0_ren, TR.c1_ren, TR.c2_ren, JR.blk_ren, DF.pk_ren, mtb_ren, AV.ren, rens, Cont.ren, entsC_ren, fren, nth] using hQ r hr)⟩
end Go.Proofs.Ytjccknmgmommcaa.Sx

