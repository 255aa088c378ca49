import Derived.Test.YtjccknmgmommcaaSxN3
set_option linter.unusedVariables false
set_option linter.unusedSimpArgs false
set_option maxRecDepth 10000
namespace Go.Proofs.Ytjccknmgmommcaa.Sx
open Go.RowKit Go.Proofs.Ytjccknmgmommcaa.Sx.Tb
attribute [local simp] entsC_noF entsC_ren
/-! ### All and Alloc of the counts -/
def cntV (t : TR) (now : List Int) (h : HD) (i : Nat) : Int := leV (t.rd now (h.jend.toNat + 2 * i) 2)
def cntL (t : TR) (now : List Int) (h : HD) : List Int := (List.range h.host.toNat).map (cntV t now h)
set_option maxHeartbeats 8000000 in
theorem cnall_c (t : TR) (j : JR) (s : DF) (h : HD) (k : K) (h0 : RefOk t s h) (hk : ∀ r : List Int × Nat, r.1 = cntL t s.now h ∧ r.2 ≤ 16384 → k (.tup [.im true 1 r.1.length (.ints .i64 r.1), .v (.int .i64 0)]) (rp6 t j (s.tick r.2) h)) : evFunc tab [] p47 Go.Proofs.Try.f47 [.p 5 0 1 0] (rp6 t j s h) k := by
  obtain ⟨h1, h2, h3, h4, ⟨n0, n1, n2⟩, h6, h7, h8⟩ := h0
  have jb := h.jend_b
  repeat' (first
 | (with_reducible first | exact True.intro | apply And.intro | apply If_true | apply If_false | apply If_not)
 | ((with_reducible apply VC.mk); (first | trivial | omega | (simp only [inR]; omega) | (exact ⟨rfl, List.prefix_rfl⟩) | (refine ⟨rfl, rfl, rfl, ?_, rfl⟩; (simp; done)) | (focus (repeat' (first | exact True.intro | apply And.intro | rfl | exact Nat.le_of_ble_eq_true rfl)); done) | (simp [inR, Cont.cells]; done) | (simp [inR, Cont.cells]; omega)))
 | ((with_reducible apply If_dec) <;> intro hc <;> (try (exfalso; omega)))
 | ((with_reducible apply If_any) <;> intro hc)
 | ((with_reducible first | apply PF.mk | apply DrawP.mk); (focus kernel_rfl))
 | ((with_reducible apply Same.mk); (focus rfl); (first | exact trivial | exact rfl))
 | (intro cap hcap)
 | ((fail_if_success (with_reducible first | apply Fin.mk | apply CallP.mk | apply LoopP.mk | apply VC.mk | apply falseMk | apply Round.mk | apply LookP.mk | apply RangeP.mk | apply NextP.mk | apply EntryP.mk | apply Eq.symm)); conv => whnf))
  refine hrat_at h h3 ⟨⟨rfl, rfl, rfl, rfl, rfl, trivial⟩, trivial⟩ ?_
  rintro ⟨ra, rb⟩ hr
  obtain ⟨rfl, rfl⟩ : ra = h.jend ∧ rb = h.rend := by cases hr; exact ⟨rfl, rfl⟩
  dsimp only
  repeat' (first
 | (with_reducible first | exact True.intro | apply And.intro | apply If_true | apply If_false | apply If_not)
 | ((with_reducible apply VC.mk); (first | trivial | omega | (simp only [inR]; omega) | (exact ⟨rfl, List.prefix_rfl⟩) | (refine ⟨rfl, rfl, rfl, ?_, rfl⟩; (simp; done)) | (focus (repeat' (first | exact True.intro | apply And.intro | rfl | exact Nat.le_of_ble_eq_true rfl)); done) | (simp [inR, Cont.cells]; done) | (simp [inR, Cont.cells]; omega)))
 | ((with_reducible apply If_dec) <;> intro hc <;> (try (exfalso; omega)))
 | ((with_reducible apply If_any) <;> intro hc)
 | ((with_reducible first | apply PF.mk | apply DrawP.mk); (focus kernel_rfl))
 | ((with_reducible apply Same.mk); (focus rfl); (first | exact trivial | exact rfl))
 | (intro cap hcap)
 | ((fail_if_success (with_reducible first | apply Fin.mk | apply CallP.mk | apply LoopP.mk | apply VC.mk | apply falseMk | apply Round.mk | apply LookP.mk | apply RangeP.mk | apply NextP.mk | apply EntryP.mk | apply Eq.symm)); conv => whnf))
  refine tget_at t j s h.jend (2 * h.host) 0 1 2 3 4 ⟨h1, h2, ⟨by simp only [inR]; omega, by simp only [inR]; omega⟩, h6, h7, h8⟩ rfl rfl rfl rfl rfl rfl ⟨rfl, rfl, rfl, trivial⟩ ?_
  rintro ⟨b, e, m⟩ hr
  dsimp only at hr ⊢
  have hib : inB h.jend (2 * h.host) := by unfold inB; omega
  rcases hr with ⟨-, e1, e2, e3⟩ | ⟨e1, -⟩
  rotate_left
  · exact absurd hib e1
  have hbl : b.length = (2 * h.host).toNat := by rw [e2, TR.rd_length]
  have hB : B8 b := by rw [e2]; exact h4.rd _ _
  subst e1
  obtain ⟨N, hN⟩ : ∃ N, N = h.host.toNat := ⟨_, rfl⟩
  have hNi : h.host = (N : Int) := by omega
  have hNl : (cntL t s.now h).length = N := by unfold cntL; rw [List.length_map, List.length_range, ← hN]
  have cnt : ∀ i, i < N → leV ((b.drop (2 * i)).take 2) = cntV t s.now h i := by
    intro i hi
    unfold cntV
    refine congrArg leV (ext_getD (by rw [List.length_take, List.length_drop, TR.rd_length]; omega) (fun q hq => ?_))
    rw [List.length_take, List.length_drop] at hq
    rw [TR.rd_get _ _ _ _ _ (by omega), List.getD_eq_getElem?_getD, List.getElem?_take, if_pos (by omega), List.getElem?_drop, ← List.getD_eq_getElem?_getD, e2, TR.rd_get _ _ _ _ _ (by omega), show h.jend.toNat + (2 * i + q) = h.jend.toNat + 2 * i + q by omega]
  have vb : ∀ i, 0 ≤ leV ((b.drop (2 * i)).take 2) ∧ leV ((b.drop (2 * i)).take 2) < 65536 := by
    intro i
    have := leV_bound (l := b.drop (2 * i)) (fun x hx => hB x (List.mem_of_mem_drop hx)) 2
    exact ⟨this.1, by have := this.2; simpa using this⟩
  repeat' (first
 | (with_reducible first | exact True.intro | apply And.intro | apply If_true | apply If_false | apply If_not)
 | ((with_reducible apply VC.mk); (first | trivial | omega | (simp only [inR]; omega) | (exact ⟨rfl, List.prefix_rfl⟩) | (refine ⟨rfl, rfl, rfl, ?_, rfl⟩; (simp; done)) | (focus (repeat' (first | exact True.intro | apply And.intro | rfl | exact Nat.le_of_ble_eq_true rfl)); done) | (simp [inR, Cont.cells]; done) | (simp [inR, Cont.cells]; omega)))
 | ((with_reducible apply If_dec) <;> intro hc <;> (try (exfalso; omega)))
 | ((with_reducible apply If_any) <;> intro hc)
 | ((with_reducible first | apply PF.mk | apply DrawP.mk); (focus kernel_rfl))
 | ((with_reducible apply Same.mk); (focus rfl); (first | exact trivial | exact rfl))
 | (intro cap hcap)
 | ((fail_if_success (with_reducible first | apply Fin.mk | apply CallP.mk | apply LoopP.mk | apply VC.mk | apply falseMk | apply Round.mk | apply LookP.mk | apply RangeP.mk | apply NextP.mk | apply EntryP.mk | apply Eq.symm)); conv => whnf))
  rw [← hN]
  refine LoopP.mk ⟨Nat × List Int, fun y => y.1 ≤ N ∧ y.2.length = N ∧ ∀ i, i < y.1 → y.2.getD i 0 = cntV t s.now h i, fun y => ([(4, .im true 1 b.length (.ints .u8 b)), (6, .s 6 0 1 N N), (42, .v (.int .i64 (N : Int))), (43, .v (.int .i64 (y.1 : Int)))], rp6 t j (s.tick m) h ++ [.blk 3 (.ints .i64 y.2) N]), fun y => N - y.1, (0, List.replicate N 0), ⟨Nat.zero_le _, List.length_replicate .., fun i hi => absurd hi (Nat.not_lt_zero i)⟩, Fit.ren [0, 1, 2, 3, 4, 5, 6] [] rfl rfl trivial ?_ ?_, ?_⟩
  · exact R6.le rfl rfl rfl rfl rfl rfl rfl rfl rfl rfl rfl ⟨⟨VC.mk ⟨rfl, Nat.mul_one _⟩, VC.mk ⟨rfl, List.prefix_refl _⟩⟩, trivial⟩
  · repeat' (first
 | (with_reducible first | exact True.intro | apply And.intro | apply If_true | apply If_false | apply If_not)
 | ((with_reducible apply VC.mk); (first | trivial | omega | (simp only [inR]; omega) | (exact ⟨rfl, List.prefix_rfl⟩) | (refine ⟨rfl, rfl, rfl, ?_, rfl⟩; (simp; done)) | (focus (repeat' (first | exact True.intro | apply And.intro | rfl | exact Nat.le_of_ble_eq_true rfl)); done) | (simp [inR, Cont.cells]; done) | (simp [inR, Cont.cells]; omega)))
 | ((with_reducible apply If_dec) <;> intro hc <;> (try (exfalso; omega)))
 | ((with_reducible apply If_any) <;> intro hc)
 | ((with_reducible first | apply PF.mk | apply DrawP.mk); (focus kernel_rfl))
 | ((with_reducible apply Same.mk); (focus rfl); (first | exact trivial | exact rfl))
 | (intro cap hcap)
 | ((fail_if_success (with_reducible first | apply Fin.mk | apply CallP.mk | apply LoopP.mk | apply VC.mk | apply falseMk | apply Round.mk | apply LookP.mk | apply RangeP.mk | apply NextP.mk | apply EntryP.mk | apply Eq.symm)); conv => whnf))
  · intro y hy
    obtain ⟨g1, g2, g3⟩ := hy
    have ey : ((y.1 : Nat) : Int).toNat = y.1 := Int.toNat_natCast _
    have ey2 : (2 * (y.1 : Int)).toNat = 2 * y.1 := by omega
    repeat' (first
 | (with_reducible first | exact True.intro | apply And.intro | apply If_true | apply If_false | apply If_not)
 | ((with_reducible apply VC.mk); (first | trivial | omega | (simp only [inR]; omega) | (exact ⟨rfl, List.prefix_rfl⟩) | (refine ⟨rfl, rfl, rfl, ?_, rfl⟩; (simp; done)) | (focus (repeat' (first | exact True.intro | apply And.intro | rfl | exact Nat.le_of_ble_eq_true rfl)); done) | (simp [inR, Cont.cells]; done) | (simp [inR, Cont.cells]; omega)))
 | ((with_reducible apply If_dec) <;> intro hc <;> (try (exfalso; omega)))
 | ((with_reducible apply If_any) <;> intro hc)
 | ((with_reducible first | apply PF.mk | apply DrawP.mk); (focus kernel_rfl))
 | ((with_reducible apply Same.mk); (focus rfl); (first | exact trivial | exact rfl))
 | (intro cap hcap)
 | ((fail_if_success (with_reducible first | apply Fin.mk | apply CallP.mk | apply LoopP.mk | apply VC.mk | apply falseMk | apply Round.mk | apply LookP.mk | apply RangeP.mk | apply NextP.mk | apply EntryP.mk | apply Eq.symm)); conv => whnf))
    · refine U16_at b (2 * (y.1 : Int)) ⟨by omega, hB, by omega⟩ ⟨⟨rfl, rfl, rfl⟩, rfl, trivial⟩ ?_
      rintro v bb (⟨-, -, rfl, rfl⟩ | ⟨hn, -⟩)
      rotate_left
      · exact absurd ⟨by omega, by omega⟩ hn
      rw [ey2]
      have vy := vb y.1
      repeat' (first
 | (with_reducible first | exact True.intro | apply And.intro | apply If_true | apply If_false | apply If_not)
 | ((with_reducible apply VC.mk); (first | trivial | omega | (simp only [inR]; omega) | (exact ⟨rfl, List.prefix_rfl⟩) | (refine ⟨rfl, rfl, rfl, ?_, rfl⟩; (simp; done)) | (focus (repeat' (first | exact True.intro | apply And.intro | rfl | exact Nat.le_of_ble_eq_true rfl)); done) | (simp [inR, Cont.cells]; done) | (simp [inR, Cont.cells]; omega)))
 | ((with_reducible apply If_dec) <;> intro hc <;> (try (exfalso; omega)))
 | ((with_reducible apply If_any) <;> intro hc)
 | ((with_reducible first | apply PF.mk | apply DrawP.mk); (focus kernel_rfl))
 | ((with_reducible apply Same.mk); (focus rfl); (first | exact trivial | exact rfl))
 | (intro cap hcap)
 | ((fail_if_success (with_reducible first | apply Fin.mk | apply CallP.mk | apply LoopP.mk | apply VC.mk | apply falseMk | apply Round.mk | apply LookP.mk | apply RangeP.mk | apply NextP.mk | apply EntryP.mk | apply Eq.symm)); conv => whnf))
      refine Round.mk ⟨(y.1 + 1, y.2.set y.1 (cntV t s.now h y.1)), ⟨by show y.1 + 1 ≤ N; omega, by show (y.2.set _ _).length = N; rw [List.length_set]; exact g2, ?_⟩, by show N - (y.1 + 1) < N - y.1; omega, Fit.ren [0, 1, 2, 3, 4, 5, 6] [] rfl rfl trivial (R6.le rfl rfl rfl rfl rfl rfl rfl rfl rfl rfl rfl ?_) ?_⟩
      · intro i hi
        have hi : i < y.1 + 1 := hi
        show (y.2.set y.1 _).getD i 0 = _
        by_cases hiy : i = y.1
        · subst hiy
          rw [List.getD_eq_getElem?_getD, List.getElem?_set_self (by omega)]; rfl
        · rw [List.getD_eq_getElem?_getD, List.getElem?_set_ne (fun e => hiy e.symm), ← List.getD_eq_getElem?_getD]
          exact g3 i (by omega)
      · refine ⟨⟨VC.mk ⟨rfl, rfl⟩, VC.mk ⟨rfl, ?_⟩⟩, trivial⟩
        rw [← cnt y.1 (by omega)]
        simp [ey]
      · repeat' (first
 | (with_reducible first | exact True.intro | apply And.intro | apply If_true | apply If_false | apply If_not)
 | ((with_reducible apply VC.mk); (first | trivial | omega | (simp only [inR]; omega) | (exact ⟨rfl, List.prefix_rfl⟩) | (refine ⟨rfl, rfl, rfl, ?_, rfl⟩; (simp; done)) | (focus (repeat' (first | exact True.intro | apply And.intro | rfl | exact Nat.le_of_ble_eq_true rfl)); done) | (simp [inR, Cont.cells]; done) | (simp [inR, Cont.cells]; omega)))
 | ((with_reducible apply If_dec) <;> intro hc <;> (try (exfalso; omega)))
 | ((with_reducible apply If_any) <;> intro hc)
 | ((with_reducible first | apply PF.mk | apply DrawP.mk); (focus kernel_rfl))
 | ((with_reducible apply Same.mk); (focus rfl); (first | exact trivial | exact rfl))
 | (intro cap hcap)
 | ((fail_if_success (with_reducible first | apply Fin.mk | apply CallP.mk | apply LoopP.mk | apply VC.mk | apply falseMk | apply Round.mk | apply LookP.mk | apply RangeP.mk | apply NextP.mk | apply EntryP.mk | apply Eq.symm)); conv => whnf))
    · have hy2 : y.2 = cntL t s.now h := by
        refine ext_getD (by rw [g2, hNl]) (fun i hi => ?_)
        rw [g3 i (by omega)]
        unfold cntL
        rw [List.getD_eq_getElem?_getD, List.getElem?_map, List.getElem?_range (by omega)]; rfl
      have hk2 := hk (cntL t s.now h, m) ⟨rfl, by show m ≤ 16384; omega⟩
      dsimp only at hk2
      rw [hNl] at hk2
      rw [hy2]
      refine Fin.ren [0, 1, 2, 3, 4, 5] [6] (.tup [.im true 1 N (.ints .i64 (cntL t s.now h)), .v (.int .i64 0)]) (rp6 t j (s.tick m) h) rfl rfl ⟨trivial, trivial⟩ ?_ ⟨⟨VC.mk ⟨?_, rfl, rfl, rfl, by decide⟩, ?_⟩, VC.mk rfl, trivial⟩ hk2
      · exact T5.leG rfl rfl rfl rfl rfl rfl rfl rfl rfl ⟨rfl, rfl, rfl, rfl, rfl⟩ (cs := [rfb h 0]) ⟨rfb_le rfl rfl rfl, trivial⟩
      · show 0 + N ≤ _
        rw [hNl]; omega
      · refine VC.mk ⟨rfl, ?_⟩
        simp [List.take_of_length_le, hNl]
def cnallOk (x : TR × JR × DF × HD) : Prop := RefOk x.1 x.2.2.1 x.2.2.2
def cnallRel (x : TR × JR × DF × HD) (r : List Int × Nat) : Prop := r.1 = cntL x.1 x.2.2.1.now x.2.2.2 ∧ r.2 ≤ 16384
theorem cnall_K : ConOk Go.Proofs.Try.prog 47 (Con.of (TR × JR × DF × HD) (List Int × Nat) (fun x => [.p 5 0 1 0]) (fun x => rp6 x.1 x.2.1 x.2.2.1 x.2.2.2) cnallOk cnallRel (fun x r => .tup [.im true 1 r.1.length (.ints .i64 r.1), .v (.int .i64 0)]) (fun x r => rp6 (x.1) x.2.1 (x.2.2.1.tick r.2) x.2.2.2)) := by
  refine conOk_rel (T := tab) mix Go.Proofs.Try.func47 (by decide +kernel) (by kernel_rfl) [] p47 (fun n => by rw [Go.Proofs.Try.ntmps47]; exact Nat.le_of_ble_eq_true rfl) (fun x r _ _ => R6.good (by simp [AV.noF, noFs, Cont.noF, entsC_noF])) (fun x _ => R6.nd) ?_
  intro x k h0 hk
  exact cnall_c x.1 x.2.1 x.2.2.1 x.2.2.2 k h0 (fun r hr => hk r hr)
theorem cnall_at {avs : List AV} {H : List Chunk} {k : K} (t : TR) (j : JR) (s : DF) (h : HD) (ta tb tc td te tf : Nat) (h0 : RefOk t s h) (hn : nodupN [ta, tb, tc, td, te, tf] = true) (ha0 : nth H ta = some (t.c0 td tb tc)) (hb0 : nth H tb = some t.c1) (hc0 : nth H tc = some t.c2) (hd0 : nth H td = some (j.blk te)) (he0 : nth H te = some s.pk) (hf0 : nth H tf = some (rfb h ta)) (ha : argsM H [ta, tb, tc, td, te, tf] [.p 5 0 1 0] avs)
    (hQ : ∀ r : List Int × Nat, (r.1 = cntL t s.now h ∧ r.2 ≤ 16384) → k (.tup [.im true 1 r.1.length (.ints .i64 r.1), .v (.int .i64 0)]) ((((((H.set ta (TR.c0 (t) td tb tc)).set tb (TR.c1 (t))).set tc (TR.c2 (t))).set td (j.blk te)).set te (DF.pk (s.tick r.2))).set tf (rfb h ta))) : CallP Go.Proofs.Try.prog 47 avs H k :=
  CallP.mk ⟨_, cnall_K.real, Con.spec cnall_K, (t, j, s, h), [ta, tb, tc, td, te, tf], ⟨h0, hn, ⟨ha0, hb0.trans (congrArg some (TR.c1_ren t _).symm), hc0, hd0, he0, hf0, trivial⟩, ha⟩, fun r hr => (numK_eq _ _).mpr (by simpa [rp6, putAll, TR.c0_ren, TR.c1_ren, TR.c2_ren, JR.blk_ren, DF.pk_ren, rfb_ren, AV.ren, rens, Cont.ren, entsC_ren, fren, nth] using hQ r hr)⟩
end Go.Proofs.Ytjccknmgmommcaa.Sx

