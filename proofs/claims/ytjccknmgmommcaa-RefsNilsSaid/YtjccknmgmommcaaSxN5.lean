import Derived.Test.YtjccknmgmommcaaSxN4
set_option linter.unusedVariables false
set_option linter.unusedSimpArgs false
set_option maxRecDepth 10000
namespace Go.Proofs.Ytjccknmgmommcaa.Sx
open Go.RowKit Go.Proofs.Ytjccknmgmommcaa.Sx.Tb
attribute [local simp] entsC_noF entsC_ren
def AlocR (t : TR) (now : List Int) (h : HD) (r : Int × Int × TR × Nat) : Prop :=
  ((∃ i : Nat, h.first ≤ (i : Int) ∧ (i : Int) < h.host ∧ cntV t now h i = 0 ∧ (∀ q : Nat, h.first ≤ (q : Int) → q < i → cntV t now h q ≠ 0) ∧ r.1 = i ∧ r.2.1 = 0 ∧ r.2.2.1 = t.put now (h.jend + 2 * (i : Int)).toNat (leB 2 1)) ∨ ((∀ q : Nat, h.first ≤ (q : Int) → (q : Int) < h.host → cntV t now h q ≠ 0) ∧ r.1 = 0 ∧ r.2.1 = 15 ∧ r.2.2.1 = t)) ∧ r.2.2.2 ≤ 16386
theorem tick_tick (s : DF) (a b : Nat) : (s.tick a).tick b = s.tick (a + b) := by unfold DF.tick; simp [Int.add_assoc]
set_option maxHeartbeats 8000000 in
theorem cnaloc_c (t : TR) (j : JR) (s : DF) (h : HD) (k : K) (h0 : RefOk t s h ∧ t.over = false ∧ s.ops ≤ 137438953472 ∧ 0 ≤ h.first ∧ h.first ≤ 1099511627776) (hk : ∀ r : Int × Int × TR × Nat, AlocR t s.now h r → k (.tup [.v (.int .i64 r.1), .v (.int .i64 r.2.1)]) (rp6 r.2.2.1 j (s.tick r.2.2.2) h)) : evFunc tab [] [] Go.Proofs.Try.f48 [.p 5 0 1 0] (rp6 t j s h) k := by
  obtain ⟨hR, hov, hop, f0, f1⟩ := h0
  obtain ⟨h1, h2, h3, h4, ⟨n0, n1, n2⟩, h6, h7, h8⟩ := hR
  have hR : RefOk t s h := ⟨h1, h2, h3, h4, ⟨n0, n1, n2⟩, h6, h7, h8⟩
  repeat' (first
 | (with_reducible first | exact True.intro | apply And.intro | apply If_true | apply If_false | apply If_not)
 | ((with_reducible apply VC.mk); (first | trivial | omega | (simp only [inR]; omega) | (exact ⟨rfl, List.prefix_rfl⟩) | (refine ⟨rfl, rfl, rfl, ?_, rfl⟩; (simp; done)) | (focus (repeat' (first | exact True.intro | apply And.intro | rfl | exact Nat.le_of_ble_eq_true rfl)); done) | (simp [inR, Cont.cells]; done) | (simp [inR, Cont.cells]; omega)))
 | ((with_reducible apply If_dec) <;> intro hc <;> (try (exfalso; omega)))
 | ((with_reducible apply If_any) <;> intro hc)
 | ((with_reducible first | apply PF.mk | apply DrawP.mk); (focus kernel_rfl))
 | ((with_reducible apply Same.mk); (focus rfl); (first | exact trivial | exact rfl))
 | (intro cap hcap)
 | ((fail_if_success (with_reducible first | apply Fin.mk | apply CallP.mk | apply LoopP.mk | apply VC.mk | apply falseMk | apply Round.mk | apply LookP.mk | apply RangeP.mk | apply NextP.mk | apply EntryP.mk | apply Eq.symm)); conv => whnf))
  refine cnall_at t j s h 0 1 2 3 4 5 hR rfl rfl rfl rfl rfl rfl rfl ⟨rfl, trivial⟩ ?_
  rintro ⟨l, m⟩ ⟨q1, q2⟩
  have q1 : l = cntL t s.now h := q1
  dsimp only at q2 ⊢
  have hll : l.length = h.host.toNat := by rw [q1]; unfold cntL; rw [List.length_map, List.length_range]
  have hlv : ∀ i, i < l.length → l.getD i 0 = cntV t s.now h i := by
    intro i hi
    rw [q1]; unfold cntL
    rw [List.getD_eq_getElem?_getD, List.getElem?_map, List.getElem?_range (by omega)]; rfl
  have hR2 : RefOk t (s.tick m) h := ⟨h1, h2, h3, h4, ⟨n0, n1, n2⟩, by show 0 ≤ s.ops + (m : Int); omega, by show s.ops + (m : Int) ≤ _; omega, h8⟩
  repeat' (first
 | (with_reducible first | exact True.intro | apply And.intro | apply If_true | apply If_false | apply If_not)
 | ((with_reducible apply VC.mk); (first | trivial | omega | (simp only [inR]; omega) | (exact ⟨rfl, List.prefix_rfl⟩) | (refine ⟨rfl, rfl, rfl, ?_, rfl⟩; (simp; done)) | (focus (repeat' (first | exact True.intro | apply And.intro | rfl | exact Nat.le_of_ble_eq_true rfl)); done) | (simp [inR, Cont.cells]; done) | (simp [inR, Cont.cells]; omega)))
 | ((with_reducible apply If_dec) <;> intro hc <;> (try (exfalso; omega)))
 | ((with_reducible apply If_any) <;> intro hc)
 | ((with_reducible first | apply PF.mk | apply DrawP.mk); (focus kernel_rfl))
 | ((with_reducible apply Same.mk); (focus rfl); (first | exact trivial | exact rfl))
 | (intro cap hcap)
 | ((fail_if_success (with_reducible first | apply Fin.mk | apply CallP.mk | apply LoopP.mk | apply VC.mk | apply falseMk | apply Round.mk | apply LookP.mk | apply RangeP.mk | apply NextP.mk | apply EntryP.mk | apply Eq.symm)); conv => whnf))
  refine hfirst_at h h3 ⟨⟨rfl, rfl, rfl, rfl, rfl, trivial⟩, trivial⟩ ?_
  rintro _ rfl
  repeat' (first
 | (with_reducible first | exact True.intro | apply And.intro | apply If_true | apply If_false | apply If_not)
 | ((with_reducible apply VC.mk); (first | trivial | omega | (simp only [inR]; omega) | (exact ⟨rfl, List.prefix_rfl⟩) | (refine ⟨rfl, rfl, rfl, ?_, rfl⟩; (simp; done)) | (focus (repeat' (first | exact True.intro | apply And.intro | rfl | exact Nat.le_of_ble_eq_true rfl)); done) | (simp [inR, Cont.cells]; done) | (simp [inR, Cont.cells]; omega)))
 | ((with_reducible apply If_dec) <;> intro hc <;> (try (exfalso; omega)))
 | ((with_reducible apply If_any) <;> intro hc)
 | ((with_reducible first | apply PF.mk | apply DrawP.mk); (focus kernel_rfl))
 | ((with_reducible apply Same.mk); (focus rfl); (first | exact trivial | exact rfl))
 | (intro cap hcap)
 | ((fail_if_success (with_reducible first | apply Fin.mk | apply CallP.mk | apply LoopP.mk | apply VC.mk | apply falseMk | apply Round.mk | apply LookP.mk | apply RangeP.mk | apply NextP.mk | apply EntryP.mk | apply Eq.symm)); conv => whnf))
  obtain ⟨F, hF⟩ : ∃ F : Nat, h.first = F := ⟨h.first.toNat, by omega⟩
  rw [hF]
  refine LoopP.mk ⟨Nat, fun y => F ≤ y ∧ ((y : Int) ≤ h.host ∨ y = F) ∧ ∀ q : Nat, F ≤ q → q < y → cntV t s.now h q ≠ 0, fun y => ([(0, .p 5 0 1 0), (4, .im true 1 l.length (.ints .i64 l)), (6, .v (.int .i64 (y : Int)))], rp6 t j (s.tick m) h), fun y => h.host.toNat - y, F, ⟨Nat.le_refl _, .inr rfl, fun q a b => absurd b (by omega)⟩, Fit.ren [0, 1, 2, 3, 4, 5] [] rfl rfl trivial ?_ ?_, ?_⟩
  · exact R6.le rfl rfl rfl rfl rfl rfl rfl rfl rfl rfl rfl (cs := []) trivial
  · repeat' (first
 | (with_reducible first | exact True.intro | apply And.intro | apply If_true | apply If_false | apply If_not)
 | ((with_reducible apply VC.mk); (first | trivial | omega | (simp only [inR]; omega) | (exact ⟨rfl, List.prefix_rfl⟩) | (refine ⟨rfl, rfl, rfl, ?_, rfl⟩; (simp; done)) | (focus (repeat' (first | exact True.intro | apply And.intro | rfl | exact Nat.le_of_ble_eq_true rfl)); done) | (simp [inR, Cont.cells]; done) | (simp [inR, Cont.cells]; omega)))
 | ((with_reducible apply If_dec) <;> intro hc <;> (try (exfalso; omega)))
 | ((with_reducible apply If_any) <;> intro hc)
 | ((with_reducible first | apply PF.mk | apply DrawP.mk); (focus kernel_rfl))
 | ((with_reducible apply Same.mk); (focus rfl); (first | exact trivial | exact rfl))
 | (intro cap hcap)
 | ((fail_if_success (with_reducible first | apply Fin.mk | apply CallP.mk | apply LoopP.mk | apply VC.mk | apply falseMk | apply Round.mk | apply LookP.mk | apply RangeP.mk | apply NextP.mk | apply EntryP.mk | apply Eq.symm)); conv => whnf))
  · intro y hy
    obtain ⟨g1, g2, g3⟩ := hy
    have ey : ((y : Nat) : Int).toNat = y := Int.toNat_natCast _
    repeat' (first
 | (with_reducible first | exact True.intro | apply And.intro | apply If_true | apply If_false | apply If_not)
 | ((with_reducible apply VC.mk); (first | trivial | omega | (simp only [inR]; omega) | (exact ⟨rfl, List.prefix_rfl⟩) | (refine ⟨rfl, rfl, rfl, ?_, rfl⟩; (simp; done)) | (focus (repeat' (first | exact True.intro | apply And.intro | rfl | exact Nat.le_of_ble_eq_true rfl)); done) | (simp [inR, Cont.cells]; done) | (simp [inR, Cont.cells]; omega)))
 | ((with_reducible apply If_dec) <;> intro hc <;> (try (exfalso; omega)))
 | ((with_reducible apply If_any) <;> intro hc)
 | ((with_reducible first | apply PF.mk | apply DrawP.mk); (focus kernel_rfl))
 | ((with_reducible apply Same.mk); (focus rfl); (first | exact trivial | exact rfl))
 | (intro cap hcap)
 | ((fail_if_success (with_reducible first | apply Fin.mk | apply CallP.mk | apply LoopP.mk | apply VC.mk | apply falseMk | apply Round.mk | apply LookP.mk | apply RangeP.mk | apply NextP.mk | apply EntryP.mk | apply Eq.symm)); conv => whnf))
    · have hyl : y < l.length := by omega
      have hz : cntV t s.now h y = 0 := by rw [← hlv y hyl, ← ey]; rw [ey]; rw [ey] at hc; exact hc
      refine cnset_at t j (s.tick m) h (y : Int) 1 0 1 2 3 4 5 ⟨hR2, by simp only [inR]; omega, by simp [inR], hov⟩ rfl rfl rfl rfl rfl rfl rfl ⟨rfl, rfl, rfl, trivial⟩ ?_
      rintro ⟨e2, t2, m2⟩ hs
      dsimp only
      rcases hs with ⟨s1, -⟩ | ⟨-, s1, -⟩ | ⟨-, -, s1, s2, s3⟩
      · exact absurd ⟨by omega, by omega⟩ s1
      · exact absurd ⟨by decide, by decide⟩ s1
      have s1 : e2 = 0 := s1
      have s2 : t2 = t.put s.now (h.jend + 2 * (y : Int)).toNat (leB 2 1) := s2
      have s3 : m2 ≤ 2 := s3
      have hk2 := hk ((y : Int), e2, t2, m + m2) ⟨.inl ⟨y, by rw [hF]; omega, by omega, hz, fun q a b => g3 q (by omega) b, rfl, s1, s2⟩, by show m + m2 ≤ 16386; omega⟩
      rw [tick_tick]
      repeat' (first
 | (with_reducible first | exact True.intro | apply And.intro | apply If_true | apply If_false | apply If_not)
 | ((with_reducible apply VC.mk); (first | trivial | omega | (simp only [inR]; omega) | (exact ⟨rfl, List.prefix_rfl⟩) | (refine ⟨rfl, rfl, rfl, ?_, rfl⟩; (simp; done)) | (focus (repeat' (first | exact True.intro | apply And.intro | rfl | exact Nat.le_of_ble_eq_true rfl)); done) | (simp [inR, Cont.cells]; done) | (simp [inR, Cont.cells]; omega)))
 | ((with_reducible apply If_dec) <;> intro hc <;> (try (exfalso; omega)))
 | ((with_reducible apply If_any) <;> intro hc)
 | ((with_reducible first | apply PF.mk | apply DrawP.mk); (focus kernel_rfl))
 | ((with_reducible apply Same.mk); (focus rfl); (first | exact trivial | exact rfl))
 | (intro cap hcap)
 | ((fail_if_success (with_reducible first | apply Fin.mk | apply CallP.mk | apply LoopP.mk | apply VC.mk | apply falseMk | apply Round.mk | apply LookP.mk | apply RangeP.mk | apply NextP.mk | apply EntryP.mk | apply Eq.symm)); conv => whnf))
      exact R6.fin rfl rfl rfl rfl rfl rfl hk2
    · refine Round.mk ⟨y + 1, ⟨by omega, .inl (by omega), fun q a b => ?_⟩, by show h.host.toNat - (y + 1) < h.host.toNat - y; omega, Fit.ren [0, 1, 2, 3, 4, 5] [] rfl rfl trivial (R6.le rfl rfl rfl rfl rfl rfl rfl rfl rfl rfl rfl (cs := []) trivial) ?_⟩
      · by_cases hq : q < y
        · exact g3 q a hq
        · have hqy : q = y := by omega
          subst hqy
          rw [← hlv q (by omega)]
          rw [ey] at hc
          exact hc
      · repeat' (first
 | (with_reducible first | exact True.intro | apply And.intro | apply If_true | apply If_false | apply If_not)
 | ((with_reducible apply VC.mk); (first | trivial | omega | (simp only [inR]; omega) | (exact ⟨rfl, List.prefix_rfl⟩) | (refine ⟨rfl, rfl, rfl, ?_, rfl⟩; (simp; done)) | (focus (repeat' (first | exact True.intro | apply And.intro | rfl | exact Nat.le_of_ble_eq_true rfl)); done) | (simp [inR, Cont.cells]; done) | (simp [inR, Cont.cells]; omega)))
 | ((with_reducible apply If_dec) <;> intro hc <;> (try (exfalso; omega)))
 | ((with_reducible apply If_any) <;> intro hc)
 | ((with_reducible first | apply PF.mk | apply DrawP.mk); (focus kernel_rfl))
 | ((with_reducible apply Same.mk); (focus rfl); (first | exact trivial | exact rfl))
 | (intro cap hcap)
 | ((fail_if_success (with_reducible first | apply Fin.mk | apply CallP.mk | apply LoopP.mk | apply VC.mk | apply falseMk | apply Round.mk | apply LookP.mk | apply RangeP.mk | apply NextP.mk | apply EntryP.mk | apply Eq.symm)); conv => whnf))
    · have hk2 := hk (0, 15, t, m) ⟨.inr ⟨fun q a b => g3 q (by omega) (by omega), rfl, rfl, rfl⟩, by show m ≤ 16386; omega⟩
      exact R6.fin rfl rfl rfl rfl rfl rfl hk2
def cnalocOk (x : TR × JR × DF × HD) : Prop := RefOk x.1 x.2.2.1 x.2.2.2 ∧ x.1.over = false ∧ x.2.2.1.ops ≤ 137438953472 ∧ 0 ≤ x.2.2.2.first ∧ x.2.2.2.first ≤ 1099511627776
def cnalocRel (x : TR × JR × DF × HD) (r : Int × Int × TR × Nat) : Prop := AlocR x.1 x.2.2.1.now x.2.2.2 r
theorem cnaloc_K : ConOk Go.Proofs.Try.prog 48 (Con.of (TR × JR × DF × HD) (Int × Int × TR × Nat) (fun x => [.p 5 0 1 0]) (fun x => rp6 x.1 x.2.1 x.2.2.1 x.2.2.2) cnalocOk cnalocRel (fun x r => .tup [.v (.int .i64 r.1), .v (.int .i64 r.2.1)]) (fun x r => rp6 (r.2.2.1) x.2.1 (x.2.2.1.tick r.2.2.2) x.2.2.2)) := by
  refine conOk_rel (T := tab) mix Go.Proofs.Try.func48 (by decide +kernel) (by kernel_rfl) [] [] (fun n => by rw [Go.Proofs.Try.ntmps48]; exact Nat.le_of_ble_eq_true rfl) (fun x r _ _ => R6.good (by simp [AV.noF, noFs, Cont.noF, entsC_noF])) (fun x _ => R6.nd) ?_
  intro x k h0 hk
  exact cnaloc_c x.1 x.2.1 x.2.2.1 x.2.2.2 k h0 (fun r hr => hk r hr)
theorem cnaloc_at {avs : List AV} {H : List Chunk} {k : K} (t : TR) (j : JR) (s : DF) (h : HD) (ta tb tc td te tf : Nat) (h0 : RefOk t s h ∧ t.over = false ∧ s.ops ≤ 137438953472 ∧ 0 ≤ h.first ∧ h.first ≤ 1099511627776) (hn : nodupN [ta, tb, tc, td, te, tf] = true) (ha0 : nth H ta = some (t.c0 td tb tc)) (hb0 : nth H tb = some t.c1) (hc0 : nth H tc = some t.c2) (hd0 : nth H td = some (j.blk te)) (he0 : nth H te = some s.pk) (hf0 : nth H tf = some (rfb h ta)) (ha : argsM H [ta, tb, tc, td, te, tf] [.p 5 0 1 0] avs)
    (hQ : ∀ r : Int × Int × TR × Nat, (AlocR t s.now h r) → k (.tup [.v (.int .i64 r.1), .v (.int .i64 r.2.1)]) ((((((H.set ta (TR.c0 (r.2.2.1) td tb tc)).set tb (TR.c1 (r.2.2.1))).set tc (TR.c2 (r.2.2.1))).set td (j.blk te)).set te (DF.pk (s.tick r.2.2.2))).set tf (rfb h ta))) : CallP Go.Proofs.Try.prog 48 avs H k :=
  CallP.mk ⟨_, cnaloc_K.real, Con.spec cnaloc_K, (t, j, s, h), [ta, tb, tc, td, te, tf], ⟨h0, hn, ⟨ha0, hb0.trans (congrArg some (TR.c1_ren t _).symm), hc0, hd0, he0, hf0, trivial⟩, ha⟩, fun r hr => (numK_eq _ _).mpr (by simpa [rp6, putAll, TR.c0_ren, TR.c1_ren, TR.c2_ren, JR.blk_ren, DF.pk_ren, rfb_ren, AV.ren, rens, Cont.ren, entsC_ren, fren, nth] using hQ r hr)⟩
end Go.Proofs.Ytjccknmgmommcaa.Sx

