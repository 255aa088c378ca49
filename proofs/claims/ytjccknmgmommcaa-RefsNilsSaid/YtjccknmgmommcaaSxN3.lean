import Derived.Test.YtjccknmgmommcaaSxN2
import Derived.Test.YtjccknmgmommcaaSxX4
import Derived.Test.YtjccknmgmommcaaSxO1
import Derived.Test.YtjccknmgmommcaaSxJ5
set_option linter.unusedVariables false
set_option linter.unusedSimpArgs false
set_option maxRecDepth 10000
namespace Go.Proofs.Ytjccknmgmommcaa.Sx
open Go.RowKit Go.Proofs.Ytjccknmgmommcaa.Sx.Tb
attribute [local simp] entsC_noF entsC_ren
/-! ### Counts over their tx -/
def rp6 (t : TR) (j : JR) (s : DF) (h : HD) : List Chunk := [t.c0 3 1 2, t.c1, t.c2, j.blk 4, s.pk, rfb h 0]
theorem rfb_le {H : List Chunk} {fz : List Nat} {f : Nat → Nat} {ph : Nat → Bool} {h : HD} {a i : Nat} (fi : f 0 = a) (h0 : nth H i = some (rfb h a)) (hz : memN i fz = false) : (rfb h 0).le H fz f ph i := by
  unfold Chunk.le rfb
  simp only
  rw [nth_lt h0, hz, h0]
  exact ⟨VC.mk ⟨rfl, rfl⟩, VC.mk rfl, VC.mk rfl, VC.mk rfl, VC.mk rfl, VC.mk rfl, VC.mk ⟨fi, rfl, rfl, rfl⟩, trivial⟩
theorem R6.le {H : List Chunk} {f : Nat → Nat} {ph : Nat → Bool} {t : TR} {j : JR} {s : DF} {h : HD} {σ : List Nat} {cs : List Chunk} (f0 : f 0 = 0) (f1 : f 1 = 1) (f2 : f 2 = 2) (f3 : f 3 = 3) (f4 : f 4 = 4) (h0 : nth H 0 = some (t.c0 3 1 2)) (h1 : nth H 1 = some t.c1) (h2 : nth H 2 = some t.c2) (h3 : nth H 3 = some (j.blk 4)) (h4 : nth H 4 = some s.pk) (h5 : nth H 5 = some (rfb h 0)) (hx : chunksLe H [] f ph σ cs) : chunksLe H [] f ph (0 :: 1 :: 2 :: 3 :: 4 :: 5 :: σ) (rp6 t j s h ++ cs) :=
  T5.leG f1 f2 f3 f4 h0 h1 h2 h3 h4 ⟨rfl, rfl, rfl, rfl, rfl⟩ (cs := rfb h 0 :: cs) ⟨rfb_le f0 h5 rfl, hx⟩
theorem R6.fin {H : List Chunk} {t : TR} {j : JR} {s : DF} {h : HD} {v : AV} {k : K} (h0 : nth H 0 = some (t.c0 3 1 2)) (h1 : nth H 1 = some t.c1) (h2 : nth H 2 = some t.c2) (h3 : nth H 3 = some (j.blk 4)) (h4 : nth H 4 = some s.pk) (h5 : nth H 5 = some (rfb h 0)) (hk : k v (rp6 t j s h)) (hv : v.inN 6 := by simp [AV.inN, inNs, Cont.inN]) : Fin 6 v H k :=
  Fin.ren [0, 1, 2, 3, 4, 5] [] v (rp6 t j s h) rfl rfl trivial (R6.le rfl rfl rfl rfl rfl h0 h1 h2 h3 h4 h5 (cs := []) trivial) (AV.le_refl fix6 hv) hk
theorem R6.good {t : TR} {j : JR} {s : DF} {h : HD} {v : AV} (hv : v.noF) : Good 6 v (rp6 t j s h) := by
  refine ⟨hv, fun c hc => ?_, Nat.le_refl _⟩
  rcases List.mem_append.1 (show c ∈ tpre t j s ++ [rfb h 0] from hc) with hc | hc
  · exact (T5.good (v := .v (.bool true)) trivial).2.1 c hc
  · simp at hc; subst hc; exact .blk ⟨trivial, trivial, trivial, trivial, trivial, trivial, trivial⟩
theorem R6.nd {t : TR} {j : JR} {s : DF} {h : HD} : ∀ c ∈ rp6 t j s h, c.lives := by
  intro c hc
  rcases List.mem_append.1 (show c ∈ tpre t j s ++ [rfb h 0] from hc) with hc | hc
  · exact T5.nd c hc
  · simp at hc; subst hc; trivial
theorem cnin_c (t : TR) (j : JR) (s : DF) (h : HD) (n : Int) (k : K) (h0 : inR .i64 n ∧ hR h) (hk : ∀ r : Int, r = (if 0 ≤ n ∧ n < h.host then 0 else 4) → k (.v (.int .i64 r)) (rp6 t j s h)) : evFunc tab [] [] Go.Proofs.Try.f100 [.p 5 0 1 0, .v (.int .i64 n)] (rp6 t j s h) k := by
  repeat' (first
 | (with_reducible first | exact True.intro | apply And.intro | apply If_true | apply If_false | apply If_not)
 | ((with_reducible apply VC.mk); (first | trivial | omega | (simp only [inR]; omega) | (exact ⟨rfl, List.prefix_rfl⟩) | (refine ⟨rfl, rfl, rfl, ?_, rfl⟩; (simp; done)) | (focus (repeat' (first | exact True.intro | apply And.intro | rfl | exact Nat.le_of_ble_eq_true rfl)); done) | (simp [inR, Cont.cells]; done) | (simp [inR, Cont.cells]; omega)))
 | ((with_reducible apply If_dec) <;> intro hc <;> (try (exfalso; omega)))
 | ((with_reducible apply If_any) <;> intro hc)
 | ((with_reducible first | apply PF.mk | apply DrawP.mk); (focus kernel_rfl))
 | ((with_reducible apply Same.mk); (focus rfl); (first | exact trivial | exact rfl))
 | (intro cap hcap)
 | ((fail_if_success (with_reducible first | apply Fin.mk | apply CallP.mk | apply LoopP.mk | apply VC.mk | apply falseMk | apply Round.mk | apply LookP.mk | apply RangeP.mk | apply NextP.mk | apply EntryP.mk | apply Eq.symm)); conv => whnf))
  · exact R6.fin rfl rfl rfl rfl rfl rfl (hk 4 (by rw [if_neg (by omega)]))
  · exact R6.fin rfl rfl rfl rfl rfl rfl (hk 4 (by rw [if_neg (by omega)]))
  · exact R6.fin rfl rfl rfl rfl rfl rfl (hk 0 (by rw [if_pos (by omega)]))
def cninOk (x : TR × JR × DF × HD × Int) : Prop := inR .i64 x.2.2.2.2 ∧ hR x.2.2.2.1
def cninRel (x : TR × JR × DF × HD × Int) (r : Int) : Prop := r = (if 0 ≤ x.2.2.2.2 ∧ x.2.2.2.2 < x.2.2.2.1.host then 0 else 4)
theorem cnin_K : ConOk Go.Proofs.Try.prog 100 (Con.of (TR × JR × DF × HD × Int) (Int) (fun x => [.p 5 0 1 0, .v (.int .i64 x.2.2.2.2)]) (fun x => rp6 x.1 x.2.1 x.2.2.1 x.2.2.2.1) cninOk cninRel (fun x r => .v (.int .i64 r)) (fun x r => rp6 (x.1) x.2.1 (x.2.2.1) x.2.2.2.1)) := by
  refine conOk_rel (T := tab) mix Go.Proofs.Try.func100 (by decide +kernel) (by kernel_rfl) [] [] (fun n => by rw [Go.Proofs.Try.ntmps100]; exact Nat.le_of_ble_eq_true rfl) (fun x r _ _ => R6.good (by simp [AV.noF, noFs, Cont.noF, entsC_noF])) (fun x _ => R6.nd) ?_
  intro x k h0 hk
  exact cnin_c x.1 x.2.1 x.2.2.1 x.2.2.2.1 x.2.2.2.2 k h0 (fun r hr => hk r hr)
theorem cnin_at {avs : List AV} {H : List Chunk} {k : K} (t : TR) (j : JR) (s : DF) (h : HD) (n : Int) (ta tb tc td te tf : Nat) (h0 : inR .i64 n ∧ hR h) (hn : nodupN [ta, tb, tc, td, te, tf] = true) (ha0 : nth H ta = some (t.c0 td tb tc)) (hb0 : nth H tb = some t.c1) (hc0 : nth H tc = some t.c2) (hd0 : nth H td = some (j.blk te)) (he0 : nth H te = some s.pk) (hf0 : nth H tf = some (rfb h ta)) (ha : argsM H [ta, tb, tc, td, te, tf] [.p 5 0 1 0, .v (.int .i64 n)] avs)
    (hQ : ∀ r : Int, (r = (if 0 ≤ n ∧ n < h.host then 0 else 4)) → k (.v (.int .i64 r)) ((((((H.set ta (TR.c0 (t) td tb tc)).set tb (TR.c1 (t))).set tc (TR.c2 (t))).set td (j.blk te)).set te (DF.pk (s))).set tf (rfb h ta))) : CallP Go.Proofs.Try.prog 100 avs H k :=
  CallP.mk ⟨_, cnin_K.real, Con.spec cnin_K, (t, j, s, h, n), [ta, tb, tc, td, te, tf], ⟨h0, hn, ⟨ha0, hb0.trans (congrArg some (TR.c1_ren t _).symm), hc0, hd0, he0, hf0, trivial⟩, ha⟩, fun r hr => (numK_eq _ _).mpr (by simpa [rp6, putAll, TR.c0_ren, TR.c1_ren, TR.c2_ren, JR.blk_ren, DF.pk_ren, rfb_ren, AV.ren, rens, Cont.ren, entsC_ren, fren, nth] using hQ r hr)⟩
def RefOk (t : TR) (s : DF) (h : HD) : Prop := t.Ok ∧ s.live ∧ hR h ∧ t.B s.now ∧ (0 ≤ h.host ∧ h.host ≤ 8192 ∧ h.jend + 2 * h.host ≤ 4194304) ∧ 0 ≤ s.ops ∧ s.ops ≤ 274877906944 ∧ s.now.length ≤ 4194304
def rgetR (t : TR) (now : List Int) (h : HD) (n : Int) : Int × Int := if 0 ≤ n ∧ n < h.host then (leV (t.rd now (h.jend + 2 * n).toNat 2), 0) else (0, 4)
set_option maxHeartbeats 8000000 in
theorem cnget_c (t : TR) (j : JR) (s : DF) (h : HD) (n : Int) (k : K) (h0 : RefOk t s h ∧ inR .i64 n) (hk : ∀ r : (Int × Int) × Nat, r.1 = rgetR t s.now h n ∧ r.2 ≤ 2 → k (.tup [.v (.int .i64 r.1.1), .v (.int .i64 r.1.2)]) (rp6 t j (s.tick r.2) h)) : evFunc tab [] p46 Go.Proofs.Try.f46 [.p 5 0 1 0, .v (.int .i64 n)] (rp6 t j s h) k := by
  obtain ⟨⟨h1, h2, h3, h4, ⟨n0, n1, n2⟩, h6, h7, h8⟩, h9⟩ := h0
  have s0 : s.tick 0 = s := by unfold DF.tick; simp
  have jb := h.jend_b
  repeat' (first
 | (with_reducible first | exact True.intro | apply And.intro | apply If_true | apply If_false | apply If_not)
 | ((with_reducible apply VC.mk); (first | trivial | omega | (simp only [inR]; omega) | (exact ⟨rfl, List.prefix_rfl⟩) | (refine ⟨rfl, rfl, rfl, ?_, rfl⟩; (simp; done)) | (focus (repeat' (first | exact True.intro | apply And.intro | rfl | exact Nat.le_of_ble_eq_true rfl)); done) | (simp [inR, Cont.cells]; done) | (simp [inR, Cont.cells]; omega)))
 | ((with_reducible apply If_dec) <;> intro hc <;> (try (exfalso; omega)))
 | ((with_reducible apply If_any) <;> intro hc)
 | ((with_reducible first | apply PF.mk | apply DrawP.mk); (focus kernel_rfl))
 | ((with_reducible apply Same.mk); (focus rfl); (first | exact trivial | exact rfl))
 | (intro cap hcap)
 | ((fail_if_success (with_reducible first | apply Fin.mk | apply CallP.mk | apply LoopP.mk | apply VC.mk | apply falseMk | apply Round.mk | apply LookP.mk | apply RangeP.mk | apply NextP.mk | apply EntryP.mk | apply Eq.symm)); conv => whnf))
  refine cnin_at t j s h n 0 1 2 3 4 5 ⟨h9, h3⟩ rfl rfl rfl rfl rfl rfl rfl ⟨rfl, rfl, trivial⟩ ?_
  intro r hr
  by_cases hin : 0 ≤ n ∧ n < h.host
  rotate_left
  · rw [if_neg hin] at hr
    subst hr
    have hk2 := hk ((0, 4), 0) ⟨by unfold rgetR; rw [if_neg hin], by decide⟩
    rw [show (((0, 4), 0) : (Int × Int) × Nat).2 = 0 from rfl, s0] at hk2
    repeat' (first
 | (with_reducible first | exact True.intro | apply And.intro | apply If_true | apply If_false | apply If_not)
 | ((with_reducible apply VC.mk); (first | trivial | omega | (simp only [inR]; omega) | (exact ⟨rfl, List.prefix_rfl⟩) | (refine ⟨rfl, rfl, rfl, ?_, rfl⟩; (simp; done)) | (focus (repeat' (first | exact True.intro | apply And.intro | rfl | exact Nat.le_of_ble_eq_true rfl)); done) | (simp [inR, Cont.cells]; done) | (simp [inR, Cont.cells]; omega)))
 | ((with_reducible apply If_dec) <;> intro hc <;> (try (exfalso; omega)))
 | ((with_reducible apply If_any) <;> intro hc)
 | ((with_reducible first | apply PF.mk | apply DrawP.mk); (focus kernel_rfl))
 | ((with_reducible apply Same.mk); (focus rfl); (first | exact trivial | exact rfl))
 | (intro cap hcap)
 | ((fail_if_success (with_reducible first | apply Fin.mk | apply CallP.mk | apply LoopP.mk | apply VC.mk | apply falseMk | apply Round.mk | apply LookP.mk | apply RangeP.mk | apply NextP.mk | apply EntryP.mk | apply Eq.symm)); conv => whnf))
    exact R6.fin rfl rfl rfl rfl rfl rfl hk2
  rw [if_pos hin] at hr
  subst hr
  repeat' (first
 | (with_reducible first | exact True.intro | apply And.intro | apply If_true | apply If_false | apply If_not)
 | ((with_reducible apply VC.mk); (first | trivial | omega | (simp only [inR]; omega) | (exact ⟨rfl, List.prefix_rfl⟩) | (refine ⟨rfl, rfl, rfl, ?_, rfl⟩; (simp; done)) | (focus (repeat' (first | exact True.intro | apply And.intro | rfl | exact Nat.le_of_ble_eq_true rfl)); done) | (simp [inR, Cont.cells]; done) | (simp [inR, Cont.cells]; omega)))
 | ((with_reducible apply If_dec) <;> intro hc <;> (try (exfalso; omega)))
 | ((with_reducible apply If_any) <;> intro hc)
 | ((with_reducible first | apply PF.mk | apply DrawP.mk); (focus kernel_rfl))
 | ((with_reducible apply Same.mk); (focus rfl); (first | exact trivial | exact rfl))
 | (intro cap hcap)
 | ((fail_if_success (with_reducible first | apply Fin.mk | apply CallP.mk | apply LoopP.mk | apply VC.mk | apply falseMk | apply Round.mk | apply LookP.mk | apply RangeP.mk | apply NextP.mk | apply EntryP.mk | apply Eq.symm)); conv => whnf))
  refine hrat_at h h3 ⟨⟨rfl, rfl, rfl, rfl, rfl, trivial⟩, trivial⟩ ?_
  rintro ⟨ra, rb⟩ hr
  obtain ⟨rfl, rfl⟩ : ra = h.jend ∧ rb = h.rend := by cases hr; exact ⟨rfl, rfl⟩
  dsimp only
  repeat' (first
 | (with_reducible first | exact True.intro | apply And.intro | apply If_true | apply If_false | apply If_not)
 | ((with_reducible apply VC.mk); (first | trivial | omega | (simp only [inR]; omega) | (exact ⟨rfl, List.prefix_rfl⟩) | (refine ⟨rfl, rfl, rfl, ?_, rfl⟩; (simp; done)) | (focus (repeat' (first | exact True.intro | apply And.intro | rfl | exact Nat.le_of_ble_eq_true rfl)); done) | (simp [inR, Cont.cells]; done) | (simp [inR, Cont.cells]; omega)))
 | ((with_reducible apply If_dec) <;> intro hc <;> (try (exfalso; omega)))
 | ((with_reducible apply If_any) <;> intro hc)
 | ((with_reducible first | apply PF.mk | apply DrawP.mk); (focus kernel_rfl))
 | ((with_reducible apply Same.mk); (focus rfl); (first | exact trivial | exact rfl))
 | (intro cap hcap)
 | ((fail_if_success (with_reducible first | apply Fin.mk | apply CallP.mk | apply LoopP.mk | apply VC.mk | apply falseMk | apply Round.mk | apply LookP.mk | apply RangeP.mk | apply NextP.mk | apply EntryP.mk | apply Eq.symm)); conv => whnf))
  refine tget_at t j s (h.jend + 2 * n) 2 0 1 2 3 4 ⟨h1, h2, ⟨by simp only [inR]; omega, by simp [inR]⟩, h6, h7, h8⟩ rfl rfl rfl rfl rfl rfl ⟨rfl, rfl, rfl, trivial⟩ ?_
  rintro ⟨l, e, m⟩ hr
  dsimp only at hr ⊢
  have hib : inB (h.jend + 2 * n) 2 := by unfold inB; omega
  rcases hr with ⟨-, e1, e2, e3⟩ | ⟨e1, -⟩
  rotate_left
  · exact absurd hib e1
  have hl : l.length = 2 := by rw [e2, TR.rd_length]; rfl
  have hB : B8 l := by rw [e2]; exact h4.rd _ _
  have hk2 := hk ((leV l, 0), m) ⟨by unfold rgetR; rw [if_pos hin, e2]; rfl, e3⟩
  subst e1
  repeat' (first
 | (with_reducible first | exact True.intro | apply And.intro | apply If_true | apply If_false | apply If_not)
 | ((with_reducible apply VC.mk); (first | trivial | omega | (simp only [inR]; omega) | (exact ⟨rfl, List.prefix_rfl⟩) | (refine ⟨rfl, rfl, rfl, ?_, rfl⟩; (simp; done)) | (focus (repeat' (first | exact True.intro | apply And.intro | rfl | exact Nat.le_of_ble_eq_true rfl)); done) | (simp [inR, Cont.cells]; done) | (simp [inR, Cont.cells]; omega)))
 | ((with_reducible apply If_dec) <;> intro hc <;> (try (exfalso; omega)))
 | ((with_reducible apply If_any) <;> intro hc)
 | ((with_reducible first | apply PF.mk | apply DrawP.mk); (focus kernel_rfl))
 | ((with_reducible apply Same.mk); (focus rfl); (first | exact trivial | exact rfl))
 | (intro cap hcap)
 | ((fail_if_success (with_reducible first | apply Fin.mk | apply CallP.mk | apply LoopP.mk | apply VC.mk | apply falseMk | apply Round.mk | apply LookP.mk | apply RangeP.mk | apply NextP.mk | apply EntryP.mk | apply Eq.symm)); conv => whnf))
  refine U16_at l 0 ⟨by omega, hB, by decide⟩ ⟨⟨rfl, rfl, rfl⟩, rfl, trivial⟩ ?_
  rintro v b (⟨-, -, rfl, rfl⟩ | ⟨hn, -⟩)
  rotate_left
  · exact absurd ⟨by decide, by rw [hl]; decide⟩ hn
  have ev : leV ((l.drop (0 : Int).toNat).take 2) = leV l := by
    rw [show (0 : Int).toNat = 0 from rfl, List.drop_zero, List.take_of_length_le (by omega)]
  rw [ev]
  have vb := leV_bound hB 2
  rw [List.take_of_length_le (by omega)] at vb
  have vb2 : leV l < 65536 := by have := vb.2; simpa using this
  repeat' (first
 | (with_reducible first | exact True.intro | apply And.intro | apply If_true | apply If_false | apply If_not)
 | ((with_reducible apply VC.mk); (first | trivial | omega | (simp only [inR]; omega) | (exact ⟨rfl, List.prefix_rfl⟩) | (refine ⟨rfl, rfl, rfl, ?_, rfl⟩; (simp; done)) | (focus (repeat' (first | exact True.intro | apply And.intro | rfl | exact Nat.le_of_ble_eq_true rfl)); done) | (simp [inR, Cont.cells]; done) | (simp [inR, Cont.cells]; omega)))
 | ((with_reducible apply If_dec) <;> intro hc <;> (try (exfalso; omega)))
 | ((with_reducible apply If_any) <;> intro hc)
 | ((with_reducible first | apply PF.mk | apply DrawP.mk); (focus kernel_rfl))
 | ((with_reducible apply Same.mk); (focus rfl); (first | exact trivial | exact rfl))
 | (intro cap hcap)
 | ((fail_if_success (with_reducible first | apply Fin.mk | apply CallP.mk | apply LoopP.mk | apply VC.mk | apply falseMk | apply Round.mk | apply LookP.mk | apply RangeP.mk | apply NextP.mk | apply EntryP.mk | apply Eq.symm)); conv => whnf))
  exact R6.fin rfl rfl rfl rfl rfl rfl hk2
def cngetOk (x : TR × JR × DF × HD × Int) : Prop := RefOk x.1 x.2.2.1 x.2.2.2.1 ∧ inR .i64 x.2.2.2.2
def cngetRel (x : TR × JR × DF × HD × Int) (r : (Int × Int) × Nat) : Prop := r.1 = rgetR x.1 x.2.2.1.now x.2.2.2.1 x.2.2.2.2 ∧ r.2 ≤ 2
theorem cnget_K : ConOk Go.Proofs.Try.prog 46 (Con.of (TR × JR × DF × HD × Int) ((Int × Int) × Nat) (fun x => [.p 5 0 1 0, .v (.int .i64 x.2.2.2.2)]) (fun x => rp6 x.1 x.2.1 x.2.2.1 x.2.2.2.1) cngetOk cngetRel (fun x r => .tup [.v (.int .i64 r.1.1), .v (.int .i64 r.1.2)]) (fun x r => rp6 (x.1) x.2.1 (x.2.2.1.tick r.2) x.2.2.2.1)) := by
  refine conOk_rel (T := tab) mix Go.Proofs.Try.func46 (by decide +kernel) (by kernel_rfl) [] p46 (fun n => by rw [Go.Proofs.Try.ntmps46]; exact Nat.le_of_ble_eq_true rfl) (fun x r _ _ => R6.good (by simp [AV.noF, noFs, Cont.noF, entsC_noF])) (fun x _ => R6.nd) ?_
  intro x k h0 hk
  exact cnget_c x.1 x.2.1 x.2.2.1 x.2.2.2.1 x.2.2.2.2 k h0 (fun r hr => hk r hr)
theorem cnget_at {avs : List AV} {H : List Chunk} {k : K} (t : TR) (j : JR) (s : DF) (h : HD) (n : Int) (ta tb tc td te tf : Nat) (h0 : RefOk t s h ∧ inR .i64 n) (hn : nodupN [ta, tb, tc, td, te, tf] = true) (ha0 : nth H ta = some (t.c0 td tb tc)) (hb0 : nth H tb = some t.c1) (hc0 : nth H tc = some t.c2) (hd0 : nth H td = some (j.blk te)) (he0 : nth H te = some s.pk) (hf0 : nth H tf = some (rfb h ta)) (ha : argsM H [ta, tb, tc, td, te, tf] [.p 5 0 1 0, .v (.int .i64 n)] avs)
    (hQ : ∀ r : (Int × Int) × Nat, (r.1 = rgetR t s.now h n ∧ r.2 ≤ 2) → k (.tup [.v (.int .i64 r.1.1), .v (.int .i64 r.1.2)]) ((((((H.set ta (TR.c0 (t) td tb tc)).set tb (TR.c1 (t))).set tc (TR.c2 (t))).set td (j.blk te)).set te (DF.pk (s.tick r.2))).set tf (rfb h ta))) : CallP Go.Proofs.Try.prog 46 avs H k :=
  CallP.mk ⟨_, cnget_K.real, Con.spec cnget_K, (t, j, s, h, n), [ta, tb, tc, td, te, tf], ⟨h0, hn, ⟨ha0, hb0.trans (congrArg some (TR.c1_ren t _).symm), hc0, hd0, he0, hf0, trivial⟩, ha⟩, fun r hr => (numK_eq _ _).mpr (by simpa [rp6, putAll, TR.c0_ren, TR.c1_ren, TR.c2_ren, JR.blk_ren, DF.pk_ren, rfb_ren, AV.ren, rens, Cont.ren, entsC_ren, fren, nth] using hQ r hr)⟩
def CSet (t : TR) (now : List Int) (h : HD) (n c : Int) (r : Int × TR × Nat) : Prop :=
  ¬ (0 ≤ n ∧ n < h.host) ∧ r = (4, t, 0) ∨ (0 ≤ n ∧ n < h.host) ∧ ¬ (0 ≤ c ∧ c ≤ 65535) ∧ r = (20, t, 0) ∨ (0 ≤ n ∧ n < h.host) ∧ (0 ≤ c ∧ c ≤ 65535) ∧ r.1 = 0 ∧ r.2.1 = t.put now (h.jend + 2 * n).toNat (leB 2 c) ∧ r.2.2 ≤ 2
set_option maxHeartbeats 8000000 in
theorem cnset_c (t : TR) (j : JR) (s : DF) (h : HD) (n c : Int) (k : K) (h0 : RefOk t s h ∧ inR .i64 n ∧ inR .i64 c ∧ t.over = false) (hk : ∀ r : Int × TR × Nat, CSet t s.now h n c r → k (.v (.int .i64 r.1)) (rp6 r.2.1 j (s.tick r.2.2) h)) : evFunc tab [] p53 Go.Proofs.Try.f53 [.p 5 0 1 0, .v (.int .i64 n), .v (.int .i64 c)] (rp6 t j s h) k := by
  obtain ⟨⟨h1, h2, h3, h4, ⟨n0, n1, n2⟩, h6, h7, h8⟩, h9, hcr, hov⟩ := h0
  have s0 : s.tick 0 = s := by unfold DF.tick; simp
  have jb := h.jend_b
  have bad : ∀ e : Int, CSet t s.now h n c (e, t, 0) → k (.v (.int .i64 e)) (rp6 t j s h) := by
    intro e hb
    have := hk (e, t, 0) hb
    rw [show ((e, t, 0) : Int × TR × Nat).2.2 = 0 from rfl, s0] at this
    exact this
  repeat' (first
 | (with_reducible first | exact True.intro | apply And.intro | apply If_true | apply If_false | apply If_not)
 | ((with_reducible apply VC.mk); (first | trivial | omega | (simp only [inR]; omega) | (exact ⟨rfl, List.prefix_rfl⟩) | (refine ⟨rfl, rfl, rfl, ?_, rfl⟩; (simp; done)) | (focus (repeat' (first | exact True.intro | apply And.intro | rfl | exact Nat.le_of_ble_eq_true rfl)); done) | (simp [inR, Cont.cells]; done) | (simp [inR, Cont.cells]; omega)))
 | ((with_reducible apply If_dec) <;> intro hc <;> (try (exfalso; omega)))
 | ((with_reducible apply If_any) <;> intro hc)
 | ((with_reducible first | apply PF.mk | apply DrawP.mk); (focus kernel_rfl))
 | ((with_reducible apply Same.mk); (focus rfl); (first | exact trivial | exact rfl))
 | (intro cap hcap)
 | ((fail_if_success (with_reducible first | apply Fin.mk | apply CallP.mk | apply LoopP.mk | apply VC.mk | apply falseMk | apply Round.mk | apply LookP.mk | apply RangeP.mk | apply NextP.mk | apply EntryP.mk | apply Eq.symm)); conv => whnf))
  refine cnin_at t j s h n 0 1 2 3 4 5 ⟨h9, h3⟩ rfl rfl rfl rfl rfl rfl rfl ⟨rfl, rfl, trivial⟩ ?_
  intro r hr
  by_cases hin : 0 ≤ n ∧ n < h.host
  rotate_left
  · rw [if_neg hin] at hr
    subst hr
    repeat' (first
 | (with_reducible first | exact True.intro | apply And.intro | apply If_true | apply If_false | apply If_not)
 | ((with_reducible apply VC.mk); (first | trivial | omega | (simp only [inR]; omega) | (exact ⟨rfl, List.prefix_rfl⟩) | (refine ⟨rfl, rfl, rfl, ?_, rfl⟩; (simp; done)) | (focus (repeat' (first | exact True.intro | apply And.intro | rfl | exact Nat.le_of_ble_eq_true rfl)); done) | (simp [inR, Cont.cells]; done) | (simp [inR, Cont.cells]; omega)))
 | ((with_reducible apply If_dec) <;> intro hc <;> (try (exfalso; omega)))
 | ((with_reducible apply If_any) <;> intro hc)
 | ((with_reducible first | apply PF.mk | apply DrawP.mk); (focus kernel_rfl))
 | ((with_reducible apply Same.mk); (focus rfl); (first | exact trivial | exact rfl))
 | (intro cap hcap)
 | ((fail_if_success (with_reducible first | apply Fin.mk | apply CallP.mk | apply LoopP.mk | apply VC.mk | apply falseMk | apply Round.mk | apply LookP.mk | apply RangeP.mk | apply NextP.mk | apply EntryP.mk | apply Eq.symm)); conv => whnf))
    exact R6.fin rfl rfl rfl rfl rfl rfl (bad 4 (.inl ⟨hin, rfl⟩))
  rw [if_pos hin] at hr
  subst hr
  repeat' (first
 | (with_reducible first | exact True.intro | apply And.intro | apply If_true | apply If_false | apply If_not)
 | ((with_reducible apply VC.mk); (first | trivial | omega | (simp only [inR]; omega) | (exact ⟨rfl, List.prefix_rfl⟩) | (refine ⟨rfl, rfl, rfl, ?_, rfl⟩; (simp; done)) | (focus (repeat' (first | exact True.intro | apply And.intro | rfl | exact Nat.le_of_ble_eq_true rfl)); done) | (simp [inR, Cont.cells]; done) | (simp [inR, Cont.cells]; omega)))
 | ((with_reducible apply If_dec) <;> intro hc <;> (try (exfalso; omega)))
 | ((with_reducible apply If_any) <;> intro hc)
 | ((with_reducible first | apply PF.mk | apply DrawP.mk); (focus kernel_rfl))
 | ((with_reducible apply Same.mk); (focus rfl); (first | exact trivial | exact rfl))
 | (intro cap hcap)
 | ((fail_if_success (with_reducible first | apply Fin.mk | apply CallP.mk | apply LoopP.mk | apply VC.mk | apply falseMk | apply Round.mk | apply LookP.mk | apply RangeP.mk | apply NextP.mk | apply EntryP.mk | apply Eq.symm)); conv => whnf))
  · exact R6.fin rfl rfl rfl rfl rfl rfl (bad 20 (.inr (.inl ⟨hin, by omega, rfl⟩)))
  · exact R6.fin rfl rfl rfl rfl rfl rfl (bad 20 (.inr (.inl ⟨hin, by omega, rfl⟩)))
  have hcc : 0 ≤ c ∧ c ≤ 65535 := by omega
  refine Put16_at (List.replicate 2 0) 2 0 c 6 ⟨by decide, by decide, by decide⟩ rfl ⟨rfl, rfl, rfl, trivial⟩ ?_
  have eq : putB (List.replicate 2 0) (0 : Int).toNat 2 c = leB 2 c := by
    rw [putB_eq _ _ _ _ (by decide)]
    show [] ++ leB 2 c ++ [] = _
    simp
  rw [eq]
  obtain ⟨p, hp⟩ : ∃ p, p = leB 2 c := ⟨_, rfl⟩
  have hpl : p.length = 2 := by rw [hp]; exact leB_length ..
  rw [← hp]
  repeat' (first
 | (with_reducible first | exact True.intro | apply And.intro | apply If_true | apply If_false | apply If_not)
 | ((with_reducible apply VC.mk); (first | trivial | omega | (simp only [inR]; omega) | (exact ⟨rfl, List.prefix_rfl⟩) | (refine ⟨rfl, rfl, rfl, ?_, rfl⟩; (simp; done)) | (focus (repeat' (first | exact True.intro | apply And.intro | rfl | exact Nat.le_of_ble_eq_true rfl)); done) | (simp [inR, Cont.cells]; done) | (simp [inR, Cont.cells]; omega)))
 | ((with_reducible apply If_dec) <;> intro hc <;> (try (exfalso; omega)))
 | ((with_reducible apply If_any) <;> intro hc)
 | ((with_reducible first | apply PF.mk | apply DrawP.mk); (focus kernel_rfl))
 | ((with_reducible apply Same.mk); (focus rfl); (first | exact trivial | exact rfl))
 | (intro cap hcap)
 | ((fail_if_success (with_reducible first | apply Fin.mk | apply CallP.mk | apply LoopP.mk | apply VC.mk | apply falseMk | apply Round.mk | apply LookP.mk | apply RangeP.mk | apply NextP.mk | apply EntryP.mk | apply Eq.symm)); conv => whnf))
  refine hrat_at h h3 ⟨⟨rfl, rfl, rfl, rfl, rfl, trivial⟩, trivial⟩ ?_
  rintro ⟨ra, rb⟩ hr
  obtain ⟨rfl, rfl⟩ : ra = h.jend ∧ rb = h.rend := by cases hr; exact ⟨rfl, rfl⟩
  dsimp only
  repeat' (first
 | (with_reducible first | exact True.intro | apply And.intro | apply If_true | apply If_false | apply If_not)
 | ((with_reducible apply VC.mk); (first | trivial | omega | (simp only [inR]; omega) | (exact ⟨rfl, List.prefix_rfl⟩) | (refine ⟨rfl, rfl, rfl, ?_, rfl⟩; (simp; done)) | (focus (repeat' (first | exact True.intro | apply And.intro | rfl | exact Nat.le_of_ble_eq_true rfl)); done) | (simp [inR, Cont.cells]; done) | (simp [inR, Cont.cells]; omega)))
 | ((with_reducible apply If_dec) <;> intro hc <;> (try (exfalso; omega)))
 | ((with_reducible apply If_any) <;> intro hc)
 | ((with_reducible first | apply PF.mk | apply DrawP.mk); (focus kernel_rfl))
 | ((with_reducible apply Same.mk); (focus rfl); (first | exact trivial | exact rfl))
 | (intro cap hcap)
 | ((fail_if_success (with_reducible first | apply Fin.mk | apply CallP.mk | apply LoopP.mk | apply VC.mk | apply falseMk | apply Round.mk | apply LookP.mk | apply RangeP.mk | apply NextP.mk | apply EntryP.mk | apply Eq.symm)); conv => whnf))
  refine tput_at t j s (h.jend + 2 * n) p 0 1 2 3 4 ⟨h1, h2, ⟨by simp only [inR]; omega, by omega⟩, h6, h7, h8⟩ rfl rfl rfl rfl rfl rfl ⟨rfl, rfl, ?_, trivial⟩ ?_
  rotate_left
  · rintro ⟨e2, t2, m⟩ hr
    dsimp only at hr ⊢
    have hib : inB (h.jend + 2 * n) p.length := by unfold inB; omega
    rcases hr with ⟨e1, -⟩ | ⟨-, e1, -⟩ | ⟨-, -, e1, e3, e4⟩
    · rw [hov] at e1; cases e1
    · exact absurd hib e1
    have hk2 := hk (e2, t2, m) (.inr (.inr ⟨hin, hcc, e1, by rw [e3, hp], by rw [hpl] at e4; exact e4⟩))
    repeat' (first
 | (with_reducible first | exact True.intro | apply And.intro | apply If_true | apply If_false | apply If_not)
 | ((with_reducible apply VC.mk); (first | trivial | omega | (simp only [inR]; omega) | (exact ⟨rfl, List.prefix_rfl⟩) | (refine ⟨rfl, rfl, rfl, ?_, rfl⟩; (simp; done)) | (focus (repeat' (first | exact True.intro | apply And.intro | rfl | exact Nat.le_of_ble_eq_true rfl)); done) | (simp [inR, Cont.cells]; done) | (simp [inR, Cont.cells]; omega)))
 | ((with_reducible apply If_dec) <;> intro hc <;> (try (exfalso; omega)))
 | ((with_reducible apply If_any) <;> intro hc)
 | ((with_reducible first | apply PF.mk | apply DrawP.mk); (focus kernel_rfl))
 | ((with_reducible apply Same.mk); (focus rfl); (first | exact trivial | exact rfl))
 | (intro cap hcap)
 | ((fail_if_success (with_reducible first | apply Fin.mk | apply CallP.mk | apply LoopP.mk | apply VC.mk | apply falseMk | apply Round.mk | apply LookP.mk | apply RangeP.mk | apply NextP.mk | apply EntryP.mk | apply Eq.symm)); conv => whnf))
    exact R6.fin rfl rfl rfl rfl rfl rfl hk2
  · refine ⟨?_, rfl, hpl.symm, ?_, rfl, Nat.one_pos⟩
    · show 0 + Int.toNat 2 ≤ p.length; rw [hpl]; decide
    · simp only [Cont.low, Cont.ren, Int.toNat_zero, List.drop_zero, List.take_take, Nat.min_self]
      simp [Cont.same, List.take_of_length_le, hpl]
def cnsetOk (x : TR × JR × DF × HD × Int × Int) : Prop := RefOk x.1 x.2.2.1 x.2.2.2.1 ∧ inR .i64 x.2.2.2.2.1 ∧ inR .i64 x.2.2.2.2.2 ∧ x.1.over = false
def cnsetRel (x : TR × JR × DF × HD × Int × Int) (r : Int × TR × Nat) : Prop := CSet x.1 x.2.2.1.now x.2.2.2.1 x.2.2.2.2.1 x.2.2.2.2.2 r
theorem cnset_K : ConOk Go.Proofs.Try.prog 53 (Con.of (TR × JR × DF × HD × Int × Int) (Int × TR × Nat) (fun x => [.p 5 0 1 0, .v (.int .i64 x.2.2.2.2.1), .v (.int .i64 x.2.2.2.2.2)]) (fun x => rp6 x.1 x.2.1 x.2.2.1 x.2.2.2.1) cnsetOk cnsetRel (fun x r => .v (.int .i64 r.1)) (fun x r => rp6 (r.2.1) x.2.1 (x.2.2.1.tick r.2.2) x.2.2.2.1)) := by
  refine conOk_rel (T := tab) mix Go.Proofs.Try.func53 (by decide +kernel) (by kernel_rfl) [] p53 (fun n => by rw [Go.Proofs.Try.ntmps53]; exact Nat.le_of_ble_eq_true rfl) (fun x r _ _ => R6.good (by simp [AV.noF, noFs, Cont.noF, entsC_noF])) (fun x _ => R6.nd) ?_
  intro x k h0 hk
  exact cnset_c x.1 x.2.1 x.2.2.1 x.2.2.2.1 x.2.2.2.2.1 x.2.2.2.2.2 k h0 (fun r hr => hk r hr)
theorem cnset_at {avs : List AV} {H : List Chunk} {k : K} (t : TR) (j : JR) (s : DF) (h : HD) (n : Int) (c : Int) (ta tb tc td te tf : Nat) (h0 : RefOk t s h ∧ inR .i64 n ∧ inR .i64 c ∧ t.over = false) (hn : nodupN [ta, tb, tc, td, te, tf] = true) (ha0 : nth H ta = some (t.c0 td tb tc)) (hb0 : nth H tb = some t.c1) (hc0 : nth H tc = some t.c2) (hd0 : nth H td = some (j.blk te)) (he0 : nth H te = some s.pk) (hf0 : nth H tf = some (rfb h ta)) (ha : argsM H [ta, tb, tc, td, te, tf] [.p 5 0 1 0, .v (.int .i64 n), .v (.int .i64 c)] avs)
    (hQ : ∀ r : Int × TR × Nat, (CSet t s.now h n c r) → k (.v (.int .i64 r.1)) ((((((H.set ta (TR.c0 (r.2.1) td tb tc)).set tb (TR.c1 (r.2.1))).set tc (TR.c2 (r.2.1))).set td (j.blk te)).set te (DF.pk (s.tick r.2.2))).set tf (rfb h ta))) : CallP Go.Proofs.Try.prog 53 avs H k :=
  CallP.mk ⟨_, cnset_K.real, Con.spec cnset_K, (t, j, s, h, n, c), [ta, tb, tc, td, te, tf], ⟨h0, hn, ⟨ha0, hb0.trans (congrArg some (TR.c1_ren t _).symm), hc0, hd0, he0, hf0, trivial⟩, ha⟩, fun r hr => (numK_eq _ _).mpr (by simpa [rp6, putAll, TR.c0_ren, TR.c1_ren, TR.c2_ren, JR.blk_ren, DF.pk_ren, rfb_ren, AV.ren, rens, Cont.ren, entsC_ren, fren, nth] using hQ r hr)⟩
end Go.Proofs.Ytjccknmgmommcaa.Sx

