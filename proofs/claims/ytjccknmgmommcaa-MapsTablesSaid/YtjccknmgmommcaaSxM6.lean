import Derived.Test.YtjccknmgmommcaaSxM5
import Derived.Test.YtjccknmgmommcaaSxX4
import Derived.Test.YtjccknmgmommcaaSxO1
import Derived.Test.YtjccknmgmommcaaSxJ5
set_option linter.unusedVariables false
set_option linter.unusedSimpArgs false
set_option maxRecDepth 10000
namespace Go.Proofs.Ytjccknmgmommcaa.Sx
open Go.RowKit Go.Proofs.Ytjccknmgmommcaa.Sx.Tb
/-! ### A table over its tx -/
def entAV (x : ER) : List AV := [.v (.int .i64 x.kind), .v (.int .i64 x.cl), .v (.bool x.own)]
def entsC (es : List ER) : Cont := .recs 3 es.length (fun i => entAV (es.getD i ⟨0, 0, false⟩))
theorem entsC_noF (es : List ER) : (entsC es).noF := fun j hj => ⟨trivial, trivial, trivial, trivial⟩
theorem entsC_ren (es : List ER) (f : Nat → Nat) : (entsC es).ren f = entsC es := rfl
def tp6 (t : TR) (j : JR) (s : DF) (h : HD) (n : Int) : List Chunk := [t.c0 3 1 2, t.c1, t.c2, j.blk 4, s.pk, mtb h n 0]
theorem mtb_le {H : List Chunk} {fz : List Nat} {f : Nat → Nat} {ph : Nat → Bool} {h : HD} {n : Int} {a i : Nat} (fi : f 0 = a) (h0 : nth H i = some (mtb h n a)) (hz : memN i fz = false) : (mtb h n 0).le H fz f ph i := by
  unfold Chunk.le mtb
  simp only
  rw [nth_lt h0, hz, h0]
  exact ⟨VC.mk ⟨rfl, rfl⟩, VC.mk rfl, VC.mk rfl, VC.mk rfl, VC.mk rfl, VC.mk rfl, VC.mk ⟨fi, rfl, rfl, rfl⟩, VC.mk rfl, trivial⟩
theorem fix6 {N : Nat} {σ : List Nat} : ∀ i, i < 6 → fren (0 :: 1 :: 2 :: 3 :: 4 :: 5 :: σ) N i = i := fun i hi => by
  match i, hi with
  | 0, _ => rfl
  | 1, _ => rfl
  | 2, _ => rfl
  | 3, _ => rfl
  | 4, _ => rfl
  | 5, _ => rfl
theorem T6.le {H : List Chunk} {f : Nat → Nat} {ph : Nat → Bool} {t : TR} {j : JR} {s : DF} {h : HD} {n : Int} {σ : List Nat} {cs : List Chunk} (f0 : f 0 = 0) (f1 : f 1 = 1) (f2 : f 2 = 2) (f3 : f 3 = 3) (f4 : f 4 = 4) (h0 : nth H 0 = some (t.c0 3 1 2)) (h1 : nth H 1 = some t.c1) (h2 : nth H 2 = some t.c2) (h3 : nth H 3 = some (j.blk 4)) (h4 : nth H 4 = some s.pk) (h5 : nth H 5 = some (mtb h n 0)) (hx : chunksLe H [] f ph σ cs) : chunksLe H [] f ph (0 :: 1 :: 2 :: 3 :: 4 :: 5 :: σ) (tp6 t j s h n ++ cs) :=
  T5.leG f1 f2 f3 f4 h0 h1 h2 h3 h4 ⟨rfl, rfl, rfl, rfl, rfl⟩ (cs := mtb h n 0 :: cs) ⟨mtb_le f0 h5 rfl, hx⟩
theorem T6.fin {H : List Chunk} {t : TR} {j : JR} {s : DF} {h : HD} {n : Int} {v : AV} {k : K} (h0 : nth H 0 = some (t.c0 3 1 2)) (h1 : nth H 1 = some t.c1) (h2 : nth H 2 = some t.c2) (h3 : nth H 3 = some (j.blk 4)) (h4 : nth H 4 = some s.pk) (h5 : nth H 5 = some (mtb h n 0)) (hk : k v (tp6 t j s h n)) (hv : v.inN 6 := by simp [AV.inN, inNs, Cont.inN]) : Fin 6 v H k :=
  Fin.ren [0, 1, 2, 3, 4, 5] [] v (tp6 t j s h n) rfl rfl trivial (T6.le rfl rfl rfl rfl rfl h0 h1 h2 h3 h4 h5 (cs := []) trivial) (AV.le_refl fix6 hv) hk
theorem T6.good {t : TR} {j : JR} {s : DF} {h : HD} {n : Int} {v : AV} (hv : v.noF) : Good 6 v (tp6 t j s h n) := by
  refine ⟨hv, fun c hc => ?_, Nat.le_refl _⟩
  rcases List.mem_append.1 (show c ∈ tpre t j s ++ [mtb h n 0] from hc) with hc | hc
  · exact (T5.good (v := .v (.bool true)) trivial).2.1 c hc
  · simp at hc; subst hc; exact .blk ⟨trivial, trivial, trivial, trivial, trivial, trivial, trivial, trivial⟩
theorem T6.nd {t : TR} {j : JR} {s : DF} {h : HD} {n : Int} : ∀ c ∈ tp6 t j s h n, c.lives := by
  intro c hc
  rcases List.mem_append.1 (show c ∈ tpre t j s ++ [mtb h n 0] from hc) with hc | hc
  · exact T5.nd c hc
  · simp at hc; subst hc; trivial
theorem mwhere_c (t : TR) (j : JR) (s : DF) (h : HD) (n : Int) (k : K) (h0 : True) (hk : ∀ r : Unit, True → k (.v (.int .i64 n)) (tp6 t j s h n)) : evFunc tab [] [] Go.Proofs.Try.f37 [.p 5 0 1 0] (tp6 t j s h n) k := by
  repeat' (first
 | (with_reducible first | exact True.intro | apply And.intro | apply If_true | apply If_false | apply If_not)
 | ((with_reducible apply VC.mk); (first | trivial | omega | (simp only [inR]; omega) | (exact ⟨rfl, List.prefix_rfl⟩) | (refine ⟨rfl, rfl, rfl, ?_, rfl⟩; (simp; done)) | (focus (repeat' (first | exact True.intro | apply And.intro | rfl | exact Nat.le_of_ble_eq_true rfl)); done) | (simp [inR, Cont.cells]; done) | (simp [inR, Cont.cells]; omega)))
 | ((with_reducible apply If_dec) <;> intro hc <;> (try (exfalso; omega)))
 | ((with_reducible apply If_any) <;> intro hc)
 | ((with_reducible first | apply PF.mk | apply DrawP.mk); (focus kernel_rfl))
 | ((with_reducible apply Same.mk); (focus rfl); (first | exact trivial | exact rfl))
 | (intro cap hcap)
 | ((fail_if_success (with_reducible first | apply Fin.mk | apply CallP.mk | apply LoopP.mk | apply VC.mk | apply falseMk | apply Round.mk | apply LookP.mk | apply RangeP.mk | apply NextP.mk | apply EntryP.mk | apply Eq.symm)); conv => whnf))
  exact T6.fin rfl rfl rfl rfl rfl rfl (hk () trivial)
def mwhereOk (x : TR × JR × DF × HD × Int) : Prop := True
def mwhereRel (x : TR × JR × DF × HD × Int) (r : Unit) : Prop := True
theorem mwhere_K : ConOk Go.Proofs.Try.prog 37 (Con.of (TR × JR × DF × HD × Int) (Unit) (fun x => [.p 5 0 1 0]) (fun x => tp6 x.1 x.2.1 x.2.2.1 x.2.2.2.1 x.2.2.2.2) mwhereOk mwhereRel (fun x r => .v (.int .i64 x.2.2.2.2)) (fun x r => tp6 (x.1) x.2.1 (x.2.2.1) x.2.2.2.1 x.2.2.2.2)) := by
  refine conOk_rel (T := tab) mix Go.Proofs.Try.func37 (by decide +kernel) (by kernel_rfl) [] [] (fun n => by rw [Go.Proofs.Try.ntmps37]; exact Nat.le_of_ble_eq_true rfl) (fun x r _ _ => T6.good (by simp [AV.noF, noFs, Cont.noF, entsC_noF])) (fun x _ => T6.nd) ?_
  intro x k h0 hk
  exact mwhere_c x.1 x.2.1 x.2.2.1 x.2.2.2.1 x.2.2.2.2 k h0 (fun r hr => hk r hr)
theorem mwhere_at {avs : List AV} {H : List Chunk} {k : K} (t : TR) (j : JR) (s : DF) (h : HD) (n : Int) (ta tb tc td te tf : Nat) (h0 : True) (hn : nodupN [ta, tb, tc, td, te, tf] = true) (ha0 : nth H ta = some (t.c0 td tb tc)) (hb0 : nth H tb = some t.c1) (hc0 : nth H tc = some t.c2) (hd0 : nth H td = some (j.blk te)) (he0 : nth H te = some s.pk) (hf0 : nth H tf = some (mtb h n ta)) (ha : argsM H [ta, tb, tc, td, te, tf] [.p 5 0 1 0] avs)
    (hQ : ∀ r : Unit, (True) → k (.v (.int .i64 n)) ((((((H.set ta (TR.c0 (t) td tb tc)).set tb (TR.c1 (t))).set tc (TR.c2 (t))).set td (j.blk te)).set te (DF.pk (s))).set tf (mtb h n ta))) : CallP Go.Proofs.Try.prog 37 avs H k :=
  CallP.mk ⟨_, mwhere_K.real, Con.spec mwhere_K, (t, j, s, h, n), [ta, tb, tc, td, te, tf], ⟨h0, hn, ⟨ha0, hb0.trans (congrArg some (TR.c1_ren t _).symm), hc0, hd0, he0, hf0, trivial⟩, ha⟩, fun r hr => (numK_eq _ _).mpr (by simpa [tp6, putAll, TR.c0_ren, TR.c1_ren, TR.c2_ren, JR.blk_ren, DF.pk_ren, mtb_ren, AV.ren, rens, Cont.ren, entsC_ren, fren, nth] using hQ r hr)⟩
def TabOk (t : TR) (s : DF) (h : HD) (n : Int) : Prop := t.Ok ∧ s.live ∧ hR h ∧ t.B s.now ∧ (1 ≤ n ∧ n ≤ 8192 ∧ (n + 1) * h.clus ≤ 4194304) ∧ 0 ≤ s.ops ∧ s.ops ≤ 274877906944 ∧ s.now.length ≤ 4194304
def getR (t : TR) (now : List Int) (h : HD) (n i : Int) : ER × Int := if 0 ≤ i ∧ i < h.clus / 8 then decV (leV (t.rd now (n * h.clus + 8 * i).toNat 8)) else (⟨0, 0, false⟩, 4)
set_option maxHeartbeats 8000000 in
theorem mget_c (t : TR) (j : JR) (s : DF) (h : HD) (n i : Int) (k : K) (h0 : TabOk t s h n ∧ inR .i64 i) (hk : ∀ r : (ER × Int) × Nat, r.1 = getR t s.now h n i ∧ r.2 ≤ 8 → k (.tup [.agg [.v (.int .i64 r.1.1.kind), .v (.int .i64 r.1.1.cl), .v (.bool r.1.1.own)], .v (.int .i64 r.1.2)]) (tp6 t j (s.tick r.2) h n)) : evFunc tab [] p41 Go.Proofs.Try.f41 [.p 5 0 1 0, .v (.int .i64 i)] (tp6 t j s h n) k := by
  obtain ⟨⟨h1, h2, h3, h4, ⟨n1, n2, n3⟩, h6, h7, h8⟩, h9⟩ := h0
  have s0 : s.tick 0 = s := by unfold DF.tick; simp
  have cb := h.clus_b
  have nb : 512 ≤ n * h.clus ∧ n * h.clus + h.clus ≤ 4194304 := by
    have e : (n + 1) * h.clus = n * h.clus + h.clus := by rw [Int.add_mul]; omega
    have e2 : 1 * h.clus ≤ n * h.clus := Int.mul_le_mul_of_nonneg_right n1 (by omega)
    omega
  have bad : ¬ (0 ≤ i ∧ i < h.clus / 8) → k (.tup [.agg [.v (.int .i64 0), .v (.int .i64 0), .v (.bool false)], .v (.int .i64 4)]) (tp6 t j s h n) := by
    intro hb
    have := hk ((⟨0, 0, false⟩, 4), 0) ⟨by unfold getR; rw [if_neg hb], by decide⟩
    rw [show (((⟨0, 0, false⟩, 4), 0) : (ER × Int) × Nat).2 = 0 from rfl, s0] at this
    exact this
  repeat' (first
 | (with_reducible first | exact True.intro | apply And.intro | apply If_true | apply If_false | apply If_not)
 | ((with_reducible apply VC.mk); (first | trivial | omega | (simp only [inR]; omega) | (exact ⟨rfl, List.prefix_rfl⟩) | (refine ⟨rfl, rfl, rfl, ?_, rfl⟩; (simp; done)) | (focus (repeat' (first | exact True.intro | apply And.intro | rfl | exact Nat.le_of_ble_eq_true rfl)); done) | (simp [inR, Cont.cells]; done) | (simp [inR, Cont.cells]; omega)))
 | ((with_reducible apply If_dec) <;> intro hc <;> (try (exfalso; omega)))
 | ((with_reducible apply If_any) <;> intro hc)
 | ((with_reducible first | apply PF.mk | apply DrawP.mk); (focus kernel_rfl))
 | ((with_reducible apply Same.mk); (focus rfl); (first | exact trivial | exact rfl))
 | (intro cap hcap)
 | ((fail_if_success (with_reducible first | apply Fin.mk | apply CallP.mk | apply LoopP.mk | apply VC.mk | apply falseMk | apply Round.mk | apply LookP.mk | apply RangeP.mk | apply NextP.mk | apply EntryP.mk | apply Eq.symm)); conv => whnf))
  · exact T6.fin rfl rfl rfl rfl rfl rfl (bad (by omega))
  refine hentries_at h h3 ⟨⟨rfl, rfl, rfl, rfl, rfl, trivial⟩, trivial⟩ ?_
  rintro _ rfl
  repeat' (first
 | (with_reducible first | exact True.intro | apply And.intro | apply If_true | apply If_false | apply If_not)
 | ((with_reducible apply VC.mk); (first | trivial | omega | (simp only [inR]; omega) | (exact ⟨rfl, List.prefix_rfl⟩) | (refine ⟨rfl, rfl, rfl, ?_, rfl⟩; (simp; done)) | (focus (repeat' (first | exact True.intro | apply And.intro | rfl | exact Nat.le_of_ble_eq_true rfl)); done) | (simp [inR, Cont.cells]; done) | (simp [inR, Cont.cells]; omega)))
 | ((with_reducible apply If_dec) <;> intro hc <;> (try (exfalso; omega)))
 | ((with_reducible apply If_any) <;> intro hc)
 | ((with_reducible first | apply PF.mk | apply DrawP.mk); (focus kernel_rfl))
 | ((with_reducible apply Same.mk); (focus rfl); (first | exact trivial | exact rfl))
 | (intro cap hcap)
 | ((fail_if_success (with_reducible first | apply Fin.mk | apply CallP.mk | apply LoopP.mk | apply VC.mk | apply falseMk | apply Round.mk | apply LookP.mk | apply RangeP.mk | apply NextP.mk | apply EntryP.mk | apply Eq.symm)); conv => whnf))
  · exact T6.fin rfl rfl rfl rfl rfl rfl (bad (by omega))
  have hin : 0 ≤ i ∧ i < h.clus / 8 := by omega
  refine hclus_at h h3 ⟨⟨rfl, rfl, rfl, rfl, rfl, trivial⟩, trivial⟩ ?_
  rintro _ rfl
  repeat' (first
 | (with_reducible first | exact True.intro | apply And.intro | apply If_true | apply If_false | apply If_not)
 | ((with_reducible apply VC.mk); (first | trivial | omega | (simp only [inR]; omega) | (exact ⟨rfl, List.prefix_rfl⟩) | (refine ⟨rfl, rfl, rfl, ?_, rfl⟩; (simp; done)) | (focus (repeat' (first | exact True.intro | apply And.intro | rfl | exact Nat.le_of_ble_eq_true rfl)); done) | (simp [inR, Cont.cells]; done) | (simp [inR, Cont.cells]; omega)))
 | ((with_reducible apply If_dec) <;> intro hc <;> (try (exfalso; omega)))
 | ((with_reducible apply If_any) <;> intro hc)
 | ((with_reducible first | apply PF.mk | apply DrawP.mk); (focus kernel_rfl))
 | ((with_reducible apply Same.mk); (focus rfl); (first | exact trivial | exact rfl))
 | (intro cap hcap)
 | ((fail_if_success (with_reducible first | apply Fin.mk | apply CallP.mk | apply LoopP.mk | apply VC.mk | apply falseMk | apply Round.mk | apply LookP.mk | apply RangeP.mk | apply NextP.mk | apply EntryP.mk | apply Eq.symm)); conv => whnf))
  refine tget_at t j s (n * h.clus + 8 * i) 8 0 1 2 3 4 ⟨h1, h2, ⟨by simp only [inR]; omega, by simp [inR]⟩, h6, h7, h8⟩ rfl rfl rfl rfl rfl rfl ⟨rfl, rfl, rfl, trivial⟩ ?_
  rintro ⟨l, e, m⟩ hr
  dsimp only at hr ⊢
  have hib : inB (n * h.clus + 8 * i) 8 := by unfold inB; omega
  rcases hr with ⟨-, e1, e2, e3⟩ | ⟨e1, -⟩
  rotate_left
  · exact absurd hib e1
  have hl : l.length = 8 := by rw [e2, TR.rd_length]; rfl
  have hB : B8 l := by rw [e2]; exact h4.rd _ _
  have hk2 := hk (decV (leV l), m) ⟨by unfold getR; rw [if_pos hin, e2]; rfl, e3⟩
  subst e1
  repeat' (first
 | (with_reducible first | exact True.intro | apply And.intro | apply If_true | apply If_false | apply If_not)
 | ((with_reducible apply VC.mk); (first | trivial | omega | (simp only [inR]; omega) | (exact ⟨rfl, List.prefix_rfl⟩) | (refine ⟨rfl, rfl, rfl, ?_, rfl⟩; (simp; done)) | (focus (repeat' (first | exact True.intro | apply And.intro | rfl | exact Nat.le_of_ble_eq_true rfl)); done) | (simp [inR, Cont.cells]; done) | (simp [inR, Cont.cells]; omega)))
 | ((with_reducible apply If_dec) <;> intro hc <;> (try (exfalso; omega)))
 | ((with_reducible apply If_any) <;> intro hc)
 | ((with_reducible first | apply PF.mk | apply DrawP.mk); (focus kernel_rfl))
 | ((with_reducible apply Same.mk); (focus rfl); (first | exact trivial | exact rfl))
 | (intro cap hcap)
 | ((fail_if_success (with_reducible first | apply Fin.mk | apply CallP.mk | apply LoopP.mk | apply VC.mk | apply falseMk | apply Round.mk | apply LookP.mk | apply RangeP.mk | apply NextP.mk | apply EntryP.mk | apply Eq.symm)); conv => whnf))
  refine U64_at l 0 ⟨by omega, hB, by decide⟩ ⟨⟨rfl, rfl, rfl⟩, rfl, trivial⟩ ?_
  rintro v b (⟨-, -, rfl, rfl⟩ | ⟨hn, -⟩)
  rotate_left
  · exact absurd ⟨by decide, by rw [hl]; decide⟩ hn
  have ev : leV ((l.drop (0 : Int).toNat).take 8) = leV l := by
    rw [show (0 : Int).toNat = 0 from rfl, List.drop_zero, List.take_of_length_le (by omega)]
  rw [ev]
  have vb := leV_bound hB 8
  rw [List.take_of_length_le (by omega)] at vb
  repeat' (first
 | (with_reducible first | exact True.intro | apply And.intro | apply If_true | apply If_false | apply If_not)
 | ((with_reducible apply VC.mk); (first | trivial | omega | (simp only [inR]; omega) | (exact ⟨rfl, List.prefix_rfl⟩) | (refine ⟨rfl, rfl, rfl, ?_, rfl⟩; (simp; done)) | (focus (repeat' (first | exact True.intro | apply And.intro | rfl | exact Nat.le_of_ble_eq_true rfl)); done) | (simp [inR, Cont.cells]; done) | (simp [inR, Cont.cells]; omega)))
 | ((with_reducible apply If_dec) <;> intro hc <;> (try (exfalso; omega)))
 | ((with_reducible apply If_any) <;> intro hc)
 | ((with_reducible first | apply PF.mk | apply DrawP.mk); (focus kernel_rfl))
 | ((with_reducible apply Same.mk); (focus rfl); (first | exact trivial | exact rfl))
 | (intro cap hcap)
 | ((fail_if_success (with_reducible first | apply Fin.mk | apply CallP.mk | apply LoopP.mk | apply VC.mk | apply falseMk | apply Round.mk | apply LookP.mk | apply RangeP.mk | apply NextP.mk | apply EntryP.mk | apply Eq.symm)); conv => whnf))
  refine mdec_at (leV l) ⟨vb.1, by have := vb.2; simpa using this⟩ ⟨rfl, trivial⟩ ?_
  rintro _ rfl
  repeat' (first
 | (with_reducible first | exact True.intro | apply And.intro | apply If_true | apply If_false | apply If_not)
 | ((with_reducible apply VC.mk); (first | trivial | omega | (simp only [inR]; omega) | (exact ⟨rfl, List.prefix_rfl⟩) | (refine ⟨rfl, rfl, rfl, ?_, rfl⟩; (simp; done)) | (focus (repeat' (first | exact True.intro | apply And.intro | rfl | exact Nat.le_of_ble_eq_true rfl)); done) | (simp [inR, Cont.cells]; done) | (simp [inR, Cont.cells]; omega)))
 | ((with_reducible apply If_dec) <;> intro hc <;> (try (exfalso; omega)))
 | ((with_reducible apply If_any) <;> intro hc)
 | ((with_reducible first | apply PF.mk | apply DrawP.mk); (focus kernel_rfl))
 | ((with_reducible apply Same.mk); (focus rfl); (first | exact trivial | exact rfl))
 | (intro cap hcap)
 | ((fail_if_success (with_reducible first | apply Fin.mk | apply CallP.mk | apply LoopP.mk | apply VC.mk | apply falseMk | apply Round.mk | apply LookP.mk | apply RangeP.mk | apply NextP.mk | apply EntryP.mk | apply Eq.symm)); conv => whnf))
  exact T6.fin rfl rfl rfl rfl rfl rfl hk2
def mgetOk (x : TR × JR × DF × HD × Int × Int) : Prop := TabOk x.1 x.2.2.1 x.2.2.2.1 x.2.2.2.2.1 ∧ inR .i64 x.2.2.2.2.2
def mgetRel (x : TR × JR × DF × HD × Int × Int) (r : (ER × Int) × Nat) : Prop := r.1 = getR x.1 x.2.2.1.now x.2.2.2.1 x.2.2.2.2.1 x.2.2.2.2.2 ∧ r.2 ≤ 8
theorem mget_K : ConOk Go.Proofs.Try.prog 41 (Con.of (TR × JR × DF × HD × Int × Int) ((ER × Int) × Nat) (fun x => [.p 5 0 1 0, .v (.int .i64 x.2.2.2.2.2)]) (fun x => tp6 x.1 x.2.1 x.2.2.1 x.2.2.2.1 x.2.2.2.2.1) mgetOk mgetRel (fun x r => .tup [.agg [.v (.int .i64 r.1.1.kind), .v (.int .i64 r.1.1.cl), .v (.bool r.1.1.own)], .v (.int .i64 r.1.2)]) (fun x r => tp6 (x.1) x.2.1 (x.2.2.1.tick r.2) x.2.2.2.1 x.2.2.2.2.1)) := by
  refine conOk_rel (T := tab) mix Go.Proofs.Try.func41 (by decide +kernel) (by kernel_rfl) [] p41 (fun n => by rw [Go.Proofs.Try.ntmps41]; exact Nat.le_of_ble_eq_true rfl) (fun x r _ _ => T6.good (by simp [AV.noF, noFs, Cont.noF, entsC_noF])) (fun x _ => T6.nd) ?_
  intro x k h0 hk
  exact mget_c x.1 x.2.1 x.2.2.1 x.2.2.2.1 x.2.2.2.2.1 x.2.2.2.2.2 k h0 (fun r hr => hk r hr)
theorem mget_at {avs : List AV} {H : List Chunk} {k : K} (t : TR) (j : JR) (s : DF) (h : HD) (n : Int) (i : Int) (ta tb tc td te tf : Nat) (h0 : TabOk t s h n ∧ inR .i64 i) (hn : nodupN [ta, tb, tc, td, te, tf] = true) (ha0 : nth H ta = some (t.c0 td tb tc)) (hb0 : nth H tb = some t.c1) (hc0 : nth H tc = some t.c2) (hd0 : nth H td = some (j.blk te)) (he0 : nth H te = some s.pk) (hf0 : nth H tf = some (mtb h n ta)) (ha : argsM H [ta, tb, tc, td, te, tf] [.p 5 0 1 0, .v (.int .i64 i)] avs)
    (hQ : ∀ r : (ER × Int) × Nat, (r.1 = getR t s.now h n i ∧ r.2 ≤ 8) → k (.tup [.agg [.v (.int .i64 r.1.1.kind), .v (.int .i64 r.1.1.cl), .v (.bool r.1.1.own)], .v (.int .i64 r.1.2)]) ((((((H.set ta (TR.c0 (t) td tb tc)).set tb (TR.c1 (t))).set tc (TR.c2 (t))).set td (j.blk te)).set te (DF.pk (s.tick r.2))).set tf (mtb h n ta))) : CallP Go.Proofs.Try.prog 41 avs H k :=
  CallP.mk ⟨_, mget_K.real, Con.spec mget_K, (t, j, s, h, n, i), [ta, tb, tc, td, te, tf], ⟨h0, hn, ⟨ha0, hb0.trans (congrArg some (TR.c1_ren t _).symm), hc0, hd0, he0, hf0, trivial⟩, ha⟩, fun r hr => (numK_eq _ _).mpr (by simpa [tp6, putAll, TR.c0_ren, TR.c1_ren, TR.c2_ren, JR.blk_ren, DF.pk_ren, mtb_ren, AV.ren, rens, Cont.ren, entsC_ren, fren, nth] using hQ r hr)⟩
end Go.Proofs.Ytjccknmgmommcaa.Sx

