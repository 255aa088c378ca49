import Derived.Test.YtcfmlnddmpiemaaSxEc
import Derived.Test.YtcfmlnddmpiemaaSxU5
import Derived.Test.YtcfmlnddmpiemaaSxU1
import Derived.Test.YtcfmlnddmpiemaaSxU3
import Derived.Test.YtcfmlnddmpiemaaSxU4
import Derived.Test.YtcfmlnddmpiemaaSxU6
set_option linter.unusedVariables false
set_option linter.unusedSimpArgs false
set_option maxRecDepth 10000
namespace Go.Proofs.Ytcfmlnddmpiemaa.Sx
open Go.RowKit Go.Proofs.Ytcfmlnddmpiemaa.Sx.Tb
/-! ### At -/
def matE (h : HD) (n : Int) : Int := if n < 1 ∨ h.host ≤ n then 4 else h.checkV
def mtb (h : HD) (n : Int) (i : Nat) : Chunk := .blk 119 (.lst [.v (.int .i64 h.bits), .v (.int .i64 h.size), .v (.int .i64 h.host), .v (.int .i64 h.jr), .v (.bool h.backed), .p i 0 1 0, .v (.int .i64 n)]) 7
theorem mtb_ren (h : HD) (n : Int) (i : Nat) (f : Nat → Nat) : (mtb h n i).ren f = mtb h n (f i) := rfl
set_option maxHeartbeats 8000000 in
theorem mat_c (t : TR) (j : JR) (s : DF) (h : HD) (n : Int) (k : K) (h0 : hR h ∧ inR .i64 n) (hk1 : matE h n ≠ 0 → k (.tup [.v (.pointer none), .v (.int .i64 (matE h n))]) (tpre t j s)) (hk2 : matE h n = 0 → k (.tup [.p 5 0 1 0, .v (.int .i64 0)]) (tpre t j s ++ [mtb h n 0])) : evFunc tab [] [] Go.Proofs.Try.f59 [.agg [.v (.int .i64 h.bits), .v (.int .i64 h.size), .v (.int .i64 h.host), .v (.int .i64 h.jr), .v (.bool h.backed)], .p 0 0 1 0, .v (.int .i64 n)] (tpre t j s) k := by
  have bad : ∀ (e : Int) (H : List Chunk), e = matE h n → e ≠ 0 → Nat.ble 5 H.length = true → nth H 0 = some (t.c0 3 1 2) → nth H 1 = some t.c1 → nth H 2 = some t.c2 → nth H 3 = some (j.blk 4) → nth H 4 = some s.pk → Fin 5 (.tup [.v (.pointer none), .v (.int .i64 e)]) H k := by
    intro e H he h1 q3 q4 q5 q6 q7 q8
    subst he
    exact T5.fin q3 q4 q5 q6 q7 q8 (hk1 h1)
  repeat' (first
    | (with_reducible first | exact True.intro | apply And.intro | apply If_true | apply If_false | apply If_not)
    | ((with_reducible apply VC.mk); exact vt)
    | ((with_reducible apply If_dec) <;> intro hc <;> (try (exfalso; omega)))
    | ((with_reducible apply If_any) <;> intro hc)
    | ((with_reducible first | apply PF.mk | apply DrawP.mk); (focus kernel_rfl))
    | ((with_reducible apply Same.mk); (focus rfl); (first | exact trivial | exact rfl))
    | (intro cap hcap)
    | ((fail_if_success (with_reducible apply st)); conv => whnf))
  · exact bad 4 _ (by unfold matE; rw [if_pos (.inl hc)]) (by decide) rfl rfl rfl rfl rfl rfl
  · exact bad 4 _ (by unfold matE; rw [if_pos (.inr hc)]) (by decide) rfl rfl rfl rfl rfl rfl
  refine hcheck_at h h0.1 ⟨⟨rfl, rfl, rfl, rfl, rfl, trivial⟩, trivial⟩ ?_
  intro r hr
  have hE : r = matE h n := by rw [hr]; unfold matE; rw [if_neg (by omega)]
  clear hr
  repeat' (first
    | (with_reducible first | exact True.intro | apply And.intro | apply If_true | apply If_false | apply If_not)
    | ((with_reducible apply VC.mk); exact vt)
    | ((with_reducible apply If_dec) <;> intro hc <;> (try (exfalso; omega)))
    | ((with_reducible apply If_any) <;> intro hc)
    | ((with_reducible first | apply PF.mk | apply DrawP.mk); (focus kernel_rfl))
    | ((with_reducible apply Same.mk); (focus rfl); (first | exact trivial | exact rfl))
    | (intro cap hcap)
    | ((fail_if_success (with_reducible apply st)); conv => whnf))
  · exact bad r _ hE hc rfl rfl rfl rfl rfl rfl
  · refine Fin.ren [0, 1, 2, 3, 4, 6] [] (.tup [.p 5 0 1 0, .v (.int .i64 0)]) (tpre t j s ++ [mtb h n 0]) rfl rfl trivial (T5.leX rfl rfl rfl rfl rfl rfl rfl rfl rfl rfl ⟨⟨VC.mk ⟨rfl, rfl⟩, VC.mk rfl, VC.mk rfl, VC.mk rfl, VC.mk rfl, VC.mk rfl, VC.mk ⟨rfl, rfl, rfl, rfl⟩, VC.mk rfl, trivial⟩, trivial⟩) ⟨VC.mk ⟨rfl, rfl, rfl, rfl⟩, VC.mk rfl, trivial⟩ (hk2 (by omega))
theorem mat_K : ConOk Go.Proofs.Try.prog 59 ⟨TR × JR × DF × HD × Int, fun x => [.agg [.v (.int .i64 x.2.2.2.1.bits), .v (.int .i64 x.2.2.2.1.size), .v (.int .i64 x.2.2.2.1.host), .v (.int .i64 x.2.2.2.1.jr), .v (.bool x.2.2.2.1.backed)], .p 0 0 1 0, .v (.int .i64 x.2.2.2.2)], fun x => tpre x.1 x.2.1 x.2.2.1, fun x => hR x.2.2.2.1 ∧ inR .i64 x.2.2.2.2, fun x k => (matE x.2.2.2.1 x.2.2.2.2 ≠ 0 → k (.tup [.v (.pointer none), .v (.int .i64 (matE x.2.2.2.1 x.2.2.2.2))]) (tpre x.1 x.2.1 x.2.2.1)) ∧ (matE x.2.2.2.1 x.2.2.2.2 = 0 → k (.tup [.p 5 0 1 0, .v (.int .i64 0)]) (tpre x.1 x.2.1 x.2.2.1 ++ [mtb x.2.2.2.1 x.2.2.2.2 0]))⟩ := by
  refine conOk_fin (T := tab) mix Go.Proofs.Try.func59 (by decide +kernel) (by kernel_rfl) [] [] ?_ ?_ ?_ ?_
  · intro x h0; rw [Go.Proofs.Try.ntmps59]; exact Nat.le_of_ble_eq_true rfl
  · intro x k h0 hk
    refine ⟨fun h => ⟨hk.1 h, T5.good (by simp [AV.noF, noFs])⟩, fun h => ⟨hk.2 h, ⟨by simp [AV.noF, noFs], fun c hc => ?_, ?_⟩⟩⟩
    · rcases List.mem_append.1 hc with hc | hc
      · exact (T5.good (v := .v (.bool true)) trivial).2.1 c hc
      · simp at hc; subst hc; exact .blk ⟨trivial, trivial, trivial, trivial, trivial, trivial, trivial, trivial⟩
    · show 5 ≤ (tpre _ _ _ ++ [_]).length
      exact Nat.le_of_ble_eq_true rfl
  · intro x h0; exact T5.nd
  · intro x k h0 hk; exact mat_c x.1 x.2.1 x.2.2.1 x.2.2.2.1 x.2.2.2.2 _ h0 (fun h => Fin.same (hk.1 h)) (fun h => Fin.same (hk.2 h))
theorem mat_at {avs : List AV} {H : List Chunk} {k : K} (t : TR) (j : JR) (s : DF) (h : HD) (n : Int) (ta tb tc td te : Nat) (h0 : hR h ∧ inR .i64 n) (hn : nodupN [ta, tb, tc, td, te] = true) (ha0 : nth H ta = some (t.c0 td tb tc)) (hb0 : nth H tb = some t.c1) (hc0 : nth H tc = some t.c2) (hd0 : nth H td = some (j.blk te)) (he0 : nth H te = some s.pk) (ha : argsM H [ta, tb, tc, td, te] [.agg [.v (.int .i64 h.bits), .v (.int .i64 h.size), .v (.int .i64 h.host), .v (.int .i64 h.jr), .v (.bool h.backed)], .p 0 0 1 0, .v (.int .i64 n)] avs)
    (hQ1 : matE h n ≠ 0 → k (.tup [.v (.pointer none), .v (.int .i64 (matE h n))]) (((((H.set ta (t.c0 td tb tc)).set tb t.c1).set tc t.c2).set td (j.blk te)).set te s.pk))
    (hQ2 : matE h n = 0 → k (.tup [.p H.length 0 1 0, .v (.int .i64 0)]) ((((((H.set ta (t.c0 td tb tc)).set tb t.c1).set tc t.c2).set td (j.blk te)).set te s.pk) ++ [mtb h n ta])) : CallP Go.Proofs.Try.prog 59 avs H k :=
  CallP.mk ⟨_, mat_K.real, Con.spec mat_K, (t, j, s, h, n), [ta, tb, tc, td, te], ⟨h0, hn, ⟨ha0, hb0.trans (congrArg some (TR.c1_ren t _).symm), hc0, hd0, he0, trivial⟩, ha⟩, fun hh => (numK_eq _ _).mpr (by simpa [tpre, putAll, TR.c0_ren, TR.c1_ren, TR.c2_ren, JR.blk_ren, DF.pk_ren, AV.ren, rens, fren, nth] using hQ1 hh), fun hh => (numK_eq _ _).mpr (by simpa [tpre, putAll, TR.c0_ren, TR.c1_ren, TR.c2_ren, JR.blk_ren, DF.pk_ren, mtb_ren, AV.ren, rens, fren, nth] using hQ2 hh)⟩
/-! ### The law MapsNils -/
end Go.Proofs.Ytcfmlnddmpiemaa.Sx


set_option maxRecDepth 10000
namespace Go.Proofs.Ytcfmlnddmpiemaa.Sx
open Go.RowKit Go.Proofs.Ytcfmlnddmpiemaa.Sx.Tb
/-! ### A table over its tx -/
def entAV (x : ER) : List AV := [.v (.int .i64 x.kind), .v (.int .i64 x.cl), .v (.bool x.own)]
def entsC (es : List ER) : Cont := .recs 3 es.length (fun i => entAV (es.getD i ⟨0, 0, false⟩))
theorem entsC_noF (es : List ER) : (entsC es).noF := fun j hj => ⟨trivial, trivial, trivial, trivial⟩
theorem entsC_ren (es : List ER) (f : Nat → Nat) : (entsC es).ren f = entsC es := rfl
def tp6 (t : TR) (j : JR) (s : DF) (h : HD) (n : Int) : List Chunk := [t.c0 3 1 2, t.c1, t.c2, j.blk 4, s.pk, mtb h n 0]
theorem mtb_le {H : List Chunk} {fz : List Nat} {f : Nat → Nat} {ph : Nat → Bool} {h : HD} {n : Int} {a i : Nat} (fi : f 0 = a) (h0 : nth H i = some (mtb h n a)) (hz : memN i fz = false) : (mtb h n 0).le H fz f ph i := by
  unfold Chunk.le mtb
  simp only
  rw [nth_lt h0, hz, h0]
  exact ⟨VC.mk ⟨rfl, rfl⟩, VC.mk rfl, VC.mk rfl, VC.mk rfl, VC.mk rfl, VC.mk rfl, VC.mk ⟨fi, rfl, rfl, rfl⟩, VC.mk rfl, trivial⟩
theorem fix6 {N : Nat} {σ : List Nat} : ∀ i, i < 6 → fren (0 :: 1 :: 2 :: 3 :: 4 :: 5 :: σ) N i = i := fun i hi => by
  match i, hi with
  | 0, _ => rfl
  | 1, _ => rfl
  | 2, _ => rfl
  | 3, _ => rfl
  | 4, _ => rfl
  | 5, _ => rfl
theorem T6.le {H : List Chunk} {f : Nat → Nat} {ph : Nat → Bool} {t : TR} {j : JR} {s : DF} {h : HD} {n : Int} {σ : List Nat} {cs : List Chunk} (f0 : f 0 = 0) (f1 : f 1 = 1) (f2 : f 2 = 2) (f3 : f 3 = 3) (f4 : f 4 = 4) (h0 : nth H 0 = some (t.c0 3 1 2)) (h1 : nth H 1 = some t.c1) (h2 : nth H 2 = some t.c2) (h3 : nth H 3 = some (j.blk 4)) (h4 : nth H 4 = some s.pk) (h5 : nth H 5 = some (mtb h n 0)) (hx : chunksLe H [] f ph σ cs) : chunksLe H [] f ph (0 :: 1 :: 2 :: 3 :: 4 :: 5 :: σ) (tp6 t j s h n ++ cs) :=
  T5.leG f1 f2 f3 f4 h0 h1 h2 h3 h4 ⟨rfl, rfl, rfl, rfl, rfl⟩ (cs := mtb h n 0 :: cs) ⟨mtb_le f0 h5 rfl, hx⟩
theorem T6.fin {H : List Chunk} {t : TR} {j : JR} {s : DF} {h : HD} {n : Int} {v : AV} {k : K} (h0 : nth H 0 = some (t.c0 3 1 2)) (h1 : nth H 1 = some t.c1) (h2 : nth H 2 = some t.c2) (h3 : nth H 3 = some (j.blk 4)) (h4 : nth H 4 = some s.pk) (h5 : nth H 5 = some (mtb h n 0)) (hk : k v (tp6 t j s h n)) (hv : v.inN 6 := by simp [AV.inN, inNs, Cont.inN]) : Fin 6 v H k :=
  Fin.ren [0, 1, 2, 3, 4, 5] [] v (tp6 t j s h n) rfl rfl trivial (T6.le rfl rfl rfl rfl rfl h0 h1 h2 h3 h4 h5 (cs := []) trivial) (AV.le_refl fix6 hv) hk
theorem T6.good {t : TR} {j : JR} {s : DF} {h : HD} {n : Int} {v : AV} (hv : v.noF) : Good 6 v (tp6 t j s h n) := by
  refine ⟨hv, fun c hc => ?_, Nat.le_refl _⟩
  rcases List.mem_append.1 (show c ∈ tpre t j s ++ [mtb h n 0] from hc) with hc | hc
  · exact (T5.good (v := .v (.bool true)) trivial).2.1 c hc
  · simp at hc; subst hc; exact .blk ⟨trivial, trivial, trivial, trivial, trivial, trivial, trivial, trivial⟩
theorem T6.nd {t : TR} {j : JR} {s : DF} {h : HD} {n : Int} : ∀ c ∈ tp6 t j s h n, c.lives := by
  intro c hc
  rcases List.mem_append.1 (show c ∈ tpre t j s ++ [mtb h n 0] from hc) with hc | hc
  · exact T5.nd c hc
  · simp at hc; subst hc; trivial
def TabOk (t : TR) (s : DF) (h : HD) (n : Int) : Prop := t.Ok ∧ s.live ∧ hR h ∧ t.B s.now ∧ (1 ≤ n ∧ n ≤ 8192 ∧ (n + 1) * h.clus ≤ 4194304) ∧ 0 ≤ s.ops ∧ s.ops ≤ 274877906944 ∧ s.now.length ≤ 4194304
def getR (t : TR) (now : List Int) (h : HD) (n i : Int) : ER × Int := if 0 ≤ i ∧ i < h.clus / 8 then decV (leV (t.rd now (n * h.clus + 8 * i).toNat 8)) else (⟨0, 0, false⟩, 4)
set_option maxHeartbeats 8000000 in
theorem mget_c (t : TR) (j : JR) (s : DF) (h : HD) (n i : Int) (k : K) (h0 : TabOk t s h n ∧ inR .i64 i) (hk : ∀ r : (ER × Int) × Nat, r.1 = getR t s.now h n i ∧ r.2 ≤ 8 → k (.tup [.agg [.v (.int .i64 r.1.1.kind), .v (.int .i64 r.1.1.cl), .v (.bool r.1.1.own)], .v (.int .i64 r.1.2)]) (tp6 t j (s.tick r.2) h n)) : evFunc tab [] p14 Go.Proofs.Try.f14 [.p 5 0 1 0, .v (.int .i64 i)] (tp6 t j s h n) k := by
  obtain ⟨⟨h1, h2, h3, h4, ⟨n1, n2, n3⟩, h6, h7, h8⟩, h9⟩ := h0
  have s0 : s.tick 0 = s := by unfold DF.tick; simp
  have cb := h.clus_b
  have nb : 512 ≤ n * h.clus ∧ n * h.clus + h.clus ≤ 4194304 := by
    have e : (n + 1) * h.clus = n * h.clus + h.clus := by rw [Int.add_mul]; omega
    have e2 : 1 * h.clus ≤ n * h.clus := Int.mul_le_mul_of_nonneg_right n1 (by omega)
    omega
  have bad : ¬ (0 ≤ i ∧ i < h.clus / 8) → k (.tup [.agg [.v (.int .i64 0), .v (.int .i64 0), .v (.bool false)], .v (.int .i64 4)]) (tp6 t j s h n) := by
    intro hb
    have := hk ((⟨0, 0, false⟩, 4), 0) ⟨by unfold getR; rw [if_neg hb], by decide⟩
    rw [show (((⟨0, 0, false⟩, 4), 0) : (ER × Int) × Nat).2 = 0 from rfl, s0] at this
    exact this
  repeat' (first
    | (with_reducible first | exact True.intro | apply And.intro | apply If_true | apply If_false | apply If_not)
    | ((with_reducible apply VC.mk); exact vt)
    | ((with_reducible apply If_dec) <;> intro hc <;> (try (exfalso; omega)))
    | ((with_reducible apply If_any) <;> intro hc)
    | ((with_reducible first | apply PF.mk | apply DrawP.mk); (focus kernel_rfl))
    | ((with_reducible apply Same.mk); (focus rfl); (first | exact trivial | exact rfl))
    | (intro cap hcap)
    | ((fail_if_success (with_reducible apply st)); conv => whnf))
  · exact T6.fin rfl rfl rfl rfl rfl rfl (bad (by omega))
  refine hentries_at h h3 ⟨⟨rfl, rfl, rfl, rfl, rfl, trivial⟩, trivial⟩ ?_
  rintro _ rfl
  repeat' (first
    | (with_reducible first | exact True.intro | apply And.intro | apply If_true | apply If_false | apply If_not)
    | ((with_reducible apply VC.mk); exact vt)
    | ((with_reducible apply If_dec) <;> intro hc <;> (try (exfalso; omega)))
    | ((with_reducible apply If_any) <;> intro hc)
    | ((with_reducible first | apply PF.mk | apply DrawP.mk); (focus kernel_rfl))
    | ((with_reducible apply Same.mk); (focus rfl); (first | exact trivial | exact rfl))
    | (intro cap hcap)
    | ((fail_if_success (with_reducible apply st)); conv => whnf))
  · exact T6.fin rfl rfl rfl rfl rfl rfl (bad (by omega))
  have hin : 0 ≤ i ∧ i < h.clus / 8 := by omega
  refine hclus_at h h3 ⟨⟨rfl, rfl, rfl, rfl, rfl, trivial⟩, trivial⟩ ?_
  rintro _ rfl
  repeat' (first
    | (with_reducible first | exact True.intro | apply And.intro | apply If_true | apply If_false | apply If_not)
    | ((with_reducible apply VC.mk); exact vt)
    | ((with_reducible apply If_dec) <;> intro hc <;> (try (exfalso; omega)))
    | ((with_reducible apply If_any) <;> intro hc)
    | ((with_reducible first | apply PF.mk | apply DrawP.mk); (focus kernel_rfl))
    | ((with_reducible apply Same.mk); (focus rfl); (first | exact trivial | exact rfl))
    | (intro cap hcap)
    | ((fail_if_success (with_reducible apply st)); conv => whnf))
  refine tget_at t j s (n * h.clus + 8 * i) 8 0 1 2 3 4 ⟨h1, h2, ⟨by simp only [inR]; omega, by simp [inR]⟩, h6, h7, h8⟩ rfl rfl rfl rfl rfl rfl ⟨rfl, rfl, rfl, trivial⟩ ?_
  rintro ⟨l, e, m⟩ hr
  dsimp only at hr ⊢
  have hib : inB (n * h.clus + 8 * i) 8 := by unfold inB; omega
  rcases hr with ⟨-, e1, e2, e3⟩ | ⟨e1, -⟩
  rotate_left
  · exact absurd hib e1
  have hl : l.length = 8 := by rw [e2, TR.rd_length]; rfl
  have hB : B8 l := by rw [e2]; exact h4.rd _ _
  have hk2 := hk (decV (leV l), m) ⟨by unfold getR; rw [if_pos hin, e2]; rfl, e3⟩
  subst e1
  repeat' (first
    | (with_reducible first | exact True.intro | apply And.intro | apply If_true | apply If_false | apply If_not)
    | ((with_reducible apply VC.mk); exact vt)
    | ((with_reducible apply If_dec) <;> intro hc <;> (try (exfalso; omega)))
    | ((with_reducible apply If_any) <;> intro hc)
    | ((with_reducible first | apply PF.mk | apply DrawP.mk); (focus kernel_rfl))
    | ((with_reducible apply Same.mk); (focus rfl); (first | exact trivial | exact rfl))
    | (intro cap hcap)
    | ((fail_if_success (with_reducible apply st)); conv => whnf))
  refine U64_at l 0 ⟨by omega, hB, by decide⟩ ⟨⟨rfl, rfl, rfl⟩, rfl, trivial⟩ ?_
  rintro v b (⟨-, -, rfl, rfl⟩ | ⟨hn, -⟩)
  rotate_left
  · exact absurd ⟨by decide, by rw [hl]; decide⟩ hn
  have ev : leV ((l.drop (0 : Int).toNat).take 8) = leV l := by
    rw [show (0 : Int).toNat = 0 from rfl, List.drop_zero, List.take_of_length_le (by omega)]
  rw [ev]
  have vb := leV_bound hB 8
  rw [List.take_of_length_le (by omega)] at vb
  repeat' (first
    | (with_reducible first | exact True.intro | apply And.intro | apply If_true | apply If_false | apply If_not)
    | ((with_reducible apply VC.mk); exact vt)
    | ((with_reducible apply If_dec) <;> intro hc <;> (try (exfalso; omega)))
    | ((with_reducible apply If_any) <;> intro hc)
    | ((with_reducible first | apply PF.mk | apply DrawP.mk); (focus kernel_rfl))
    | ((with_reducible apply Same.mk); (focus rfl); (first | exact trivial | exact rfl))
    | (intro cap hcap)
    | ((fail_if_success (with_reducible apply st)); conv => whnf))
  refine mdec_at (leV l) ⟨vb.1, by have := vb.2; simpa using this⟩ ⟨rfl, trivial⟩ ?_
  rintro _ rfl
  repeat' (first
    | (with_reducible first | exact True.intro | apply And.intro | apply If_true | apply If_false | apply If_not)
    | ((with_reducible apply VC.mk); exact vt)
    | ((with_reducible apply If_dec) <;> intro hc <;> (try (exfalso; omega)))
    | ((with_reducible apply If_any) <;> intro hc)
    | ((with_reducible first | apply PF.mk | apply DrawP.mk); (focus kernel_rfl))
    | ((with_reducible apply Same.mk); (focus rfl); (first | exact trivial | exact rfl))
    | (intro cap hcap)
    | ((fail_if_success (with_reducible apply st)); conv => whnf))
  exact T6.fin rfl rfl rfl rfl rfl rfl hk2
def mgetOk (x : TR × JR × DF × HD × Int × Int) : Prop := TabOk x.1 x.2.2.1 x.2.2.2.1 x.2.2.2.2.1 ∧ inR .i64 x.2.2.2.2.2
def mgetRel (x : TR × JR × DF × HD × Int × Int) (r : (ER × Int) × Nat) : Prop := r.1 = getR x.1 x.2.2.1.now x.2.2.2.1 x.2.2.2.2.1 x.2.2.2.2.2 ∧ r.2 ≤ 8
theorem mget_K : ConOk Go.Proofs.Try.prog 14 (Con.of (TR × JR × DF × HD × Int × Int) ((ER × Int) × Nat) (fun x => [.p 5 0 1 0, .v (.int .i64 x.2.2.2.2.2)]) (fun x => tp6 x.1 x.2.1 x.2.2.1 x.2.2.2.1 x.2.2.2.2.1) mgetOk mgetRel (fun x r => .tup [.agg [.v (.int .i64 r.1.1.kind), .v (.int .i64 r.1.1.cl), .v (.bool r.1.1.own)], .v (.int .i64 r.1.2)]) (fun x r => tp6 (x.1) x.2.1 (x.2.2.1.tick r.2) x.2.2.2.1 x.2.2.2.2.1)) := by
  refine conOk_rel (T := tab) mix Go.Proofs.Try.func14 (by decide +kernel) (by kernel_rfl) [] p14 (fun n => by rw [Go.Proofs.Try.ntmps14]; exact Nat.le_of_ble_eq_true rfl) (fun x r _ _ => T6.good (by simp [AV.noF, noFs, Cont.noF, entsC_noF])) (fun x _ => T6.nd) ?_
  intro x k h0 hk
  exact mget_c x.1 x.2.1 x.2.2.1 x.2.2.2.1 x.2.2.2.2.1 x.2.2.2.2.2 k h0 (fun r hr => hk r hr)
theorem mget_at {avs : List AV} {H : List Chunk} {k : K} (t : TR) (j : JR) (s : DF) (h : HD) (n : Int) (i : Int) (ta tb tc td te tf : Nat) (h0 : TabOk t s h n ∧ inR .i64 i) (hn : nodupN [ta, tb, tc, td, te, tf] = true) (ha0 : nth H ta = some (t.c0 td tb tc)) (hb0 : nth H tb = some t.c1) (hc0 : nth H tc = some t.c2) (hd0 : nth H td = some (j.blk te)) (he0 : nth H te = some s.pk) (hf0 : nth H tf = some (mtb h n ta)) (ha : argsM H [ta, tb, tc, td, te, tf] [.p 5 0 1 0, .v (.int .i64 i)] avs)
    (hQ : ∀ r : (ER × Int) × Nat, (r.1 = getR t s.now h n i ∧ r.2 ≤ 8) → k (.tup [.agg [.v (.int .i64 r.1.1.kind), .v (.int .i64 r.1.1.cl), .v (.bool r.1.1.own)], .v (.int .i64 r.1.2)]) ((((((H.set ta (TR.c0 (t) td tb tc)).set tb (TR.c1 (t))).set tc (TR.c2 (t))).set td (j.blk te)).set te (DF.pk (s.tick r.2))).set tf (mtb h n ta))) : CallP Go.Proofs.Try.prog 14 avs H k :=
  CallP.mk ⟨_, mget_K.real, Con.spec mget_K, (t, j, s, h, n, i), [ta, tb, tc, td, te, tf], ⟨h0, hn, ⟨ha0, hb0.trans (congrArg some (TR.c1_ren t _).symm), hc0, hd0, he0, hf0, trivial⟩, ha⟩, fun r hr => (numK_eq _ _).mpr (by simpa [tp6, putAll, TR.c0_ren, TR.c1_ren, TR.c2_ren, JR.blk_ren, DF.pk_ren, mtb_ren, AV.ren, rens, Cont.ren, entsC_ren, fren, nth] using hQ r hr)⟩
end Go.Proofs.Ytcfmlnddmpiemaa.Sx


set_option maxRecDepth 10000
namespace Go.Proofs.Ytcfmlnddmpiemaa.Sx
open Go.RowKit Go.Proofs.Ytcfmlnddmpiemaa.Sx.Tb
/-! ### Set -/
def SetRel (t : TR) (now : List Int) (h : HD) (n i : Int) (x : ER) (r : Int × TR × Nat) : Prop :=
  ¬ (0 ≤ i ∧ i < h.clus / 8) ∧ r = (4, t, 0) ∨ (0 ≤ i ∧ i < h.clus / 8) ∧ (encV x).2 ≠ 0 ∧ r = ((encV x).2, t, 0) ∨ (0 ≤ i ∧ i < h.clus / 8) ∧ (encV x).2 = 0 ∧ r.1 = 0 ∧ r.2.1 = t.put now (n * h.clus + 8 * i).toNat (leB 8 (encV x).1) ∧ r.2.2 ≤ 8
theorem encV_b (x : ER) : 0 ≤ (encV x).1 ∧ (encV x).1 < 18446744073709551616 := by
  unfold encV
  repeat' split
  all_goals simp only
  all_goals omega
set_option maxHeartbeats 8000000 in
theorem mset_c (t : TR) (j : JR) (s : DF) (h : HD) (n i : Int) (x : ER) (k : K) (h0 : TabOk t s h n ∧ inR .i64 i ∧ inR .i64 x.kind ∧ inR .i64 x.cl ∧ t.over = false) (hk : ∀ r : Int × TR × Nat, SetRel t s.now h n i x r → k (.v (.int .i64 r.1)) (tp6 r.2.1 j (s.tick r.2.2) h n)) : evFunc tab [] p16 Go.Proofs.Try.f16 [.p 5 0 1 0, .v (.int .i64 i), .agg [.v (.int .i64 x.kind), .v (.int .i64 x.cl), .v (.bool x.own)]] (tp6 t j s h n) k := by
  obtain ⟨⟨h1, h2, h3, h4, ⟨n1, n2, n3⟩, h6, h7, h8⟩, h9, hx1, hx2, hov⟩ := h0
  have s0 : s.tick 0 = s := by unfold DF.tick; simp
  have cb := h.clus_b
  have nb : 512 ≤ n * h.clus ∧ n * h.clus + h.clus ≤ 4194304 := by
    have e : (n + 1) * h.clus = n * h.clus + h.clus := by rw [Int.add_mul]; omega
    have e2 : 1 * h.clus ≤ n * h.clus := Int.mul_le_mul_of_nonneg_right n1 (by omega)
    omega
  have bad : ∀ e : Int, SetRel t s.now h n i x (e, t, 0) → k (.v (.int .i64 e)) (tp6 t j s h n) := by
    intro e hb
    have := hk (e, t, 0) hb
    rw [show ((e, t, 0) : Int × TR × Nat).2.2 = 0 from rfl, s0] at this
    exact this
  repeat' (first
    | (with_reducible first | exact True.intro | apply And.intro | apply If_true | apply If_false | apply If_not)
    | ((with_reducible apply VC.mk); exact vt)
    | ((with_reducible apply If_dec) <;> intro hc <;> (try (exfalso; omega)))
    | ((with_reducible apply If_any) <;> intro hc)
    | ((with_reducible first | apply PF.mk | apply DrawP.mk); (focus kernel_rfl))
    | ((with_reducible apply Same.mk); (focus rfl); (first | exact trivial | exact rfl))
    | (intro cap hcap)
    | ((fail_if_success (with_reducible apply st)); conv => whnf))
  · exact T6.fin rfl rfl rfl rfl rfl rfl (bad 4 (.inl ⟨by omega, rfl⟩))
  refine hentries_at h h3 ⟨⟨rfl, rfl, rfl, rfl, rfl, trivial⟩, trivial⟩ ?_
  rintro _ rfl
  repeat' (first
    | (with_reducible first | exact True.intro | apply And.intro | apply If_true | apply If_false | apply If_not)
    | ((with_reducible apply VC.mk); exact vt)
    | ((with_reducible apply If_dec) <;> intro hc <;> (try (exfalso; omega)))
    | ((with_reducible apply If_any) <;> intro hc)
    | ((with_reducible first | apply PF.mk | apply DrawP.mk); (focus kernel_rfl))
    | ((with_reducible apply Same.mk); (focus rfl); (first | exact trivial | exact rfl))
    | (intro cap hcap)
    | ((fail_if_success (with_reducible apply st)); conv => whnf))
  · exact T6.fin rfl rfl rfl rfl rfl rfl (bad 4 (.inl ⟨by omega, rfl⟩))
  have hin : 0 ≤ i ∧ i < h.clus / 8 := by omega
  refine menc_at x ⟨hx1, hx2⟩ ⟨⟨rfl, rfl, rfl, trivial⟩, trivial⟩ ?_
  rintro ⟨w, e⟩ hw
  have hw1 : (encV x).1 = w := by rw [← hw]
  have hw2 : (encV x).2 = e := by rw [← hw]
  have eb := encV_b x
  rw [hw1] at eb
  dsimp only
  repeat' (first
    | (with_reducible first | exact True.intro | apply And.intro | apply If_true | apply If_false | apply If_not)
    | ((with_reducible apply VC.mk); exact vt)
    | ((with_reducible apply If_dec) <;> intro hc <;> (try (exfalso; omega)))
    | ((with_reducible apply If_any) <;> intro hc)
    | ((with_reducible first | apply PF.mk | apply DrawP.mk); (focus kernel_rfl))
    | ((with_reducible apply Same.mk); (focus rfl); (first | exact trivial | exact rfl))
    | (intro cap hcap)
    | ((fail_if_success (with_reducible apply st)); conv => whnf))
  · exact T6.fin rfl rfl rfl rfl rfl rfl (bad e (.inr (.inl ⟨hin, by rw [hw2]; exact hc, by rw [hw2]⟩)))
  have hc : e = 0 := Decidable.not_not.1 hc
  repeat' (first
    | (with_reducible first | exact True.intro | apply And.intro | apply If_true | apply If_false | apply If_not)
    | ((with_reducible apply VC.mk); exact vt)
    | ((with_reducible apply If_dec) <;> intro hc <;> (try (exfalso; omega)))
    | ((with_reducible apply If_any) <;> intro hc)
    | ((with_reducible first | apply PF.mk | apply DrawP.mk); (focus kernel_rfl))
    | ((with_reducible apply Same.mk); (focus rfl); (first | exact trivial | exact rfl))
    | (intro cap hcap)
    | ((fail_if_success (with_reducible apply st)); conv => whnf))
  refine Put64_at (List.replicate 8 0) 8 0 w 7 ⟨by decide, by decide, by decide⟩ rfl ⟨rfl, rfl, rfl, trivial⟩ ?_
  have eq : putB (List.replicate 8 0) (0 : Int).toNat 8 w = leB 8 w := by
    rw [putB_eq _ _ _ _ (by decide)]
    show [] ++ leB 8 w ++ [] = _
    simp
  rw [eq]
  obtain ⟨p, hp⟩ : ∃ p, p = leB 8 w := ⟨_, rfl⟩
  have hpl : p.length = 8 := by rw [hp]; exact leB_length ..
  rw [← hp]
  repeat' (first
    | (with_reducible first | exact True.intro | apply And.intro | apply If_true | apply If_false | apply If_not)
    | ((with_reducible apply VC.mk); exact vt)
    | ((with_reducible apply If_dec) <;> intro hc <;> (try (exfalso; omega)))
    | ((with_reducible apply If_any) <;> intro hc)
    | ((with_reducible first | apply PF.mk | apply DrawP.mk); (focus kernel_rfl))
    | ((with_reducible apply Same.mk); (focus rfl); (first | exact trivial | exact rfl))
    | (intro cap hcap)
    | ((fail_if_success (with_reducible apply st)); conv => whnf))
  refine hclus_at h h3 ⟨⟨rfl, rfl, rfl, rfl, rfl, trivial⟩, trivial⟩ ?_
  rintro _ rfl
  repeat' (first
    | (with_reducible first | exact True.intro | apply And.intro | apply If_true | apply If_false | apply If_not)
    | ((with_reducible apply VC.mk); exact vt)
    | ((with_reducible apply If_dec) <;> intro hc <;> (try (exfalso; omega)))
    | ((with_reducible apply If_any) <;> intro hc)
    | ((with_reducible first | apply PF.mk | apply DrawP.mk); (focus kernel_rfl))
    | ((with_reducible apply Same.mk); (focus rfl); (first | exact trivial | exact rfl))
    | (intro cap hcap)
    | ((fail_if_success (with_reducible apply st)); conv => whnf))
  refine tput_at t j s (n * h.clus + 8 * i) p 0 1 2 3 4 ⟨h1, h2, ⟨by simp only [inR]; omega, by omega⟩, h6, h7, h8⟩ rfl rfl rfl rfl rfl rfl ⟨rfl, rfl, ?_, trivial⟩ ?_
  rotate_left
  · rintro ⟨e2, t2, m⟩ hr
    dsimp only at hr ⊢
    have hib : inB (n * h.clus + 8 * i) p.length := by unfold inB; omega
    rcases hr with ⟨e1, -⟩ | ⟨-, e1, -⟩ | ⟨-, -, e1, e3, e4⟩
    · rw [hov] at e1; cases e1
    · exact absurd hib e1
    have hk2 := hk (e2, t2, m) (.inr (.inr ⟨hin, by omega, e1, by rw [e3, hp, hw1], by rw [hpl] at e4; exact e4⟩))
    repeat' (first
    | (with_reducible first | exact True.intro | apply And.intro | apply If_true | apply If_false | apply If_not)
    | ((with_reducible apply VC.mk); exact vt)
    | ((with_reducible apply If_dec) <;> intro hc <;> (try (exfalso; omega)))
    | ((with_reducible apply If_any) <;> intro hc)
    | ((with_reducible first | apply PF.mk | apply DrawP.mk); (focus kernel_rfl))
    | ((with_reducible apply Same.mk); (focus rfl); (first | exact trivial | exact rfl))
    | (intro cap hcap)
    | ((fail_if_success (with_reducible apply st)); conv => whnf))
    exact T6.fin rfl rfl rfl rfl rfl rfl hk2
  · refine ⟨?_, rfl, hpl.symm, ?_, rfl, Nat.one_pos⟩
    · show 0 + Int.toNat 8 ≤ p.length; rw [hpl]; decide
    · simp only [Cont.low, Cont.ren, Int.toNat_zero, List.drop_zero, List.take_take, Nat.min_self]
      simp [Cont.same, List.take_of_length_le, hpl]
def msetOk (x : TR × JR × DF × HD × Int × Int × ER) : Prop := TabOk x.1 x.2.2.1 x.2.2.2.1 x.2.2.2.2.1 ∧ inR .i64 x.2.2.2.2.2.1 ∧ inR .i64 x.2.2.2.2.2.2.kind ∧ inR .i64 x.2.2.2.2.2.2.cl ∧ x.1.over = false
def msetRel (x : TR × JR × DF × HD × Int × Int × ER) (r : Int × TR × Nat) : Prop := SetRel x.1 x.2.2.1.now x.2.2.2.1 x.2.2.2.2.1 x.2.2.2.2.2.1 x.2.2.2.2.2.2 r
theorem mset_K : ConOk Go.Proofs.Try.prog 16 (Con.of (TR × JR × DF × HD × Int × Int × ER) (Int × TR × Nat) (fun x => [.p 5 0 1 0, .v (.int .i64 x.2.2.2.2.2.1), .agg [.v (.int .i64 x.2.2.2.2.2.2.kind), .v (.int .i64 x.2.2.2.2.2.2.cl), .v (.bool x.2.2.2.2.2.2.own)]]) (fun x => tp6 x.1 x.2.1 x.2.2.1 x.2.2.2.1 x.2.2.2.2.1) msetOk msetRel (fun x r => .v (.int .i64 r.1)) (fun x r => tp6 (r.2.1) x.2.1 (x.2.2.1.tick r.2.2) x.2.2.2.1 x.2.2.2.2.1)) := by
  refine conOk_rel (T := tab) mix Go.Proofs.Try.func16 (by decide +kernel) (by kernel_rfl) [] p16 (fun n => by rw [Go.Proofs.Try.ntmps16]; exact Nat.le_of_ble_eq_true rfl) (fun x r _ _ => T6.good (by simp [AV.noF, noFs, Cont.noF, entsC_noF])) (fun x _ => T6.nd) ?_
  intro x k h0 hk
  exact mset_c x.1 x.2.1 x.2.2.1 x.2.2.2.1 x.2.2.2.2.1 x.2.2.2.2.2.1 x.2.2.2.2.2.2 k h0 (fun r hr => hk r hr)
theorem mset_at {avs : List AV} {H : List Chunk} {k : K} (t : TR) (j : JR) (s : DF) (h : HD) (n : Int) (i : Int) (x : ER) (ta tb tc td te tf : Nat) (h0 : TabOk t s h n ∧ inR .i64 i ∧ inR .i64 x.kind ∧ inR .i64 x.cl ∧ t.over = false) (hn : nodupN [ta, tb, tc, td, te, tf] = true) (ha0 : nth H ta = some (t.c0 td tb tc)) (hb0 : nth H tb = some t.c1) (hc0 : nth H tc = some t.c2) (hd0 : nth H td = some (j.blk te)) (he0 : nth H te = some s.pk) (hf0 : nth H tf = some (mtb h n ta)) (ha : argsM H [ta, tb, tc, td, te, tf] [.p 5 0 1 0, .v (.int .i64 i), .agg [.v (.int .i64 x.kind), .v (.int .i64 x.cl), .v (.bool x.own)]] avs)
    (hQ : ∀ r : Int × TR × Nat, (SetRel t s.now h n i x r) → k (.v (.int .i64 r.1)) ((((((H.set ta (TR.c0 (r.2.1) td tb tc)).set tb (TR.c1 (r.2.1))).set tc (TR.c2 (r.2.1))).set td (j.blk te)).set te (DF.pk (s.tick r.2.2))).set tf (mtb h n ta))) : CallP Go.Proofs.Try.prog 16 avs H k :=
  CallP.mk ⟨_, mset_K.real, Con.spec mset_K, (t, j, s, h, n, i, x), [ta, tb, tc, td, te, tf], ⟨h0, hn, ⟨ha0, hb0.trans (congrArg some (TR.c1_ren t _).symm), hc0, hd0, he0, hf0, trivial⟩, ha⟩, fun r hr => (numK_eq _ _).mpr (by simpa [tp6, putAll, TR.c0_ren, TR.c1_ren, TR.c2_ren, JR.blk_ren, DF.pk_ren, mtb_ren, AV.ren, rens, Cont.ren, entsC_ren, fren, nth] using hQ r hr)⟩
end Go.Proofs.Ytcfmlnddmpiemaa.Sx


set_option maxRecDepth 10000
namespace Go.Proofs.Ytcfmlnddmpiemaa.Sx
open Go.RowKit Go.Proofs.Ytcfmlnddmpiemaa.Sx.Tb
/-! ### List, All -/
attribute [local simp] entsC_noF entsC_ren
def word (l : List Int) (q : Nat) : Int := leV ((l.drop (8 * q)).take 8)
def decT (l : List Int) : List ER := (List.range (l.length / 8)).map (fun q => (decV (word l q)).1)
def LRel (l : List Int) (r : List ER × Int) : Prop :=
  r.2 = 0 ∧ r.1 = decT l ∧ (∀ q, q < l.length / 8 → (decV (word l q)).2 = 0) ∨ r.2 ≠ 0 ∧ r.1 = [] ∧ ∃ q, q < l.length / 8 ∧ (decV (word l q)).2 ≠ 0
theorem word_b {l : List Int} (h : B8 l) (q : Nat) : 0 ≤ word l q ∧ word l q < 18446744073709551616 := by
  have := leV_bound (l := l.drop (8 * q)) (fun x hx => h x (List.mem_of_mem_drop hx)) 8
  exact ⟨this.1, by have := this.2; simpa [word] using this⟩
set_option maxHeartbeats 8000000 in
theorem mlist_c (l : List Int) (k : K) (h0 : l.length ≤ 1099511627776 ∧ B8 l) (hk : ∀ r : List ER × Int, LRel l r → k (.tup [.im true 3 r.1.length (entsC r.1), .v (.int .i64 r.2)]) []) : evFunc tab [] [] Go.Proofs.Try.f74 [.im true 1 l.length (.ints .u8 l)] [] k := by
  repeat' (first
    | (with_reducible first | exact True.intro | apply And.intro | apply If_true | apply If_false | apply If_not)
    | ((with_reducible apply VC.mk); exact vt)
    | ((with_reducible apply If_dec) <;> intro hc <;> (try (exfalso; omega)))
    | ((with_reducible apply If_any) <;> intro hc)
    | ((with_reducible first | apply PF.mk | apply DrawP.mk); (focus kernel_rfl))
    | ((with_reducible apply Same.mk); (focus rfl); (first | exact trivial | exact rfl))
    | (intro cap hcap)
    | ((fail_if_success (with_reducible apply st)); conv => whnf))
  refine LoopP.mk ⟨Nat × Nat × List ER, fun y => 8 * y.1 ≤ l.length ∧ y.2.2 = (List.range y.1).map (fun q => (decV (word l q)).1) ∧ ∀ q, q < y.1 → (decV (word l q)).2 = 0, fun y => ([(0, .im true 1 l.length (.ints .u8 l)), (4, .s 0 0 3 y.2.2.length y.2.1), (5, .v (.int .i64 ((8 * y.1 : Nat) : Int)))], [.blk 43 (entsC y.2.2) (y.2.1 * 3)]), fun y => l.length / 8 - y.1, (0, 0, []), ⟨Nat.zero_le _, by simp, fun q h => by omega⟩, Fit.ren [0] [] rfl rfl trivial ?_ ?_, ?_⟩
  · repeat' (first
    | (with_reducible first | exact True.intro | apply And.intro | apply If_true | apply If_false | apply If_not)
    | ((with_reducible apply VC.mk); exact vt)
    | ((with_reducible apply If_dec) <;> intro hc <;> (try (exfalso; omega)))
    | ((with_reducible apply If_any) <;> intro hc)
    | ((with_reducible first | apply PF.mk | apply DrawP.mk); (focus kernel_rfl))
    | ((with_reducible apply Same.mk); (focus rfl); (first | exact trivial | exact rfl))
    | (intro cap hcap)
    | ((fail_if_success (with_reducible apply st)); conv => whnf))
  · repeat' (first
    | (with_reducible first | exact True.intro | apply And.intro | apply If_true | apply If_false | apply If_not)
    | ((with_reducible apply VC.mk); exact vt)
    | ((with_reducible apply If_dec) <;> intro hc <;> (try (exfalso; omega)))
    | ((with_reducible apply If_any) <;> intro hc)
    | ((with_reducible first | apply PF.mk | apply DrawP.mk); (focus kernel_rfl))
    | ((with_reducible apply Same.mk); (focus rfl); (first | exact trivial | exact rfl))
    | (intro cap hcap)
    | ((fail_if_success (with_reducible apply st)); conv => whnf))
  · intro y hy
    obtain ⟨g1, g2, g3⟩ := hy
    have hyl : y.2.2.length = y.1 := by rw [g2, List.length_map, List.length_range]
    have e : (((8 * y.1 : Nat) : Int)).toNat = 8 * y.1 := Int.toNat_natCast _
    repeat' (first
    | (with_reducible first | exact True.intro | apply And.intro | apply If_true | apply If_false | apply If_not)
    | ((with_reducible apply VC.mk); exact vt)
    | ((with_reducible apply If_dec) <;> intro hc <;> (try (exfalso; omega)))
    | ((with_reducible apply If_any) <;> intro hc)
    | ((with_reducible first | apply PF.mk | apply DrawP.mk); (focus kernel_rfl))
    | ((with_reducible apply Same.mk); (focus rfl); (first | exact trivial | exact rfl))
    | (intro cap hcap)
    | ((fail_if_success (with_reducible apply st)); conv => whnf))
    · refine U64_at l ((8 * y.1 : Nat) : Int) ⟨h0.1, h0.2, by omega⟩ ⟨⟨rfl, rfl, rfl⟩, rfl, trivial⟩ ?_
      rintro v b (⟨-, -, rfl, rfl⟩ | ⟨hn, -⟩)
      rotate_left
      · exact absurd ⟨by omega, by omega⟩ hn
      rw [e]
      have vb := word_b h0.2 y.1
      repeat' (first
    | (with_reducible first | exact True.intro | apply And.intro | apply If_true | apply If_false | apply If_not)
    | ((with_reducible apply VC.mk); exact vt)
    | ((with_reducible apply If_dec) <;> intro hc <;> (try (exfalso; omega)))
    | ((with_reducible apply If_any) <;> intro hc)
    | ((with_reducible first | apply PF.mk | apply DrawP.mk); (focus kernel_rfl))
    | ((with_reducible apply Same.mk); (focus rfl); (first | exact trivial | exact rfl))
    | (intro cap hcap)
    | ((fail_if_success (with_reducible apply st)); conv => whnf))
      refine mdec_at (leV ((l.drop (8 * y.1)).take 8)) vb ⟨rfl, trivial⟩ ?_
      rintro ⟨x, e2⟩ hx
      have hx1 : (decV (word l y.1)).1 = x := by unfold word; rw [← hx]
      have hx2 : (decV (word l y.1)).2 = e2 := by unfold word; rw [← hx]
      dsimp only
      repeat' (first
    | (with_reducible first | exact True.intro | apply And.intro | apply If_true | apply If_false | apply If_not)
    | ((with_reducible apply VC.mk); exact vt)
    | ((with_reducible apply If_dec) <;> intro hc <;> (try (exfalso; omega)))
    | ((with_reducible apply If_any) <;> intro hc)
    | ((with_reducible first | apply PF.mk | apply DrawP.mk); (focus kernel_rfl))
    | ((with_reducible apply Same.mk); (focus rfl); (first | exact trivial | exact rfl))
    | (intro cap hcap)
    | ((fail_if_success (with_reducible apply st)); conv => whnf))
      · have hc2 : e2 ≠ 0 := hc
        have hk2 := hk ([], e2) (.inr ⟨hc2, rfl, y.1, by omega, by rw [hx2]; exact hc2⟩)
        exact Fin.ren [] [] (.tup [.im true 3 0 (entsC []), .v (.int .i64 e2)]) [] rfl rfl trivial trivial ⟨⟨VC.mk rfl, VC.mk rfl⟩, VC.mk rfl, trivial⟩ hk2
      · have hc2 : e2 = 0 := Decidable.not_not.1 hc
        refine Round.mk ⟨(y.1 + 1, cap, y.2.2 ++ [x]), ⟨by show 8 * (y.1 + 1) ≤ _; omega, ?_, ?_⟩, by show l.length / 8 - (y.1 + 1) < l.length / 8 - y.1; omega, Fit.ren [3] [] rfl rfl trivial ?_ ?_⟩
        · show y.2.2 ++ [x] = _
          rw [List.range_succ, List.map_append, ← g2, ← hx1]; rfl
        · intro q hq
          have hq : q < y.1 + 1 := hq
          by_cases hq2 : q < y.1
          · exact g3 q hq2
          · rw [show q = y.1 by omega, hx2]; exact hc2
        · refine ⟨⟨VC.mk ⟨rfl, rfl⟩, VC.mk ⟨rfl, by show (y.2.2 ++ [x]).length ≤ _; simp⟩, ?_⟩, trivial⟩
          refine snoc_le entAV ⟨0, 0, false⟩ y.2.2 x _ ?_ ?_
          · intro j hj; simp only [if_pos hj]; exact ⟨VC.mk rfl, VC.mk rfl, VC.mk rfl, trivial⟩
          · simp only [Nat.lt_irrefl, if_false]; exact ⟨VC.mk rfl, VC.mk rfl, VC.mk rfl, trivial⟩
        · repeat' (first
    | (with_reducible first | exact True.intro | apply And.intro | apply If_true | apply If_false | apply If_not)
    | ((with_reducible apply VC.mk); exact vt)
    | ((with_reducible apply If_dec) <;> intro hc <;> (try (exfalso; omega)))
    | ((with_reducible apply If_any) <;> intro hc)
    | ((with_reducible first | apply PF.mk | apply DrawP.mk); (focus kernel_rfl))
    | ((with_reducible apply Same.mk); (focus rfl); (first | exact trivial | exact rfl))
    | (intro cap hcap)
    | ((fail_if_success (with_reducible apply st)); conv => whnf))
    · have hk2 := hk (y.2.2, 0) (.inl ⟨rfl, by unfold decT; rw [show l.length / 8 = y.1 by omega]; exact g2, fun q hq => g3 q (by omega)⟩)
      refine Fin.ren [] [0] (.tup [.im true 3 y.2.2.length (entsC y.2.2), .v (.int .i64 0)]) [] rfl rfl ⟨trivial, trivial⟩ trivial ⟨⟨VC.mk ⟨?_, rfl, rfl, rfl, by decide⟩, VC.mk ⟨rfl, rfl⟩, fun j hj => ?_⟩, VC.mk rfl, trivial⟩ hk2
      · omega
      · simp only [Nat.zero_add]; exact ⟨VC.mk rfl, VC.mk rfl, VC.mk rfl, trivial⟩
def mlistOk (x : List Int) : Prop := x.length ≤ 1099511627776 ∧ B8 x
def mlistRel (x : List Int) (r : List ER × Int) : Prop := LRel x r
theorem mlist_K : ConOk Go.Proofs.Try.prog 74 (Con.of (List Int) (List ER × Int) (fun x => [.im true 1 x.length (.ints .u8 x)]) (fun _ => []) mlistOk mlistRel (fun _ r => .tup [.im true 3 r.1.length (entsC r.1), .v (.int .i64 r.2)]) (fun _ _ => [])) := by
  refine conOk_rel (T := tab) mix Go.Proofs.Try.func74 (by decide +kernel) (by kernel_rfl) [] [] (fun n => by rw [Go.Proofs.Try.ntmps74]; exact Nat.le_of_ble_eq_true rfl) (fun x r _ _ => ⟨by simp [AV.noF, noFs, Cont.noF, recsC_noF], (fun c hc => by cases hc), Nat.le_refl _⟩) (fun x _ c hc => by cases hc) ?_
  intro x k h0 hk
  exact mlist_c x k h0 (fun r hr => hk r hr)
theorem mlist_at {avs : List AV} {H : List Chunk} {k : K} (l : List Int) (h0 : l.length ≤ 1099511627776 ∧ B8 l) (ha : argsM H [] [.im true 1 l.length (.ints .u8 l)] avs) (hQ : ∀ r : List ER × Int, (LRel l r) → k (.tup [.im true 3 r.1.length (entsC r.1), .v (.int .i64 r.2)]) H) : CallP Go.Proofs.Try.prog 74 avs H k :=
  CallP.mk ⟨_, mlist_K.real, Con.spec mlist_K, (l), [], ⟨h0, rfl, trivial, ha⟩, fun r hr => (numK_eq H.length (fun N => k (AV.ren (fren [] N) (.tup [.im true 3 r.1.length (entsC r.1), .v (.int .i64 r.2)])) (putAll H [] []))).mpr (by simpa [putAll, AV.ren, rens, Cont.ren, recsC, recAV] using hQ r hr)⟩
end Go.Proofs.Ytcfmlnddmpiemaa.Sx


set_option maxRecDepth 10000
namespace Go.Proofs.Ytcfmlnddmpiemaa.Sx
open Go.RowKit Go.Proofs.Ytcfmlnddmpiemaa.Sx.Tb
attribute [local simp] entsC_noF entsC_ren
set_option maxHeartbeats 8000000 in
theorem mall_c (t : TR) (j : JR) (s : DF) (h : HD) (n : Int) (k : K) (h0 : TabOk t s h n) (hk : ∀ r : (List ER × Int) × Nat, LRel (t.rd s.now (n * h.clus).toNat h.clus.toNat) r.1 ∧ r.2 ≤ 4096 → k (.tup [.im true 3 r.1.1.length (entsC r.1.1), .v (.int .i64 r.1.2)]) (tp6 t j (s.tick r.2) h n)) : evFunc tab [] p21 Go.Proofs.Try.f21 [.p 5 0 1 0] (tp6 t j s h n) k := by
  obtain ⟨h1, h2, h3, h4, ⟨n1, n2, n3⟩, h6, h7, h8⟩ := h0
  have cb := h.clus_b
  have nb : 512 ≤ n * h.clus ∧ n * h.clus + h.clus ≤ 4194304 := by
    have e : (n + 1) * h.clus = n * h.clus + h.clus := by rw [Int.add_mul]; omega
    have e2 : 1 * h.clus ≤ n * h.clus := Int.mul_le_mul_of_nonneg_right n1 (by omega)
    omega
  repeat' (first
    | (with_reducible first | exact True.intro | apply And.intro | apply If_true | apply If_false | apply If_not)
    | ((with_reducible apply VC.mk); exact vt)
    | ((with_reducible apply If_dec) <;> intro hc <;> (try (exfalso; omega)))
    | ((with_reducible apply If_any) <;> intro hc)
    | ((with_reducible first | apply PF.mk | apply DrawP.mk); (focus kernel_rfl))
    | ((with_reducible apply Same.mk); (focus rfl); (first | exact trivial | exact rfl))
    | (intro cap hcap)
    | ((fail_if_success (with_reducible apply st)); conv => whnf))
  refine hclus_at h h3 ⟨⟨rfl, rfl, rfl, rfl, rfl, trivial⟩, trivial⟩ ?_
  rintro _ rfl
  repeat' (first
    | (with_reducible first | exact True.intro | apply And.intro | apply If_true | apply If_false | apply If_not)
    | ((with_reducible apply VC.mk); exact vt)
    | ((with_reducible apply If_dec) <;> intro hc <;> (try (exfalso; omega)))
    | ((with_reducible apply If_any) <;> intro hc)
    | ((with_reducible first | apply PF.mk | apply DrawP.mk); (focus kernel_rfl))
    | ((with_reducible apply Same.mk); (focus rfl); (first | exact trivial | exact rfl))
    | (intro cap hcap)
    | ((fail_if_success (with_reducible apply st)); conv => whnf))
  refine hclus_at h h3 ⟨⟨rfl, rfl, rfl, rfl, rfl, trivial⟩, trivial⟩ ?_
  rintro _ rfl
  repeat' (first
    | (with_reducible first | exact True.intro | apply And.intro | apply If_true | apply If_false | apply If_not)
    | ((with_reducible apply VC.mk); exact vt)
    | ((with_reducible apply If_dec) <;> intro hc <;> (try (exfalso; omega)))
    | ((with_reducible apply If_any) <;> intro hc)
    | ((with_reducible first | apply PF.mk | apply DrawP.mk); (focus kernel_rfl))
    | ((with_reducible apply Same.mk); (focus rfl); (first | exact trivial | exact rfl))
    | (intro cap hcap)
    | ((fail_if_success (with_reducible apply st)); conv => whnf))
  refine tget_at t j s (n * h.clus) h.clus 0 1 2 3 4 ⟨h1, h2, ⟨by simp only [inR]; omega, by simp only [inR]; omega⟩, h6, h7, h8⟩ rfl rfl rfl rfl rfl rfl ⟨rfl, rfl, rfl, trivial⟩ ?_
  rintro ⟨l, e, m⟩ hr
  dsimp only at hr ⊢
  have hib : inB (n * h.clus) h.clus := by unfold inB; omega
  rcases hr with ⟨-, e1, e2, e3⟩ | ⟨e1, -⟩
  rotate_left
  · exact absurd hib e1
  have hl : l.length = h.clus.toNat := by rw [e2, TR.rd_length]
  have hB : B8 l := by rw [e2]; exact h4.rd _ _
  subst e1
  repeat' (first
    | (with_reducible first | exact True.intro | apply And.intro | apply If_true | apply If_false | apply If_not)
    | ((with_reducible apply VC.mk); exact vt)
    | ((with_reducible apply If_dec) <;> intro hc <;> (try (exfalso; omega)))
    | ((with_reducible apply If_any) <;> intro hc)
    | ((with_reducible first | apply PF.mk | apply DrawP.mk); (focus kernel_rfl))
    | ((with_reducible apply Same.mk); (focus rfl); (first | exact trivial | exact rfl))
    | (intro cap hcap)
    | ((fail_if_success (with_reducible apply st)); conv => whnf))
  refine mlist_at l ⟨by omega, hB⟩ ⟨rfl, trivial⟩ ?_
  rintro ⟨es, e⟩ he
  have hk2 := hk ((es, e), m) ⟨by rw [← e2]; exact he, by show m ≤ 4096; omega⟩
  dsimp only
  repeat' (first
    | (with_reducible first | exact True.intro | apply And.intro | apply If_true | apply If_false | apply If_not)
    | ((with_reducible apply VC.mk); exact vt)
    | ((with_reducible apply If_dec) <;> intro hc <;> (try (exfalso; omega)))
    | ((with_reducible apply If_any) <;> intro hc)
    | ((with_reducible first | apply PF.mk | apply DrawP.mk); (focus kernel_rfl))
    | ((with_reducible apply Same.mk); (focus rfl); (first | exact trivial | exact rfl))
    | (intro cap hcap)
    | ((fail_if_success (with_reducible apply st)); conv => whnf))
  refine T6.fin rfl rfl rfl rfl rfl rfl hk2 ⟨fun j hj => ⟨trivial, trivial, trivial, trivial⟩, trivial, trivial⟩
def mallOk (x : TR × JR × DF × HD × Int) : Prop := TabOk x.1 x.2.2.1 x.2.2.2.1 x.2.2.2.2
def mallRel (x : TR × JR × DF × HD × Int) (r : (List ER × Int) × Nat) : Prop := LRel (x.1.rd x.2.2.1.now (x.2.2.2.2 * x.2.2.2.1.clus).toNat x.2.2.2.1.clus.toNat) r.1 ∧ r.2 ≤ 4096
theorem mall_K : ConOk Go.Proofs.Try.prog 21 (Con.of (TR × JR × DF × HD × Int) ((List ER × Int) × Nat) (fun x => [.p 5 0 1 0]) (fun x => tp6 x.1 x.2.1 x.2.2.1 x.2.2.2.1 x.2.2.2.2) mallOk mallRel (fun x r => .tup [.im true 3 r.1.1.length (entsC r.1.1), .v (.int .i64 r.1.2)]) (fun x r => tp6 (x.1) x.2.1 (x.2.2.1.tick r.2) x.2.2.2.1 x.2.2.2.2)) := by
  refine conOk_rel (T := tab) mix Go.Proofs.Try.func21 (by decide +kernel) (by kernel_rfl) [] p21 (fun n => by rw [Go.Proofs.Try.ntmps21]; exact Nat.le_of_ble_eq_true rfl) (fun x r _ _ => T6.good (by simp [AV.noF, noFs, Cont.noF, entsC_noF])) (fun x _ => T6.nd) ?_
  intro x k h0 hk
  exact mall_c x.1 x.2.1 x.2.2.1 x.2.2.2.1 x.2.2.2.2 k h0 (fun r hr => hk r hr)
theorem mall_at {avs : List AV} {H : List Chunk} {k : K} (t : TR) (j : JR) (s : DF) (h : HD) (n : Int) (ta tb tc td te tf : Nat) (h0 : TabOk t s h n) (hn : nodupN [ta, tb, tc, td, te, tf] = true) (ha0 : nth H ta = some (t.c0 td tb tc)) (hb0 : nth H tb = some t.c1) (hc0 : nth H tc = some t.c2) (hd0 : nth H td = some (j.blk te)) (he0 : nth H te = some s.pk) (hf0 : nth H tf = some (mtb h n ta)) (ha : argsM H [ta, tb, tc, td, te, tf] [.p 5 0 1 0] avs)
    (hQ : ∀ r : (List ER × Int) × Nat, (LRel (t.rd s.now (n * h.clus).toNat h.clus.toNat) r.1 ∧ r.2 ≤ 4096) → k (.tup [.im true 3 r.1.1.length (entsC r.1.1), .v (.int .i64 r.1.2)]) ((((((H.set ta (TR.c0 (t) td tb tc)).set tb (TR.c1 (t))).set tc (TR.c2 (t))).set td (j.blk te)).set te (DF.pk (s.tick r.2))).set tf (mtb h n ta))) : CallP Go.Proofs.Try.prog 21 avs H k :=
  CallP.mk ⟨_, mall_K.real, Con.spec mall_K, (t, j, s, h, n), [ta, tb, tc, td, te, tf], ⟨h0, hn, ⟨ha0, hb0.trans (congrArg some (TR.c1_ren t _).symm), hc0, hd0, he0, hf0, trivial⟩, ha⟩, fun r hr => (numK_eq _ _).mpr (by simpa [tp6, putAll, TR.c0_ren, TR.c1_ren, TR.c2_ren, JR.blk_ren, DF.pk_ren, mtb_ren, AV.ren, rens, Cont.ren, entsC_ren, fren, nth] using hQ r hr)⟩
/-! ### The reference -/
end Go.Proofs.Ytcfmlnddmpiemaa.Sx


set_option maxRecDepth 10000
namespace Go.Proofs.Ytcfmlnddmpiemaa.Sx
open Go.RowKit Go.Proofs.Ytcfmlnddmpiemaa.Sx.Tb
/-! ### The counts' header, the nil ones, New -/
def HD.r (H : Int) : HD := ⟨9, 32768, H, 29, false⟩
def rfb (h : HD) (i : Nat) : Chunk := .blk 126 (.lst [.v (.int .i64 h.bits), .v (.int .i64 h.size), .v (.int .i64 h.host), .v (.int .i64 h.jr), .v (.bool h.backed), .p i 0 1 0]) 6
theorem rfb_ren (h : HD) (i : Nat) (f : Nat → Nat) : (rfb h i).ren f = rfb h (f i) := rfl
set_option maxHeartbeats 8000000 in
theorem rnew_c (t : TR) (j : JR) (s : DF) (h : HD) (k : K) (h0 : hR h) (hk1 : h.checkV ≠ 0 → k (.tup [.v (.pointer none), .v (.int .i64 h.checkV)]) (tpre t j s)) (hk2 : h.checkV = 0 → k (.tup [.p 5 0 1 0, .v (.int .i64 0)]) (tpre t j s ++ [rfb h 0])) : evFunc tab [] [] Go.Proofs.Try.f58 [.agg [.v (.int .i64 h.bits), .v (.int .i64 h.size), .v (.int .i64 h.host), .v (.int .i64 h.jr), .v (.bool h.backed)], .p 0 0 1 0] (tpre t j s) k := by
  repeat' (first
    | (with_reducible first | exact True.intro | apply And.intro | apply If_true | apply If_false | apply If_not)
    | ((with_reducible apply VC.mk); exact vt)
    | ((with_reducible apply If_dec) <;> intro hc <;> (try (exfalso; omega)))
    | ((with_reducible apply If_any) <;> intro hc)
    | ((with_reducible first | apply PF.mk | apply DrawP.mk); (focus kernel_rfl))
    | ((with_reducible apply Same.mk); (focus rfl); (first | exact trivial | exact rfl))
    | (intro cap hcap)
    | ((fail_if_success (with_reducible apply st)); conv => whnf))
  refine hcheck_at h h0 ⟨⟨rfl, rfl, rfl, rfl, rfl, trivial⟩, trivial⟩ ?_
  rintro r rfl
  repeat' (first
    | (with_reducible first | exact True.intro | apply And.intro | apply If_true | apply If_false | apply If_not)
    | ((with_reducible apply VC.mk); exact vt)
    | ((with_reducible apply If_dec) <;> intro hc <;> (try (exfalso; omega)))
    | ((with_reducible apply If_any) <;> intro hc)
    | ((with_reducible first | apply PF.mk | apply DrawP.mk); (focus kernel_rfl))
    | ((with_reducible apply Same.mk); (focus rfl); (first | exact trivial | exact rfl))
    | (intro cap hcap)
    | ((fail_if_success (with_reducible apply st)); conv => whnf))
  · exact T5.fin rfl rfl rfl rfl rfl rfl (hk1 hc)
  · refine Fin.ren [0, 1, 2, 3, 4, 6] [] (.tup [.p 5 0 1 0, .v (.int .i64 0)]) (tpre t j s ++ [rfb h 0]) rfl rfl trivial (T5.leX rfl rfl rfl rfl rfl rfl rfl rfl rfl rfl ⟨⟨VC.mk ⟨rfl, rfl⟩, VC.mk rfl, VC.mk rfl, VC.mk rfl, VC.mk rfl, VC.mk rfl, VC.mk ⟨rfl, rfl, rfl, rfl⟩, trivial⟩, trivial⟩) ⟨VC.mk ⟨rfl, rfl, rfl, rfl⟩, VC.mk rfl, trivial⟩ (hk2 (by omega))
theorem rnew_K : ConOk Go.Proofs.Try.prog 58 ⟨TR × JR × DF × HD, fun x => [.agg [.v (.int .i64 x.2.2.2.bits), .v (.int .i64 x.2.2.2.size), .v (.int .i64 x.2.2.2.host), .v (.int .i64 x.2.2.2.jr), .v (.bool x.2.2.2.backed)], .p 0 0 1 0], fun x => tpre x.1 x.2.1 x.2.2.1, fun x => hR x.2.2.2, fun x k => (x.2.2.2.checkV ≠ 0 → k (.tup [.v (.pointer none), .v (.int .i64 (x.2.2.2.checkV))]) (tpre x.1 x.2.1 x.2.2.1)) ∧ (x.2.2.2.checkV = 0 → k (.tup [.p 5 0 1 0, .v (.int .i64 0)]) (tpre x.1 x.2.1 x.2.2.1 ++ [rfb x.2.2.2 0]))⟩ := by
  refine conOk_fin (T := tab) mix Go.Proofs.Try.func58 (by decide +kernel) (by kernel_rfl) [] [] ?_ ?_ ?_ ?_
  · intro x h0; rw [Go.Proofs.Try.ntmps58]; exact Nat.le_of_ble_eq_true rfl
  · intro x k h0 hk
    refine ⟨fun h => ⟨hk.1 h, T5.good (by simp [AV.noF, noFs])⟩, fun h => ⟨hk.2 h, ⟨by simp [AV.noF, noFs], fun c hc => ?_, ?_⟩⟩⟩
    · rcases List.mem_append.1 hc with hc | hc
      · exact (T5.good (v := .v (.bool true)) trivial).2.1 c hc
      · simp at hc; subst hc; exact .blk ⟨trivial, trivial, trivial, trivial, trivial, trivial, trivial⟩
    · show 5 ≤ (tpre _ _ _ ++ [_]).length
      exact Nat.le_of_ble_eq_true rfl
  · intro x h0; exact T5.nd
  · intro x k h0 hk; exact rnew_c x.1 x.2.1 x.2.2.1 x.2.2.2 _ h0 (fun h => Fin.same (hk.1 h)) (fun h => Fin.same (hk.2 h))
theorem rnew_at {avs : List AV} {H : List Chunk} {k : K} (t : TR) (j : JR) (s : DF) (h : HD) (ta tb tc td te : Nat) (h0 : hR h) (hn : nodupN [ta, tb, tc, td, te] = true) (ha0 : nth H ta = some (t.c0 td tb tc)) (hb0 : nth H tb = some t.c1) (hc0 : nth H tc = some t.c2) (hd0 : nth H td = some (j.blk te)) (he0 : nth H te = some s.pk) (ha : argsM H [ta, tb, tc, td, te] [.agg [.v (.int .i64 h.bits), .v (.int .i64 h.size), .v (.int .i64 h.host), .v (.int .i64 h.jr), .v (.bool h.backed)], .p 0 0 1 0] avs)
    (hQ1 : h.checkV ≠ 0 → k (.tup [.v (.pointer none), .v (.int .i64 (h.checkV))]) (((((H.set ta (t.c0 td tb tc)).set tb t.c1).set tc t.c2).set td (j.blk te)).set te s.pk))
    (hQ2 : h.checkV = 0 → k (.tup [.p H.length 0 1 0, .v (.int .i64 0)]) ((((((H.set ta (t.c0 td tb tc)).set tb t.c1).set tc t.c2).set td (j.blk te)).set te s.pk) ++ [rfb h ta])) : CallP Go.Proofs.Try.prog 58 avs H k :=
  CallP.mk ⟨_, rnew_K.real, Con.spec rnew_K, (t, j, s, h), [ta, tb, tc, td, te], ⟨h0, hn, ⟨ha0, hb0.trans (congrArg some (TR.c1_ren t _).symm), hc0, hd0, he0, trivial⟩, ha⟩, fun hh => (numK_eq _ _).mpr (by simpa [tpre, putAll, TR.c0_ren, TR.c1_ren, TR.c2_ren, JR.blk_ren, DF.pk_ren, AV.ren, rens, fren, nth] using hQ1 hh), fun hh => (numK_eq _ _).mpr (by simpa [tpre, putAll, TR.c0_ren, TR.c1_ren, TR.c2_ren, JR.blk_ren, DF.pk_ren, rfb_ren, AV.ren, rens, fren, nth] using hQ2 hh)⟩
end Go.Proofs.Ytcfmlnddmpiemaa.Sx


set_option maxRecDepth 10000
namespace Go.Proofs.Ytcfmlnddmpiemaa.Sx
open Go.RowKit Go.Proofs.Ytcfmlnddmpiemaa.Sx.Tb
/-! ### A nil tx; the law's files -/
end Go.Proofs.Ytcfmlnddmpiemaa.Sx


set_option maxRecDepth 10000
namespace Go.Proofs.Ytcfmlnddmpiemaa.Sx
open Go.RowKit Go.Proofs.Ytcfmlnddmpiemaa.Sx.Tb
/-! ### The law's records -/
/-! ### The law's file -/
structure CaseR where
  n : Int
  fill : List Int
  pos : Int
  size : Int
  recs : List RecR
end Go.Proofs.Ytcfmlnddmpiemaa.Sx


set_option maxRecDepth 10000
namespace Go.Proofs.Ytcfmlnddmpiemaa.Sx
open Go.RowKit Go.Proofs.Ytcfmlnddmpiemaa.Sx.Tb
/-! ### The document's Done -/
/-! ### The law -/
end Go.Proofs.Ytcfmlnddmpiemaa.Sx



set_option maxRecDepth 10000
namespace Go.Proofs.Ytcfmlnddmpiemaa.Sx
open Go.RowKit Go.Proofs.Ytcfmlnddmpiemaa.Sx.Tb
/-! ### The functions of the tx's laws -/
end Go.Proofs.Ytcfmlnddmpiemaa.Sx


set_option maxRecDepth 10000
namespace Go.Proofs.Ytcfmlnddmpiemaa.Sx
open Go.RowKit Go.Proofs.Ytcfmlnddmpiemaa.Sx.Tb
/-! ### The tx's example -/
abbrev jX : JR := ⟨512, 10240, 0⟩
theorem jX_al : jX.al := ⟨by decide, by decide⟩
theorem TR.zero_ok : TR.zero.Ok := ⟨fun x hx => absurd hx List.not_mem_nil, fun x hx => absurd hx List.not_mem_nil, Nat.le_refl _, Nat.zero_le _⟩
theorem TR.zero_In (j : JR) : TR.zero.In j := ⟨fun x hx => absurd hx List.not_mem_nil, List.nodup_nil, fun x hx => absurd hx List.not_mem_nil⟩
theorem TR.zero_B {z : List Int} (h : B8 z) : TR.zero.B z := fun i => by rw [zero_V]; exact h.getD i
theorem DF.mk0_ok {b : List Int} (h : b.length ≤ 4194304) (n : Int) (hn : 0 ≤ n) : (DF.mk0 b).Ok n := ⟨h, h, fun it hi => absurd hi List.not_mem_nil, by show (0 : Int) ≤ n; exact hn, ⟨Int.le_refl _, hn⟩, ⟨Int.le_refl _, hn⟩, rfl⟩
theorem DF.Ok.tick {s : DF} {n : Int} (h : s.Ok n) (m : Nat) : (s.tick m).Ok (n + m) := ⟨h.safe, h.now, h.its, by have := h.len; show (s.items.length : Int) ≤ _; omega, by have := h.ops; show 0 ≤ s.ops + m ∧ s.ops + m ≤ _; omega, by have := h.wrote; show 0 ≤ s.wrote ∧ s.wrote ≤ _; omega, h.all⟩
end Go.Proofs.Ytcfmlnddmpiemaa.Sx


set_option maxRecDepth 10000
namespace Go.Proofs.Ytcfmlnddmpiemaa.Sx
open Go.RowKit Go.Proofs.Ytcfmlnddmpiemaa.Sx.Tb
/-! ### begun, for the counts -/
theorem HD.r_vals {H : Int} (h : 40 ≤ H ∧ H ≤ 99) : (HD.r H).clus = 512 ∧ (HD.r H).refs = 1 ∧ (HD.r H).jend = 15360 ∧ (HD.r H).rend = 15872 ∧ (HD.r H).first = 33 := by
  have c : (HD.r H).clus = 512 := by unfold HD.clus HD.r; rw [if_neg (by simp)]; rfl
  have r : (HD.r H).refs = 1 := by
    unfold HD.refs; rw [c]
    show (2 * max 0 (min H 8192) + 512 - 1) / 512 = 1
    omega
  have e : (HD.r H).jend = 15360 := by
    unfold HD.jend; rw [c]
    show 512 * (1 + max 0 (min 29 8192)) = (15360 : Int)
    decide
  have e2 : (HD.r H).rend = 15872 := by
    unfold HD.rend; rw [c, r, e]; decide
  refine ⟨c, r, e, e2, ?_⟩
  unfold HD.first; rw [c, e2]; decide
def oneAt (c i : Nat) : Int := if 15360 ≤ i ∧ i < 15360 + 2 * c ∧ i % 2 = 0 then 1 else 0
def RZ (c : Nat) (z : List Int) : Prop := z.length = 16896 ∧ ∀ i, z.getD i 0 = oneAt c i
theorem RZ.set {c : Nat} {z : List Int} (h : RZ c z) (hc : c < 33) : RZ (c + 1) (z.set (15360 + 2 * c) 1) := by
  refine ⟨by rw [List.length_set]; exact h.1, fun i => ?_⟩
  by_cases hi : i = 15360 + 2 * c
  · subst hi
    rw [List.getD_eq_getElem?_getD, List.getElem?_set_self (by rw [h.1]; omega)]
    unfold oneAt; rw [if_pos (by omega)]; rfl
  · rw [List.getD_eq_getElem?_getD, List.getElem?_set_ne (fun e => hi e.symm), ← List.getD_eq_getElem?_getD, h.2 i]
    unfold oneAt
    by_cases q : 15360 ≤ i ∧ i < 15360 + 2 * c ∧ i % 2 = 0
    · rw [if_pos q, if_pos (by omega)]
    · rw [if_neg q, if_neg (by omega)]
theorem RZ.zero : RZ 0 (List.replicate 16896 0) := by
  refine ⟨List.length_replicate .., fun i => ?_⟩
  unfold oneAt; rw [if_neg (by omega), List.getD_eq_getElem?_getD, List.getElem?_replicate]; split <;> rfl
end Go.Proofs.Ytcfmlnddmpiemaa.Sx


set_option maxRecDepth 10000
namespace Go.Proofs.Ytcfmlnddmpiemaa.Sx
open Go.RowKit Go.Proofs.Ytcfmlnddmpiemaa.Sx.Tb
attribute [local simp] entsC_noF entsC_ren
/-! ### Counts over their tx -/
def rp6 (t : TR) (j : JR) (s : DF) (h : HD) : List Chunk := [t.c0 3 1 2, t.c1, t.c2, j.blk 4, s.pk, rfb h 0]
theorem rfb_le {H : List Chunk} {fz : List Nat} {f : Nat → Nat} {ph : Nat → Bool} {h : HD} {a i : Nat} (fi : f 0 = a) (h0 : nth H i = some (rfb h a)) (hz : memN i fz = false) : (rfb h 0).le H fz f ph i := by
  unfold Chunk.le rfb
  simp only
  rw [nth_lt h0, hz, h0]
  exact ⟨VC.mk ⟨rfl, rfl⟩, VC.mk rfl, VC.mk rfl, VC.mk rfl, VC.mk rfl, VC.mk rfl, VC.mk ⟨fi, rfl, rfl, rfl⟩, trivial⟩
theorem R6.le {H : List Chunk} {f : Nat → Nat} {ph : Nat → Bool} {t : TR} {j : JR} {s : DF} {h : HD} {σ : List Nat} {cs : List Chunk} (f0 : f 0 = 0) (f1 : f 1 = 1) (f2 : f 2 = 2) (f3 : f 3 = 3) (f4 : f 4 = 4) (h0 : nth H 0 = some (t.c0 3 1 2)) (h1 : nth H 1 = some t.c1) (h2 : nth H 2 = some t.c2) (h3 : nth H 3 = some (j.blk 4)) (h4 : nth H 4 = some s.pk) (h5 : nth H 5 = some (rfb h 0)) (hx : chunksLe H [] f ph σ cs) : chunksLe H [] f ph (0 :: 1 :: 2 :: 3 :: 4 :: 5 :: σ) (rp6 t j s h ++ cs) :=
  T5.leG f1 f2 f3 f4 h0 h1 h2 h3 h4 ⟨rfl, rfl, rfl, rfl, rfl⟩ (cs := rfb h 0 :: cs) ⟨rfb_le f0 h5 rfl, hx⟩
theorem R6.fin {H : List Chunk} {t : TR} {j : JR} {s : DF} {h : HD} {v : AV} {k : K} (h0 : nth H 0 = some (t.c0 3 1 2)) (h1 : nth H 1 = some t.c1) (h2 : nth H 2 = some t.c2) (h3 : nth H 3 = some (j.blk 4)) (h4 : nth H 4 = some s.pk) (h5 : nth H 5 = some (rfb h 0)) (hk : k v (rp6 t j s h)) (hv : v.inN 6 := by simp [AV.inN, inNs, Cont.inN]) : Fin 6 v H k :=
  Fin.ren [0, 1, 2, 3, 4, 5] [] v (rp6 t j s h) rfl rfl trivial (R6.le rfl rfl rfl rfl rfl h0 h1 h2 h3 h4 h5 (cs := []) trivial) (AV.le_refl fix6 hv) hk
theorem R6.good {t : TR} {j : JR} {s : DF} {h : HD} {v : AV} (hv : v.noF) : Good 6 v (rp6 t j s h) := by
  refine ⟨hv, fun c hc => ?_, Nat.le_refl _⟩
  rcases List.mem_append.1 (show c ∈ tpre t j s ++ [rfb h 0] from hc) with hc | hc
  · exact (T5.good (v := .v (.bool true)) trivial).2.1 c hc
  · simp at hc; subst hc; exact .blk ⟨trivial, trivial, trivial, trivial, trivial, trivial, trivial⟩
theorem R6.nd {t : TR} {j : JR} {s : DF} {h : HD} : ∀ c ∈ rp6 t j s h, c.lives := by
  intro c hc
  rcases List.mem_append.1 (show c ∈ tpre t j s ++ [rfb h 0] from hc) with hc | hc
  · exact T5.nd c hc
  · simp at hc; subst hc; trivial
theorem cnin_c (t : TR) (j : JR) (s : DF) (h : HD) (n : Int) (k : K) (h0 : inR .i64 n ∧ hR h) (hk : ∀ r : Int, r = (if 0 ≤ n ∧ n < h.host then 0 else 4) → k (.v (.int .i64 r)) (rp6 t j s h)) : evFunc tab [] [] Go.Proofs.Try.f90 [.p 5 0 1 0, .v (.int .i64 n)] (rp6 t j s h) k := by
  repeat' (first
    | (with_reducible first | exact True.intro | apply And.intro | apply If_true | apply If_false | apply If_not)
    | ((with_reducible apply VC.mk); exact vt)
    | ((with_reducible apply If_dec) <;> intro hc <;> (try (exfalso; omega)))
    | ((with_reducible apply If_any) <;> intro hc)
    | ((with_reducible first | apply PF.mk | apply DrawP.mk); (focus kernel_rfl))
    | ((with_reducible apply Same.mk); (focus rfl); (first | exact trivial | exact rfl))
    | (intro cap hcap)
    | ((fail_if_success (with_reducible apply st)); conv => whnf))
  · exact R6.fin rfl rfl rfl rfl rfl rfl (hk 4 (by rw [if_neg (by omega)]))
  · exact R6.fin rfl rfl rfl rfl rfl rfl (hk 4 (by rw [if_neg (by omega)]))
  · exact R6.fin rfl rfl rfl rfl rfl rfl (hk 0 (by rw [if_pos (by omega)]))
def cninOk (x : TR × JR × DF × HD × Int) : Prop := inR .i64 x.2.2.2.2 ∧ hR x.2.2.2.1
def cninRel (x : TR × JR × DF × HD × Int) (r : Int) : Prop := r = (if 0 ≤ x.2.2.2.2 ∧ x.2.2.2.2 < x.2.2.2.1.host then 0 else 4)
theorem cnin_K : ConOk Go.Proofs.Try.prog 90 (Con.of (TR × JR × DF × HD × Int) (Int) (fun x => [.p 5 0 1 0, .v (.int .i64 x.2.2.2.2)]) (fun x => rp6 x.1 x.2.1 x.2.2.1 x.2.2.2.1) cninOk cninRel (fun x r => .v (.int .i64 r)) (fun x r => rp6 (x.1) x.2.1 (x.2.2.1) x.2.2.2.1)) := by
  refine conOk_rel (T := tab) mix Go.Proofs.Try.func90 (by decide +kernel) (by kernel_rfl) [] [] (fun n => by rw [Go.Proofs.Try.ntmps90]; exact Nat.le_of_ble_eq_true rfl) (fun x r _ _ => R6.good (by simp [AV.noF, noFs, Cont.noF, entsC_noF])) (fun x _ => R6.nd) ?_
  intro x k h0 hk
  exact cnin_c x.1 x.2.1 x.2.2.1 x.2.2.2.1 x.2.2.2.2 k h0 (fun r hr => hk r hr)
theorem cnin_at {avs : List AV} {H : List Chunk} {k : K} (t : TR) (j : JR) (s : DF) (h : HD) (n : Int) (ta tb tc td te tf : Nat) (h0 : inR .i64 n ∧ hR h) (hn : nodupN [ta, tb, tc, td, te, tf] = true) (ha0 : nth H ta = some (t.c0 td tb tc)) (hb0 : nth H tb = some t.c1) (hc0 : nth H tc = some t.c2) (hd0 : nth H td = some (j.blk te)) (he0 : nth H te = some s.pk) (hf0 : nth H tf = some (rfb h ta)) (ha : argsM H [ta, tb, tc, td, te, tf] [.p 5 0 1 0, .v (.int .i64 n)] avs)
    (hQ : ∀ r : Int, (r = (if 0 ≤ n ∧ n < h.host then 0 else 4)) → k (.v (.int .i64 r)) ((((((H.set ta (TR.c0 (t) td tb tc)).set tb (TR.c1 (t))).set tc (TR.c2 (t))).set td (j.blk te)).set te (DF.pk (s))).set tf (rfb h ta))) : CallP Go.Proofs.Try.prog 90 avs H k :=
  CallP.mk ⟨_, cnin_K.real, Con.spec cnin_K, (t, j, s, h, n), [ta, tb, tc, td, te, tf], ⟨h0, hn, ⟨ha0, hb0.trans (congrArg some (TR.c1_ren t _).symm), hc0, hd0, he0, hf0, trivial⟩, ha⟩, fun r hr => (numK_eq _ _).mpr (by simpa [rp6, putAll, TR.c0_ren, TR.c1_ren, TR.c2_ren, JR.blk_ren, DF.pk_ren, rfb_ren, AV.ren, rens, Cont.ren, entsC_ren, fren, nth] using hQ r hr)⟩
def RefOk (t : TR) (s : DF) (h : HD) : Prop := t.Ok ∧ s.live ∧ hR h ∧ t.B s.now ∧ (0 ≤ h.host ∧ h.host ≤ 8192 ∧ h.jend + 2 * h.host ≤ 4194304) ∧ 0 ≤ s.ops ∧ s.ops ≤ 274877906944 ∧ s.now.length ≤ 4194304
def CSet (t : TR) (now : List Int) (h : HD) (n c : Int) (r : Int × TR × Nat) : Prop :=
  ¬ (0 ≤ n ∧ n < h.host) ∧ r = (4, t, 0) ∨ (0 ≤ n ∧ n < h.host) ∧ ¬ (0 ≤ c ∧ c ≤ 65535) ∧ r = (20, t, 0) ∨ (0 ≤ n ∧ n < h.host) ∧ (0 ≤ c ∧ c ≤ 65535) ∧ r.1 = 0 ∧ r.2.1 = t.put now (h.jend + 2 * n).toNat (leB 2 c) ∧ r.2.2 ≤ 2
set_option maxHeartbeats 8000000 in
theorem cnset_c (t : TR) (j : JR) (s : DF) (h : HD) (n c : Int) (k : K) (h0 : RefOk t s h ∧ inR .i64 n ∧ inR .i64 c ∧ t.over = false) (hk : ∀ r : Int × TR × Nat, CSet t s.now h n c r → k (.v (.int .i64 r.1)) (rp6 r.2.1 j (s.tick r.2.2) h)) : evFunc tab [] p63 Go.Proofs.Try.f63 [.p 5 0 1 0, .v (.int .i64 n), .v (.int .i64 c)] (rp6 t j s h) k := by
  obtain ⟨⟨h1, h2, h3, h4, ⟨n0, n1, n2⟩, h6, h7, h8⟩, h9, hcr, hov⟩ := h0
  have s0 : s.tick 0 = s := by unfold DF.tick; simp
  have jb := h.jend_b
  have bad : ∀ e : Int, CSet t s.now h n c (e, t, 0) → k (.v (.int .i64 e)) (rp6 t j s h) := by
    intro e hb
    have := hk (e, t, 0) hb
    rw [show ((e, t, 0) : Int × TR × Nat).2.2 = 0 from rfl, s0] at this
    exact this
  repeat' (first
    | (with_reducible first | exact True.intro | apply And.intro | apply If_true | apply If_false | apply If_not)
    | ((with_reducible apply VC.mk); exact vt)
    | ((with_reducible apply If_dec) <;> intro hc <;> (try (exfalso; omega)))
    | ((with_reducible apply If_any) <;> intro hc)
    | ((with_reducible first | apply PF.mk | apply DrawP.mk); (focus kernel_rfl))
    | ((with_reducible apply Same.mk); (focus rfl); (first | exact trivial | exact rfl))
    | (intro cap hcap)
    | ((fail_if_success (with_reducible apply st)); conv => whnf))
  refine cnin_at t j s h n 0 1 2 3 4 5 ⟨h9, h3⟩ rfl rfl rfl rfl rfl rfl rfl ⟨rfl, rfl, trivial⟩ ?_
  intro r hr
  by_cases hin : 0 ≤ n ∧ n < h.host
  rotate_left
  · rw [if_neg hin] at hr
    subst hr
    repeat' (first
    | (with_reducible first | exact True.intro | apply And.intro | apply If_true | apply If_false | apply If_not)
    | ((with_reducible apply VC.mk); exact vt)
    | ((with_reducible apply If_dec) <;> intro hc <;> (try (exfalso; omega)))
    | ((with_reducible apply If_any) <;> intro hc)
    | ((with_reducible first | apply PF.mk | apply DrawP.mk); (focus kernel_rfl))
    | ((with_reducible apply Same.mk); (focus rfl); (first | exact trivial | exact rfl))
    | (intro cap hcap)
    | ((fail_if_success (with_reducible apply st)); conv => whnf))
    exact R6.fin rfl rfl rfl rfl rfl rfl (bad 4 (.inl ⟨hin, rfl⟩))
  rw [if_pos hin] at hr
  subst hr
  repeat' (first
    | (with_reducible first | exact True.intro | apply And.intro | apply If_true | apply If_false | apply If_not)
    | ((with_reducible apply VC.mk); exact vt)
    | ((with_reducible apply If_dec) <;> intro hc <;> (try (exfalso; omega)))
    | ((with_reducible apply If_any) <;> intro hc)
    | ((with_reducible first | apply PF.mk | apply DrawP.mk); (focus kernel_rfl))
    | ((with_reducible apply Same.mk); (focus rfl); (first | exact trivial | exact rfl))
    | (intro cap hcap)
    | ((fail_if_success (with_reducible apply st)); conv => whnf))
  · exact R6.fin rfl rfl rfl rfl rfl rfl (bad 20 (.inr (.inl ⟨hin, by omega, rfl⟩)))
  · exact R6.fin rfl rfl rfl rfl rfl rfl (bad 20 (.inr (.inl ⟨hin, by omega, rfl⟩)))
  have hcc : 0 ≤ c ∧ c ≤ 65535 := by omega
  refine Put16_at (List.replicate 2 0) 2 0 c 6 ⟨by decide, by decide, by decide⟩ rfl ⟨rfl, rfl, rfl, trivial⟩ ?_
  have eq : putB (List.replicate 2 0) (0 : Int).toNat 2 c = leB 2 c := by
    rw [putB_eq _ _ _ _ (by decide)]
    show [] ++ leB 2 c ++ [] = _
    simp
  rw [eq]
  obtain ⟨p, hp⟩ : ∃ p, p = leB 2 c := ⟨_, rfl⟩
  have hpl : p.length = 2 := by rw [hp]; exact leB_length ..
  rw [← hp]
  repeat' (first
    | (with_reducible first | exact True.intro | apply And.intro | apply If_true | apply If_false | apply If_not)
    | ((with_reducible apply VC.mk); exact vt)
    | ((with_reducible apply If_dec) <;> intro hc <;> (try (exfalso; omega)))
    | ((with_reducible apply If_any) <;> intro hc)
    | ((with_reducible first | apply PF.mk | apply DrawP.mk); (focus kernel_rfl))
    | ((with_reducible apply Same.mk); (focus rfl); (first | exact trivial | exact rfl))
    | (intro cap hcap)
    | ((fail_if_success (with_reducible apply st)); conv => whnf))
  refine hrat_at h h3 ⟨⟨rfl, rfl, rfl, rfl, rfl, trivial⟩, trivial⟩ ?_
  rintro ⟨ra, rb⟩ hr
  obtain ⟨rfl, rfl⟩ : ra = h.jend ∧ rb = h.rend := by cases hr; exact ⟨rfl, rfl⟩
  dsimp only
  repeat' (first
    | (with_reducible first | exact True.intro | apply And.intro | apply If_true | apply If_false | apply If_not)
    | ((with_reducible apply VC.mk); exact vt)
    | ((with_reducible apply If_dec) <;> intro hc <;> (try (exfalso; omega)))
    | ((with_reducible apply If_any) <;> intro hc)
    | ((with_reducible first | apply PF.mk | apply DrawP.mk); (focus kernel_rfl))
    | ((with_reducible apply Same.mk); (focus rfl); (first | exact trivial | exact rfl))
    | (intro cap hcap)
    | ((fail_if_success (with_reducible apply st)); conv => whnf))
  refine tput_at t j s (h.jend + 2 * n) p 0 1 2 3 4 ⟨h1, h2, ⟨by simp only [inR]; omega, by omega⟩, h6, h7, h8⟩ rfl rfl rfl rfl rfl rfl ⟨rfl, rfl, ?_, trivial⟩ ?_
  rotate_left
  · rintro ⟨e2, t2, m⟩ hr
    dsimp only at hr ⊢
    have hib : inB (h.jend + 2 * n) p.length := by unfold inB; omega
    rcases hr with ⟨e1, -⟩ | ⟨-, e1, -⟩ | ⟨-, -, e1, e3, e4⟩
    · rw [hov] at e1; cases e1
    · exact absurd hib e1
    have hk2 := hk (e2, t2, m) (.inr (.inr ⟨hin, hcc, e1, by rw [e3, hp], by rw [hpl] at e4; exact e4⟩))
    repeat' (first
    | (with_reducible first | exact True.intro | apply And.intro | apply If_true | apply If_false | apply If_not)
    | ((with_reducible apply VC.mk); exact vt)
    | ((with_reducible apply If_dec) <;> intro hc <;> (try (exfalso; omega)))
    | ((with_reducible apply If_any) <;> intro hc)
    | ((with_reducible first | apply PF.mk | apply DrawP.mk); (focus kernel_rfl))
    | ((with_reducible apply Same.mk); (focus rfl); (first | exact trivial | exact rfl))
    | (intro cap hcap)
    | ((fail_if_success (with_reducible apply st)); conv => whnf))
    exact R6.fin rfl rfl rfl rfl rfl rfl hk2
  · refine ⟨?_, rfl, hpl.symm, ?_, rfl, Nat.one_pos⟩
    · show 0 + Int.toNat 2 ≤ p.length; rw [hpl]; decide
    · simp only [Cont.low, Cont.ren, Int.toNat_zero, List.drop_zero, List.take_take, Nat.min_self]
      simp [Cont.same, List.take_of_length_le, hpl]
def cnsetOk (x : TR × JR × DF × HD × Int × Int) : Prop := RefOk x.1 x.2.2.1 x.2.2.2.1 ∧ inR .i64 x.2.2.2.2.1 ∧ inR .i64 x.2.2.2.2.2 ∧ x.1.over = false
def cnsetRel (x : TR × JR × DF × HD × Int × Int) (r : Int × TR × Nat) : Prop := CSet x.1 x.2.2.1.now x.2.2.2.1 x.2.2.2.2.1 x.2.2.2.2.2 r
theorem cnset_K : ConOk Go.Proofs.Try.prog 63 (Con.of (TR × JR × DF × HD × Int × Int) (Int × TR × Nat) (fun x => [.p 5 0 1 0, .v (.int .i64 x.2.2.2.2.1), .v (.int .i64 x.2.2.2.2.2)]) (fun x => rp6 x.1 x.2.1 x.2.2.1 x.2.2.2.1) cnsetOk cnsetRel (fun x r => .v (.int .i64 r.1)) (fun x r => rp6 (r.2.1) x.2.1 (x.2.2.1.tick r.2.2) x.2.2.2.1)) := by
  refine conOk_rel (T := tab) mix Go.Proofs.Try.func63 (by decide +kernel) (by kernel_rfl) [] p63 (fun n => by rw [Go.Proofs.Try.ntmps63]; exact Nat.le_of_ble_eq_true rfl) (fun x r _ _ => R6.good (by simp [AV.noF, noFs, Cont.noF, entsC_noF])) (fun x _ => R6.nd) ?_
  intro x k h0 hk
  exact cnset_c x.1 x.2.1 x.2.2.1 x.2.2.2.1 x.2.2.2.2.1 x.2.2.2.2.2 k h0 (fun r hr => hk r hr)
theorem cnset_at {avs : List AV} {H : List Chunk} {k : K} (t : TR) (j : JR) (s : DF) (h : HD) (n : Int) (c : Int) (ta tb tc td te tf : Nat) (h0 : RefOk t s h ∧ inR .i64 n ∧ inR .i64 c ∧ t.over = false) (hn : nodupN [ta, tb, tc, td, te, tf] = true) (ha0 : nth H ta = some (t.c0 td tb tc)) (hb0 : nth H tb = some t.c1) (hc0 : nth H tc = some t.c2) (hd0 : nth H td = some (j.blk te)) (he0 : nth H te = some s.pk) (hf0 : nth H tf = some (rfb h ta)) (ha : argsM H [ta, tb, tc, td, te, tf] [.p 5 0 1 0, .v (.int .i64 n), .v (.int .i64 c)] avs)
    (hQ : ∀ r : Int × TR × Nat, (CSet t s.now h n c r) → k (.v (.int .i64 r.1)) ((((((H.set ta (TR.c0 (r.2.1) td tb tc)).set tb (TR.c1 (r.2.1))).set tc (TR.c2 (r.2.1))).set td (j.blk te)).set te (DF.pk (s.tick r.2.2))).set tf (rfb h ta))) : CallP Go.Proofs.Try.prog 63 avs H k :=
  CallP.mk ⟨_, cnset_K.real, Con.spec cnset_K, (t, j, s, h, n, c), [ta, tb, tc, td, te, tf], ⟨h0, hn, ⟨ha0, hb0.trans (congrArg some (TR.c1_ren t _).symm), hc0, hd0, he0, hf0, trivial⟩, ha⟩, fun r hr => (numK_eq _ _).mpr (by simpa [rp6, putAll, TR.c0_ren, TR.c1_ren, TR.c2_ren, JR.blk_ren, DF.pk_ren, rfb_ren, AV.ren, rens, Cont.ren, entsC_ren, fren, nth] using hQ r hr)⟩
end Go.Proofs.Ytcfmlnddmpiemaa.Sx


set_option maxRecDepth 10000
namespace Go.Proofs.Ytcfmlnddmpiemaa.Sx
open Go.RowKit Go.Proofs.Ytcfmlnddmpiemaa.Sx.Tb
attribute [local simp] entsC_noF entsC_ren
/-! ### All and Alloc of the counts -/
def cntV (t : TR) (now : List Int) (h : HD) (i : Nat) : Int := leV (t.rd now (h.jend.toNat + 2 * i) 2)
def cntL (t : TR) (now : List Int) (h : HD) : List Int := (List.range h.host.toNat).map (cntV t now h)
set_option maxHeartbeats 8000000 in
theorem cnall_c (t : TR) (j : JR) (s : DF) (h : HD) (k : K) (h0 : RefOk t s h) (hk : ∀ r : List Int × Nat, r.1 = cntL t s.now h ∧ r.2 ≤ 16384 → k (.tup [.im true 1 r.1.length (.ints .i64 r.1), .v (.int .i64 0)]) (rp6 t j (s.tick r.2) h)) : evFunc tab [] p20 Go.Proofs.Try.f20 [.p 5 0 1 0] (rp6 t j s h) k := by
  obtain ⟨h1, h2, h3, h4, ⟨n0, n1, n2⟩, h6, h7, h8⟩ := h0
  have jb := h.jend_b
  repeat' (first
    | (with_reducible first | exact True.intro | apply And.intro | apply If_true | apply If_false | apply If_not)
    | ((with_reducible apply VC.mk); exact vt)
    | ((with_reducible apply If_dec) <;> intro hc <;> (try (exfalso; omega)))
    | ((with_reducible apply If_any) <;> intro hc)
    | ((with_reducible first | apply PF.mk | apply DrawP.mk); (focus kernel_rfl))
    | ((with_reducible apply Same.mk); (focus rfl); (first | exact trivial | exact rfl))
    | (intro cap hcap)
    | ((fail_if_success (with_reducible apply st)); conv => whnf))
  refine hrat_at h h3 ⟨⟨rfl, rfl, rfl, rfl, rfl, trivial⟩, trivial⟩ ?_
  rintro ⟨ra, rb⟩ hr
  obtain ⟨rfl, rfl⟩ : ra = h.jend ∧ rb = h.rend := by cases hr; exact ⟨rfl, rfl⟩
  dsimp only
  repeat' (first
    | (with_reducible first | exact True.intro | apply And.intro | apply If_true | apply If_false | apply If_not)
    | ((with_reducible apply VC.mk); exact vt)
    | ((with_reducible apply If_dec) <;> intro hc <;> (try (exfalso; omega)))
    | ((with_reducible apply If_any) <;> intro hc)
    | ((with_reducible first | apply PF.mk | apply DrawP.mk); (focus kernel_rfl))
    | ((with_reducible apply Same.mk); (focus rfl); (first | exact trivial | exact rfl))
    | (intro cap hcap)
    | ((fail_if_success (with_reducible apply st)); conv => whnf))
  refine tget_at t j s h.jend (2 * h.host) 0 1 2 3 4 ⟨h1, h2, ⟨by simp only [inR]; omega, by simp only [inR]; omega⟩, h6, h7, h8⟩ rfl rfl rfl rfl rfl rfl ⟨rfl, rfl, rfl, trivial⟩ ?_
  rintro ⟨b, e, m⟩ hr
  dsimp only at hr ⊢
  have hib : inB h.jend (2 * h.host) := by unfold inB; omega
  rcases hr with ⟨-, e1, e2, e3⟩ | ⟨e1, -⟩
  rotate_left
  · exact absurd hib e1
  have hbl : b.length = (2 * h.host).toNat := by rw [e2, TR.rd_length]
  have hB : B8 b := by rw [e2]; exact h4.rd _ _
  subst e1
  obtain ⟨N, hN⟩ : ∃ N, N = h.host.toNat := ⟨_, rfl⟩
  have hNi : h.host = (N : Int) := by omega
  have hNl : (cntL t s.now h).length = N := by unfold cntL; rw [List.length_map, List.length_range, ← hN]
  have cnt : ∀ i, i < N → leV ((b.drop (2 * i)).take 2) = cntV t s.now h i := by
    intro i hi
    unfold cntV
    refine congrArg leV (ext_getD (by rw [List.length_take, List.length_drop, TR.rd_length]; omega) (fun q hq => ?_))
    rw [List.length_take, List.length_drop] at hq
    rw [TR.rd_get _ _ _ _ _ (by omega), List.getD_eq_getElem?_getD, List.getElem?_take, if_pos (by omega), List.getElem?_drop, ← List.getD_eq_getElem?_getD, e2, TR.rd_get _ _ _ _ _ (by omega), show h.jend.toNat + (2 * i + q) = h.jend.toNat + 2 * i + q by omega]
  have vb : ∀ i, 0 ≤ leV ((b.drop (2 * i)).take 2) ∧ leV ((b.drop (2 * i)).take 2) < 65536 := by
    intro i
    have := leV_bound (l := b.drop (2 * i)) (fun x hx => hB x (List.mem_of_mem_drop hx)) 2
    exact ⟨this.1, by have := this.2; simpa using this⟩
  repeat' (first
    | (with_reducible first | exact True.intro | apply And.intro | apply If_true | apply If_false | apply If_not)
    | ((with_reducible apply VC.mk); exact vt)
    | ((with_reducible apply If_dec) <;> intro hc <;> (try (exfalso; omega)))
    | ((with_reducible apply If_any) <;> intro hc)
    | ((with_reducible first | apply PF.mk | apply DrawP.mk); (focus kernel_rfl))
    | ((with_reducible apply Same.mk); (focus rfl); (first | exact trivial | exact rfl))
    | (intro cap hcap)
    | ((fail_if_success (with_reducible apply st)); conv => whnf))
  rw [← hN]
  refine LoopP.mk ⟨Nat × List Int, fun y => y.1 ≤ N ∧ y.2.length = N ∧ ∀ i, i < y.1 → y.2.getD i 0 = cntV t s.now h i, fun y => ([(4, .im true 1 b.length (.ints .u8 b)), (6, .s 6 0 1 N N), (42, .v (.int .i64 (N : Int))), (43, .v (.int .i64 (y.1 : Int)))], rp6 t j (s.tick m) h ++ [.blk 3 (.ints .i64 y.2) N]), fun y => N - y.1, (0, List.replicate N 0), ⟨Nat.zero_le _, List.length_replicate .., fun i hi => absurd hi (Nat.not_lt_zero i)⟩, Fit.ren [0, 1, 2, 3, 4, 5, 6] [] rfl rfl trivial ?_ ?_, ?_⟩
  · exact R6.le rfl rfl rfl rfl rfl rfl rfl rfl rfl rfl rfl ⟨⟨VC.mk ⟨rfl, Nat.mul_one _⟩, VC.mk ⟨rfl, List.prefix_refl _⟩⟩, trivial⟩
  · repeat' (first
    | (with_reducible first | exact True.intro | apply And.intro | apply If_true | apply If_false | apply If_not)
    | ((with_reducible apply VC.mk); exact vt)
    | ((with_reducible apply If_dec) <;> intro hc <;> (try (exfalso; omega)))
    | ((with_reducible apply If_any) <;> intro hc)
    | ((with_reducible first | apply PF.mk | apply DrawP.mk); (focus kernel_rfl))
    | ((with_reducible apply Same.mk); (focus rfl); (first | exact trivial | exact rfl))
    | (intro cap hcap)
    | ((fail_if_success (with_reducible apply st)); conv => whnf))
  · intro y hy
    obtain ⟨g1, g2, g3⟩ := hy
    have ey : ((y.1 : Nat) : Int).toNat = y.1 := Int.toNat_natCast _
    have ey2 : (2 * (y.1 : Int)).toNat = 2 * y.1 := by omega
    repeat' (first
    | (with_reducible first | exact True.intro | apply And.intro | apply If_true | apply If_false | apply If_not)
    | ((with_reducible apply VC.mk); exact vt)
    | ((with_reducible apply If_dec) <;> intro hc <;> (try (exfalso; omega)))
    | ((with_reducible apply If_any) <;> intro hc)
    | ((with_reducible first | apply PF.mk | apply DrawP.mk); (focus kernel_rfl))
    | ((with_reducible apply Same.mk); (focus rfl); (first | exact trivial | exact rfl))
    | (intro cap hcap)
    | ((fail_if_success (with_reducible apply st)); conv => whnf))
    · refine U16_at b (2 * (y.1 : Int)) ⟨by omega, hB, by omega⟩ ⟨⟨rfl, rfl, rfl⟩, rfl, trivial⟩ ?_
      rintro v bb (⟨-, -, rfl, rfl⟩ | ⟨hn, -⟩)
      rotate_left
      · exact absurd ⟨by omega, by omega⟩ hn
      rw [ey2]
      have vy := vb y.1
      repeat' (first
    | (with_reducible first | exact True.intro | apply And.intro | apply If_true | apply If_false | apply If_not)
    | ((with_reducible apply VC.mk); exact vt)
    | ((with_reducible apply If_dec) <;> intro hc <;> (try (exfalso; omega)))
    | ((with_reducible apply If_any) <;> intro hc)
    | ((with_reducible first | apply PF.mk | apply DrawP.mk); (focus kernel_rfl))
    | ((with_reducible apply Same.mk); (focus rfl); (first | exact trivial | exact rfl))
    | (intro cap hcap)
    | ((fail_if_success (with_reducible apply st)); conv => whnf))
      refine Round.mk ⟨(y.1 + 1, y.2.set y.1 (cntV t s.now h y.1)), ⟨by show y.1 + 1 ≤ N; omega, by show (y.2.set _ _).length = N; rw [List.length_set]; exact g2, ?_⟩, by show N - (y.1 + 1) < N - y.1; omega, Fit.ren [0, 1, 2, 3, 4, 5, 6] [] rfl rfl trivial (R6.le rfl rfl rfl rfl rfl rfl rfl rfl rfl rfl rfl ?_) ?_⟩
      · intro i hi
        have hi : i < y.1 + 1 := hi
        show (y.2.set y.1 _).getD i 0 = _
        by_cases hiy : i = y.1
        · subst hiy
          rw [List.getD_eq_getElem?_getD, List.getElem?_set_self (by omega)]; rfl
        · rw [List.getD_eq_getElem?_getD, List.getElem?_set_ne (fun e => hiy e.symm), ← List.getD_eq_getElem?_getD]
          exact g3 i (by omega)
      · refine ⟨⟨VC.mk ⟨rfl, rfl⟩, VC.mk ⟨rfl, ?_⟩⟩, trivial⟩
        rw [← cnt y.1 (by omega)]
        simp [ey]
      · repeat' (first
    | (with_reducible first | exact True.intro | apply And.intro | apply If_true | apply If_false | apply If_not)
    | ((with_reducible apply VC.mk); exact vt)
    | ((with_reducible apply If_dec) <;> intro hc <;> (try (exfalso; omega)))
    | ((with_reducible apply If_any) <;> intro hc)
    | ((with_reducible first | apply PF.mk | apply DrawP.mk); (focus kernel_rfl))
    | ((with_reducible apply Same.mk); (focus rfl); (first | exact trivial | exact rfl))
    | (intro cap hcap)
    | ((fail_if_success (with_reducible apply st)); conv => whnf))
    · have hy2 : y.2 = cntL t s.now h := by
        refine ext_getD (by rw [g2, hNl]) (fun i hi => ?_)
        rw [g3 i (by omega)]
        unfold cntL
        rw [List.getD_eq_getElem?_getD, List.getElem?_map, List.getElem?_range (by omega)]; rfl
      have hk2 := hk (cntL t s.now h, m) ⟨rfl, by show m ≤ 16384; omega⟩
      dsimp only at hk2
      rw [hNl] at hk2
      rw [hy2]
      refine Fin.ren [0, 1, 2, 3, 4, 5] [6] (.tup [.im true 1 N (.ints .i64 (cntL t s.now h)), .v (.int .i64 0)]) (rp6 t j (s.tick m) h) rfl rfl ⟨trivial, trivial⟩ ?_ ⟨⟨VC.mk ⟨?_, rfl, rfl, rfl, by decide⟩, ?_⟩, VC.mk rfl, trivial⟩ hk2
      · exact T5.leG rfl rfl rfl rfl rfl rfl rfl rfl rfl ⟨rfl, rfl, rfl, rfl, rfl⟩ (cs := [rfb h 0]) ⟨rfb_le rfl rfl rfl, trivial⟩
      · show 0 + N ≤ _
        rw [hNl]; omega
      · refine VC.mk ⟨rfl, ?_⟩
        simp [List.take_of_length_le, hNl]
def cnallOk (x : TR × JR × DF × HD) : Prop := RefOk x.1 x.2.2.1 x.2.2.2
def cnallRel (x : TR × JR × DF × HD) (r : List Int × Nat) : Prop := r.1 = cntL x.1 x.2.2.1.now x.2.2.2 ∧ r.2 ≤ 16384
theorem cnall_K : ConOk Go.Proofs.Try.prog 20 (Con.of (TR × JR × DF × HD) (List Int × Nat) (fun x => [.p 5 0 1 0]) (fun x => rp6 x.1 x.2.1 x.2.2.1 x.2.2.2) cnallOk cnallRel (fun x r => .tup [.im true 1 r.1.length (.ints .i64 r.1), .v (.int .i64 0)]) (fun x r => rp6 (x.1) x.2.1 (x.2.2.1.tick r.2) x.2.2.2)) := by
  refine conOk_rel (T := tab) mix Go.Proofs.Try.func20 (by decide +kernel) (by kernel_rfl) [] p20 (fun n => by rw [Go.Proofs.Try.ntmps20]; exact Nat.le_of_ble_eq_true rfl) (fun x r _ _ => R6.good (by simp [AV.noF, noFs, Cont.noF, entsC_noF])) (fun x _ => R6.nd) ?_
  intro x k h0 hk
  exact cnall_c x.1 x.2.1 x.2.2.1 x.2.2.2 k h0 (fun r hr => hk r hr)
theorem cnall_at {avs : List AV} {H : List Chunk} {k : K} (t : TR) (j : JR) (s : DF) (h : HD) (ta tb tc td te tf : Nat) (h0 : RefOk t s h) (hn : nodupN [ta, tb, tc, td, te, tf] = true) (ha0 : nth H ta = some (t.c0 td tb tc)) (hb0 : nth H tb = some t.c1) (hc0 : nth H tc = some t.c2) (hd0 : nth H td = some (j.blk te)) (he0 : nth H te = some s.pk) (hf0 : nth H tf = some (rfb h ta)) (ha : argsM H [ta, tb, tc, td, te, tf] [.p 5 0 1 0] avs)
    (hQ : ∀ r : List Int × Nat, (r.1 = cntL t s.now h ∧ r.2 ≤ 16384) → k (.tup [.im true 1 r.1.length (.ints .i64 r.1), .v (.int .i64 0)]) ((((((H.set ta (TR.c0 (t) td tb tc)).set tb (TR.c1 (t))).set tc (TR.c2 (t))).set td (j.blk te)).set te (DF.pk (s.tick r.2))).set tf (rfb h ta))) : CallP Go.Proofs.Try.prog 20 avs H k :=
  CallP.mk ⟨_, cnall_K.real, Con.spec cnall_K, (t, j, s, h), [ta, tb, tc, td, te, tf], ⟨h0, hn, ⟨ha0, hb0.trans (congrArg some (TR.c1_ren t _).symm), hc0, hd0, he0, hf0, trivial⟩, ha⟩, fun r hr => (numK_eq _ _).mpr (by simpa [rp6, putAll, TR.c0_ren, TR.c1_ren, TR.c2_ren, JR.blk_ren, DF.pk_ren, rfb_ren, AV.ren, rens, Cont.ren, entsC_ren, fren, nth] using hQ r hr)⟩
end Go.Proofs.Ytcfmlnddmpiemaa.Sx


set_option maxRecDepth 10000
namespace Go.Proofs.Ytcfmlnddmpiemaa.Sx
open Go.RowKit Go.Proofs.Ytcfmlnddmpiemaa.Sx.Tb
attribute [local simp] entsC_noF entsC_ren
def AlocR (t : TR) (now : List Int) (h : HD) (r : Int × Int × TR × Nat) : Prop :=
  ((∃ i : Nat, h.first ≤ (i : Int) ∧ (i : Int) < h.host ∧ cntV t now h i = 0 ∧ (∀ q : Nat, h.first ≤ (q : Int) → q < i → cntV t now h q ≠ 0) ∧ r.1 = i ∧ r.2.1 = 0 ∧ r.2.2.1 = t.put now (h.jend + 2 * (i : Int)).toNat (leB 2 1)) ∨ ((∀ q : Nat, h.first ≤ (q : Int) → (q : Int) < h.host → cntV t now h q ≠ 0) ∧ r.1 = 0 ∧ r.2.1 = 15 ∧ r.2.2.1 = t)) ∧ r.2.2.2 ≤ 16386
theorem tick_tick (s : DF) (a b : Nat) : (s.tick a).tick b = s.tick (a + b) := by unfold DF.tick; simp [Int.add_assoc]
set_option maxHeartbeats 8000000 in
theorem cnaloc_c (t : TR) (j : JR) (s : DF) (h : HD) (k : K) (h0 : RefOk t s h ∧ t.over = false ∧ s.ops ≤ 137438953472 ∧ 0 ≤ h.first ∧ h.first ≤ 1099511627776) (hk : ∀ r : Int × Int × TR × Nat, AlocR t s.now h r → k (.tup [.v (.int .i64 r.1), .v (.int .i64 r.2.1)]) (rp6 r.2.2.1 j (s.tick r.2.2.2) h)) : evFunc tab [] [] Go.Proofs.Try.f15 [.p 5 0 1 0] (rp6 t j s h) k := by
  obtain ⟨hR, hov, hop, f0, f1⟩ := h0
  obtain ⟨h1, h2, h3, h4, ⟨n0, n1, n2⟩, h6, h7, h8⟩ := hR
  have hR : RefOk t s h := ⟨h1, h2, h3, h4, ⟨n0, n1, n2⟩, h6, h7, h8⟩
  repeat' (first
    | (with_reducible first | exact True.intro | apply And.intro | apply If_true | apply If_false | apply If_not)
    | ((with_reducible apply VC.mk); exact vt)
    | ((with_reducible apply If_dec) <;> intro hc <;> (try (exfalso; omega)))
    | ((with_reducible apply If_any) <;> intro hc)
    | ((with_reducible first | apply PF.mk | apply DrawP.mk); (focus kernel_rfl))
    | ((with_reducible apply Same.mk); (focus rfl); (first | exact trivial | exact rfl))
    | (intro cap hcap)
    | ((fail_if_success (with_reducible apply st)); conv => whnf))
  refine cnall_at t j s h 0 1 2 3 4 5 hR rfl rfl rfl rfl rfl rfl rfl ⟨rfl, trivial⟩ ?_
  rintro ⟨l, m⟩ ⟨q1, q2⟩
  have q1 : l = cntL t s.now h := q1
  dsimp only at q2 ⊢
  have hll : l.length = h.host.toNat := by rw [q1]; unfold cntL; rw [List.length_map, List.length_range]
  have hlv : ∀ i, i < l.length → l.getD i 0 = cntV t s.now h i := by
    intro i hi
    rw [q1]; unfold cntL
    rw [List.getD_eq_getElem?_getD, List.getElem?_map, List.getElem?_range (by omega)]; rfl
  have hR2 : RefOk t (s.tick m) h := ⟨h1, h2, h3, h4, ⟨n0, n1, n2⟩, by show 0 ≤ s.ops + (m : Int); omega, by show s.ops + (m : Int) ≤ _; omega, h8⟩
  repeat' (first
    | (with_reducible first | exact True.intro | apply And.intro | apply If_true | apply If_false | apply If_not)
    | ((with_reducible apply VC.mk); exact vt)
    | ((with_reducible apply If_dec) <;> intro hc <;> (try (exfalso; omega)))
    | ((with_reducible apply If_any) <;> intro hc)
    | ((with_reducible first | apply PF.mk | apply DrawP.mk); (focus kernel_rfl))
    | ((with_reducible apply Same.mk); (focus rfl); (first | exact trivial | exact rfl))
    | (intro cap hcap)
    | ((fail_if_success (with_reducible apply st)); conv => whnf))
  refine hfirst_at h h3 ⟨⟨rfl, rfl, rfl, rfl, rfl, trivial⟩, trivial⟩ ?_
  rintro _ rfl
  repeat' (first
    | (with_reducible first | exact True.intro | apply And.intro | apply If_true | apply If_false | apply If_not)
    | ((with_reducible apply VC.mk); exact vt)
    | ((with_reducible apply If_dec) <;> intro hc <;> (try (exfalso; omega)))
    | ((with_reducible apply If_any) <;> intro hc)
    | ((with_reducible first | apply PF.mk | apply DrawP.mk); (focus kernel_rfl))
    | ((with_reducible apply Same.mk); (focus rfl); (first | exact trivial | exact rfl))
    | (intro cap hcap)
    | ((fail_if_success (with_reducible apply st)); conv => whnf))
  obtain ⟨F, hF⟩ : ∃ F : Nat, h.first = F := ⟨h.first.toNat, by omega⟩
  rw [hF]
  refine LoopP.mk ⟨Nat, fun y => F ≤ y ∧ ((y : Int) ≤ h.host ∨ y = F) ∧ ∀ q : Nat, F ≤ q → q < y → cntV t s.now h q ≠ 0, fun y => ([(0, .p 5 0 1 0), (4, .im true 1 l.length (.ints .i64 l)), (6, .v (.int .i64 (y : Int)))], rp6 t j (s.tick m) h), fun y => h.host.toNat - y, F, ⟨Nat.le_refl _, .inr rfl, fun q a b => absurd b (by omega)⟩, Fit.ren [0, 1, 2, 3, 4, 5] [] rfl rfl trivial ?_ ?_, ?_⟩
  · exact R6.le rfl rfl rfl rfl rfl rfl rfl rfl rfl rfl rfl (cs := []) trivial
  · repeat' (first
    | (with_reducible first | exact True.intro | apply And.intro | apply If_true | apply If_false | apply If_not)
    | ((with_reducible apply VC.mk); exact vt)
    | ((with_reducible apply If_dec) <;> intro hc <;> (try (exfalso; omega)))
    | ((with_reducible apply If_any) <;> intro hc)
    | ((with_reducible first | apply PF.mk | apply DrawP.mk); (focus kernel_rfl))
    | ((with_reducible apply Same.mk); (focus rfl); (first | exact trivial | exact rfl))
    | (intro cap hcap)
    | ((fail_if_success (with_reducible apply st)); conv => whnf))
  · intro y hy
    obtain ⟨g1, g2, g3⟩ := hy
    have ey : ((y : Nat) : Int).toNat = y := Int.toNat_natCast _
    repeat' (first
    | (with_reducible first | exact True.intro | apply And.intro | apply If_true | apply If_false | apply If_not)
    | ((with_reducible apply VC.mk); exact vt)
    | ((with_reducible apply If_dec) <;> intro hc <;> (try (exfalso; omega)))
    | ((with_reducible apply If_any) <;> intro hc)
    | ((with_reducible first | apply PF.mk | apply DrawP.mk); (focus kernel_rfl))
    | ((with_reducible apply Same.mk); (focus rfl); (first | exact trivial | exact rfl))
    | (intro cap hcap)
    | ((fail_if_success (with_reducible apply st)); conv => whnf))
    · have hyl : y < l.length := by omega
      have hz : cntV t s.now h y = 0 := by rw [← hlv y hyl, ← ey]; rw [ey]; rw [ey] at hc; exact hc
      refine cnset_at t j (s.tick m) h (y : Int) 1 0 1 2 3 4 5 ⟨hR2, by simp only [inR]; omega, by simp [inR], hov⟩ rfl rfl rfl rfl rfl rfl rfl ⟨rfl, rfl, rfl, trivial⟩ ?_
      rintro ⟨e2, t2, m2⟩ hs
      dsimp only
      rcases hs with ⟨s1, -⟩ | ⟨-, s1, -⟩ | ⟨-, -, s1, s2, s3⟩
      · exact absurd ⟨by omega, by omega⟩ s1
      · exact absurd ⟨by decide, by decide⟩ s1
      have s1 : e2 = 0 := s1
      have s2 : t2 = t.put s.now (h.jend + 2 * (y : Int)).toNat (leB 2 1) := s2
      have s3 : m2 ≤ 2 := s3
      have hk2 := hk ((y : Int), e2, t2, m + m2) ⟨.inl ⟨y, by rw [hF]; omega, by omega, hz, fun q a b => g3 q (by omega) b, rfl, s1, s2⟩, by show m + m2 ≤ 16386; omega⟩
      rw [tick_tick]
      repeat' (first
    | (with_reducible first | exact True.intro | apply And.intro | apply If_true | apply If_false | apply If_not)
    | ((with_reducible apply VC.mk); exact vt)
    | ((with_reducible apply If_dec) <;> intro hc <;> (try (exfalso; omega)))
    | ((with_reducible apply If_any) <;> intro hc)
    | ((with_reducible first | apply PF.mk | apply DrawP.mk); (focus kernel_rfl))
    | ((with_reducible apply Same.mk); (focus rfl); (first | exact trivial | exact rfl))
    | (intro cap hcap)
    | ((fail_if_success (with_reducible apply st)); conv => whnf))
      exact R6.fin rfl rfl rfl rfl rfl rfl hk2
    · refine Round.mk ⟨y + 1, ⟨by omega, .inl (by omega), fun q a b => ?_⟩, by show h.host.toNat - (y + 1) < h.host.toNat - y; omega, Fit.ren [0, 1, 2, 3, 4, 5] [] rfl rfl trivial (R6.le rfl rfl rfl rfl rfl rfl rfl rfl rfl rfl rfl (cs := []) trivial) ?_⟩
      · by_cases hq : q < y
        · exact g3 q a hq
        · have hqy : q = y := by omega
          subst hqy
          rw [← hlv q (by omega)]
          rw [ey] at hc
          exact hc
      · repeat' (first
    | (with_reducible first | exact True.intro | apply And.intro | apply If_true | apply If_false | apply If_not)
    | ((with_reducible apply VC.mk); exact vt)
    | ((with_reducible apply If_dec) <;> intro hc <;> (try (exfalso; omega)))
    | ((with_reducible apply If_any) <;> intro hc)
    | ((with_reducible first | apply PF.mk | apply DrawP.mk); (focus kernel_rfl))
    | ((with_reducible apply Same.mk); (focus rfl); (first | exact trivial | exact rfl))
    | (intro cap hcap)
    | ((fail_if_success (with_reducible apply st)); conv => whnf))
    · have hk2 := hk (0, 15, t, m) ⟨.inr ⟨fun q a b => g3 q (by omega) (by omega), rfl, rfl, rfl⟩, by show m ≤ 16386; omega⟩
      exact R6.fin rfl rfl rfl rfl rfl rfl hk2
def cnalocOk (x : TR × JR × DF × HD) : Prop := RefOk x.1 x.2.2.1 x.2.2.2 ∧ x.1.over = false ∧ x.2.2.1.ops ≤ 137438953472 ∧ 0 ≤ x.2.2.2.first ∧ x.2.2.2.first ≤ 1099511627776
def cnalocRel (x : TR × JR × DF × HD) (r : Int × Int × TR × Nat) : Prop := AlocR x.1 x.2.2.1.now x.2.2.2 r
theorem cnaloc_K : ConOk Go.Proofs.Try.prog 15 (Con.of (TR × JR × DF × HD) (Int × Int × TR × Nat) (fun x => [.p 5 0 1 0]) (fun x => rp6 x.1 x.2.1 x.2.2.1 x.2.2.2) cnalocOk cnalocRel (fun x r => .tup [.v (.int .i64 r.1), .v (.int .i64 r.2.1)]) (fun x r => rp6 (r.2.2.1) x.2.1 (x.2.2.1.tick r.2.2.2) x.2.2.2)) := by
  refine conOk_rel (T := tab) mix Go.Proofs.Try.func15 (by decide +kernel) (by kernel_rfl) [] [] (fun n => by rw [Go.Proofs.Try.ntmps15]; exact Nat.le_of_ble_eq_true rfl) (fun x r _ _ => R6.good (by simp [AV.noF, noFs, Cont.noF, entsC_noF])) (fun x _ => R6.nd) ?_
  intro x k h0 hk
  exact cnaloc_c x.1 x.2.1 x.2.2.1 x.2.2.2 k h0 (fun r hr => hk r hr)
theorem cnaloc_at {avs : List AV} {H : List Chunk} {k : K} (t : TR) (j : JR) (s : DF) (h : HD) (ta tb tc td te tf : Nat) (h0 : RefOk t s h ∧ t.over = false ∧ s.ops ≤ 137438953472 ∧ 0 ≤ h.first ∧ h.first ≤ 1099511627776) (hn : nodupN [ta, tb, tc, td, te, tf] = true) (ha0 : nth H ta = some (t.c0 td tb tc)) (hb0 : nth H tb = some t.c1) (hc0 : nth H tc = some t.c2) (hd0 : nth H td = some (j.blk te)) (he0 : nth H te = some s.pk) (hf0 : nth H tf = some (rfb h ta)) (ha : argsM H [ta, tb, tc, td, te, tf] [.p 5 0 1 0] avs)
    (hQ : ∀ r : Int × Int × TR × Nat, (AlocR t s.now h r) → k (.tup [.v (.int .i64 r.1), .v (.int .i64 r.2.1)]) ((((((H.set ta (TR.c0 (r.2.2.1) td tb tc)).set tb (TR.c1 (r.2.2.1))).set tc (TR.c2 (r.2.2.1))).set td (j.blk te)).set te (DF.pk (s.tick r.2.2.2))).set tf (rfb h ta))) : CallP Go.Proofs.Try.prog 15 avs H k :=
  CallP.mk ⟨_, cnaloc_K.real, Con.spec cnaloc_K, (t, j, s, h), [ta, tb, tc, td, te, tf], ⟨h0, hn, ⟨ha0, hb0.trans (congrArg some (TR.c1_ren t _).symm), hc0, hd0, he0, hf0, trivial⟩, ha⟩, fun r hr => (numK_eq _ _).mpr (by simpa [rp6, putAll, TR.c0_ren, TR.c1_ren, TR.c2_ren, JR.blk_ren, DF.pk_ren, rfb_ren, AV.ren, rens, Cont.ren, entsC_ren, fren, nth] using hQ r hr)⟩
end Go.Proofs.Ytcfmlnddmpiemaa.Sx


set_option maxRecDepth 10000
namespace Go.Proofs.Ytcfmlnddmpiemaa.Sx
open Go.RowKit Go.Proofs.Ytcfmlnddmpiemaa.Sx.Tb
attribute [local simp] entsC_noF entsC_ren
/-! ### counted -/
theorem cnt_put {t : TR} (ht : t.Ok) (now : List Int) {h : HD} (hj : 0 ≤ h.jend) (i q : Nat) (c : Int) (hc : 0 ≤ c ∧ c ≤ 65535) : cntV (t.put now (h.jend + 2 * (i : Int)).toNat (leB 2 c)) now h q = if q = i then c else cntV t now h q := by
  have e : (h.jend + 2 * (i : Int)).toNat = h.jend.toNat + 2 * i := by omega
  rw [e]
  unfold cntV
  by_cases hq : q = i
  · subst hq
    rw [if_pos rfl]
    have := put_rd ht now (h.jend.toNat + 2 * q) (leB 2 c)
    rw [leB_length] at this
    rw [this, leV_leB 2 c hc.1 (by have := hc.2; simp; omega)]
  · rw [if_neg hq]
    refine congrArg leV (rd_congr (fun b hb => ?_))
    rw [(put_V ht now _ _).2.2.2.2, leB_length, if_neg (by omega)]
theorem RZ.cnt {z : List Int} (hz : RZ 33 z) {h : HD} (hj : h.jend = 15360) (q : Nat) : cntV TR.zero z h q = if q < 33 then 1 else 0 := by
  unfold cntV
  have e : TR.zero.rd z (h.jend.toNat + 2 * q) 2 = [oneAt 33 (15360 + 2 * q), oneAt 33 (15360 + 2 * q + 1)] := by
    unfold TR.rd
    rw [hj]
    show [TR.zero.V z (15360 + 2 * q + 0), TR.zero.V z (15360 + 2 * q + 1)] = _
    rw [zero_V, zero_V, hz.2, hz.2, Nat.add_zero]
  rw [e]
  have e2 : oneAt 33 (15360 + 2 * q + 1) = 0 := by unfold oneAt; rw [if_neg (by omega)]
  have e1 : oneAt 33 (15360 + 2 * q) = if q < 33 then 1 else 0 := by
    unfold oneAt
    by_cases hq : q < 33
    · rw [if_pos (by omega), if_pos hq]
    · rw [if_neg (by omega), if_neg hq]
  rw [e1, e2]
  split <;> decide
theorem RZ.refOk {z : List Int} (hz : RZ 33 z) {H : Int} (h : 40 ≤ H ∧ H ≤ 99) : RefOk TR.zero (DF.mk0 z) (HD.r H) := by
  obtain ⟨vc, vr, vj, ve, vf⟩ := HD.r_vals h
  refine ⟨⟨fun x hx => absurd hx List.not_mem_nil, fun x hx => absurd hx List.not_mem_nil, Nat.le_refl _, Nat.zero_le _⟩, ⟨rfl, rfl⟩, ⟨by simp [HD.r, inR], by simp [HD.r, inR], ?_, by simp [HD.r, inR]⟩, ?_, ⟨?_, ?_, ?_⟩, Int.le_refl _, by show (0 : Int) ≤ _; decide, ?_⟩
  · show inR .i64 H
    simp only [inR]; omega
  · intro i
    show 0 ≤ TR.zero.V z i ∧ TR.zero.V z i < 256
    rw [zero_V, hz.2]; unfold oneAt; split <;> decide
  · show 0 ≤ H; omega
  · show H ≤ 8192; omega
  · rw [vj]; show 15360 + 2 * H ≤ 4194304; omega
  · show z.length ≤ 4194304
    rw [hz.1]; decide
theorem RefOk.next {t t' : TR} {s : DF} {h : HD} (hr : RefOk t s h) (ho : t'.Ok) (hb : t'.B s.now) (m : Nat) (hm : s.ops + (m : Int) ≤ 274877906944) : RefOk t' (s.tick m) h := by
  obtain ⟨h1, h2, h3, h4, h5, h6, h7, h8⟩ := hr
  exact ⟨ho, h2, h3, hb, h5, by show 0 ≤ s.ops + (m : Int); omega, hm, h8⟩
/-! ### The law RefsNils -/
end Go.Proofs.Ytcfmlnddmpiemaa.Sx


set_option maxRecDepth 10000
namespace Go.Proofs.Ytcfmlnddmpiemaa.Sx
/-! ### Counts that are changed, plain -/
theorem wr1_keys (t : TR) (now : List Int) (a : Nat) (xs : List Int) : ∀ k ∈ (t.wr1 now a xs).dirty.map (fun x => x.1), k ∈ t.dirty.map (fun x => x.1) ∨ k = ((a / 512 : Nat) : Int) := by
  intro k hk
  have hk : k ∈ (upS ((a / 512 : Nat) : Int) (putG (t.sec now ((a / 512 : Nat) : Int)) (a % 512) xs) t.dirty).map (fun x => x.1) := hk
  rw [upS_keys] at hk
  split at hk
  · exact .inl hk
  · rcases List.mem_append.1 hk with hk | hk
    · exact .inl hk
    · exact .inr (List.mem_singleton.1 hk)
theorem putF_keys : ∀ (f : Nat) (t : TR) (now : List Int) (a : Nat) (p : List Int), ∀ k : Int, k ∈ (TR.putF f t now a p).dirty.map (fun x => x.1) → k ∈ t.dirty.map (fun x => x.1) ∨ ∃ m : Nat, k = (m : Int) ∧ a < 512 * m + 512 ∧ 512 * m < a + p.length
  | 0, t, now, a, p => fun k hk => .inl hk
  | f + 1, t, now, a, p => by
    intro k hk
    by_cases h0 : p.length = 0
    · rw [putF_nil _ _ _ _ _ h0] at hk; exact .inl hk
    · have e : TR.putF (f + 1) t now a p = TR.putF f (t.wr1 now a (p.take (min p.length (512 - a % 512)))) now (a + min p.length (512 - a % 512)) (p.drop (min p.length (512 - a % 512))) := by
        show (if _ then _ else _) = _; rw [if_neg h0]
      rw [e] at hk
      generalize hd : min p.length (512 - a % 512) = d at hk
      rcases putF_keys f _ _ _ _ k hk with hk | ⟨m, h1, h2, h3⟩
      · rcases wr1_keys _ _ _ _ k hk with hk | hk
        · exact .inl hk
        · exact .inr ⟨a / 512, hk, by omega, by omega⟩
      · rw [List.length_drop] at h3
        exact .inr ⟨m, h1, by omega, by omega⟩
theorem put_keys (t : TR) (now : List Int) (a : Nat) (p : List Int) : ∀ k : Int, k ∈ (t.put now a p).dirty.map (fun x => x.1) → k ∈ t.dirty.map (fun x => x.1) ∨ ∃ m : Nat, k = (m : Int) ∧ a < 512 * m + 512 ∧ 512 * m < a + p.length := putF_keys _ t now a p
abbrev jR : JR := ⟨512, 14848, 0⟩
theorem jR_ok : jR.Ok := by unfold JR.Ok jR; simp
theorem jR_al : jR.al := ⟨by decide, by decide⟩
/-- A tx in which only counts were changed. -/
structure Cnts (t : TR) (z : List Int) (h : HD) (m : List Int) : Prop where
  ok : t.Ok
  over : t.over = false
  fresh : t.fresh = []
  inn : t.In jR
  b : t.B z
  len : m.length = h.host.toNat
  cnt : ∀ q, q < m.length → cntV t z h q = m.getD q 0
  oth : ∀ i, ¬ (15360 ≤ i ∧ i < 15360 + 2 * m.length) → t.V z i = z.getD i 0
  keys : ∀ k ∈ t.dirty.map (fun x => x.1), k = 30
theorem Cnts.put {t : TR} {z : List Int} {h : HD} {m : List Int} (hC : Cnts t z h m) (hj : h.jend = 15360) (hl : m.length ≤ 99) {i : Nat} (hi : i < m.length) {c : Int} (hc : 0 ≤ c ∧ c ≤ 65535) : Cnts (t.put z (h.jend + 2 * (i : Int)).toNat (leB 2 c)) z h (m.set i c) := by
  have p1 := put_V hC.ok z (h.jend + 2 * (i : Int)).toNat (leB 2 c)
  have ha : (h.jend + 2 * (i : Int)).toNat = 15360 + 2 * i := by rw [hj]; omega
  have hl2 : (leB 2 c).length = 2 := leB_length 2 c
  refine ⟨p1.1, p1.2.2.1.trans hC.over, p1.2.1.trans hC.fresh, put_In hC.inn hC.ok hC.b (leB_B8 _ _) jR_al (by rw [ha, hl2]; omega) (.inr (.inr (by show (512 : Int) + 14848 ≤ _; rw [ha]; omega))), hC.b.put hC.ok _ (leB_B8 _ _), by rw [List.length_set]; exact hC.len, fun q hq => ?_, fun q hq => ?_, fun k hk => ?_⟩
  · rw [List.length_set] at hq
    rw [cnt_put hC.ok z (by rw [hj]; decide) i q c hc]
    by_cases e : q = i
    · subst e; rw [if_pos rfl, List.getD_eq_getElem?_getD, List.getElem?_set_self hi]; rfl
    · rw [if_neg e, List.getD_eq_getElem?_getD, List.getElem?_set_ne (fun e2 => e e2.symm), ← List.getD_eq_getElem?_getD]
      exact hC.cnt q hq
  · rw [List.length_set] at hq
    rw [p1.2.2.2.2, if_neg (by rw [ha, hl2]; omega)]
    exact hC.oth q hq
  · rcases put_keys _ _ _ _ k hk with hk | ⟨n, h1, h2, h3⟩
    · exact hC.keys k hk
    · rw [ha, hl2] at *
      omega
theorem Cnts.zero {z : List Int} (hz : RZ 33 z) {H : Int} (h : 40 ≤ H ∧ H ≤ 99) {m : List Int} (hm : m = List.replicate 33 1 ++ List.replicate (H.toNat - 33) 0) : Cnts TR.zero z (HD.r H) m := by
  obtain ⟨vc, vr, vj, ve, vf⟩ := HD.r_vals h
  have hR := hz.refOk h
  have hml : m.length = H.toNat := by rw [hm, List.length_append, List.length_replicate, List.length_replicate]; omega
  refine ⟨TR.zero_ok, rfl, rfl, TR.zero_In _, hR.2.2.2.1, hml, fun q hq => ?_, fun i _ => zero_V z i, fun k hk => absurd hk List.not_mem_nil⟩
  rw [hz.cnt vj, hm]
  by_cases e : q < 33
  · rw [if_pos e, List.getD_eq_getElem?_getD, List.getElem?_append_left (by rw [List.length_replicate]; exact e), List.getElem?_replicate, if_pos e]; rfl
  · rw [if_neg e, List.getD_eq_getElem?_getD, List.getElem?_append_right (by rw [List.length_replicate]; omega), List.length_replicate, List.getElem?_replicate]
    split <;> rfl
theorem Cnts.bound {t : TR} {z : List Int} {h : HD} {m : List Int} (hC : Cnts t z h m) (q : Nat) (hq : q < m.length) : 0 ≤ m.getD q 0 ∧ m.getD q 0 ≤ 65535 := by
  rw [← hC.cnt q hq]
  have hb : B8 (t.rd z (h.jend.toNat + 2 * q) 2) := hC.b.rd _ _
  have := leV_bound hb 2
  rw [List.take_of_length_le (by rw [TR.rd_length]; exact Nat.le_refl _)] at this
  unfold cntV
  have h2 := this.2
  have h3 : ((256 ^ 2 : Nat) : Int) = 65536 := by decide
  omega
/-- At most one sector: the records fit. -/
theorem Cnts.recs {t : TR} {z : List Int} {h : HD} {m : List Int} (hC : Cnts t z h m) {rs : List RecR} (hr : RecRel t rs) : (encL rs).length ≤ 524 := by
  have hB := hr.B hC.ok (B := 8191) (fun q hq => ⟨(hC.inn.keys q hq).1, (hC.inn.keys q hq).2.1⟩)
  have hd : t.dirty.length ≤ 1 := by
    have hn := hC.inn.nodup
    have hk := hC.keys
    generalize t.dirty = d at hn hk
    match d, hn, hk with
    | [], _, _ => exact Nat.zero_le _
    | [a], _, _ => exact Nat.le_refl _
    | a :: b :: r, hn, hk =>
      exfalso
      have ha := hk a.1 (List.mem_cons_self ..)
      have hb := hk b.1 (List.mem_cons_of_mem _ (List.mem_cons_self ..))
      have := (List.nodup_cons.1 hn).1
      exact this (by show a.1 ∈ _; rw [ha, ← hb]; exact List.mem_cons_self ..)
  have := hB.2.1
  omega
/-- Two bytes are their number's. -/
theorem leV_two {l : List Int} (h : B8 l) (hl : l.length = 2) : leB 2 (leV l) = l := by
  match l, hl with
  | [a, b], _ =>
    have ha := h a (List.mem_cons_self ..)
    have hb := h b (List.mem_cons_of_mem _ (List.mem_cons_self ..))
    show [(a + 256 * (b + 256 * 0)) % 256, (a + 256 * (b + 256 * 0)) / 256 % 256] = [a, b]
    congr 1
    · omega
    · congr 1; omega
def wantL (m : List Int) : List Int := m.flatMap (leB 2)
theorem wantL_length : ∀ (m : List Int), (wantL m).length = 2 * m.length
  | [] => rfl
  | a :: r => by
    show (leB 2 a ++ wantL r).length = _
    rw [List.length_append, leB_length, wantL_length r, List.length_cons]; omega
theorem wantL_get : ∀ (m : List Int) (q : Nat), q < m.length → (wantL m).getD (2 * q) 0 = (leB 2 (m.getD q 0)).getD 0 0 ∧ (wantL m).getD (2 * q + 1) 0 = (leB 2 (m.getD q 0)).getD 1 0
  | [], q, h => absurd h (Nat.not_lt_zero _)
  | a :: r, 0, h => by
    show (leB 2 a ++ wantL r).getD 0 0 = _ ∧ (leB 2 a ++ wantL r).getD 1 0 = _
    have hl := leB_length 2 a
    constructor <;> rw [List.getD_eq_getElem?_getD, List.getElem?_append_left (by omega), ← List.getD_eq_getElem?_getD] <;> rfl
  | a :: r, q + 1, h => by
    have ih := wantL_get r q (by simpa using h)
    have hl := leB_length 2 a
    show (leB 2 a ++ wantL r).getD (2 * (q + 1)) 0 = (leB 2 (r.getD q 0)).getD 0 0 ∧ (leB 2 a ++ wantL r).getD (2 * (q + 1) + 1) 0 = (leB 2 (r.getD q 0)).getD 1 0
    rw [← ih.1, ← ih.2]
    constructor <;> rw [List.getD_eq_getElem?_getD, List.getElem?_append_right (by omega), List.getD_eq_getElem?_getD] <;> congr 2 <;> omega
theorem Cnts.byte {t : TR} {z : List Int} {h : HD} {m : List Int} (hC : Cnts t z h m) (hj : h.jend = 15360) {i : Nat} (hi : i < 2 * m.length) : t.V z (15360 + i) = (wantL m).getD i 0 := by
  have hq : i / 2 < m.length := by omega
  have hB : B8 (t.rd z (h.jend.toNat + 2 * (i / 2)) 2) := hC.b.rd _ _
  have e1 := leV_two hB (TR.rd_length _ _ _ _)
  have e2 : leV (t.rd z (h.jend.toNat + 2 * (i / 2)) 2) = m.getD (i / 2) 0 := hC.cnt _ hq
  rw [e2, hj] at e1
  obtain ⟨w0, w1⟩ := wantL_get m (i / 2) hq
  rw [e1] at w0 w1
  by_cases c : i % 2 = 0
  · rw [show i = 2 * (i / 2) by omega, w0, TR.rd_get _ _ _ _ _ (by omega)]; congr 1
  · rw [show i = 2 * (i / 2) + 1 by omega, w1, TR.rd_get _ _ _ _ _ (by omega)]; congr 1
/-- The law's end. -/
theorem Cnts.done {t : TR} {z : List Int} {h : HD} {m zz : List Int} {s3 : DF} (hC : Cnts t z h m) (hj : h.jend = 15360) (hl : m.length ≤ 99) (hz : z.length = 16896) (hl3 : s3.now.length = 16896) (hv : ∀ i, ¬ jR.inJ i → s3.V i = t.V z i) (hzz : zz.length = 14848) : putG s3.now 512 zz = putG (putG z 15360 (wantL m)) 512 zz := by
  have w := wantL_length m
  have l1 : (putG z 15360 (wantL m)).length = 16896 := by rw [putG_length (by omega)]; omega
  refine ext_getD (by rw [putG_length (by omega), putG_length (by omega)]; omega) (fun i hi => ?_)
  rw [putG_get (by omega), putG_get (by omega)]
  by_cases c : 512 ≤ i ∧ i < 512 + zz.length
  · rw [if_pos c, if_pos c]
  · rw [if_neg c, if_neg c, putG_get (by omega)]
    have hi2 : s3.now.getD i 0 = t.V z i := hv i (fun hq => by
      have : (512 : Int).toNat ≤ i ∧ i < (512 : Int).toNat + (14848 : Int).toNat := hq
      omega)
    rw [hi2]
    by_cases d : 15360 ≤ i ∧ i < 15360 + (wantL m).length
    · rw [if_pos d, ← hC.byte hj (by omega), show 15360 + (i - 15360) = i by omega]
    · rw [if_neg d]; exact hC.oth i (by omega)
end Go.Proofs.Ytcfmlnddmpiemaa.Sx

