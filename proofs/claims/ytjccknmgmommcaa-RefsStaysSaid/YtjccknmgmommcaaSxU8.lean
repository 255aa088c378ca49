import Derived.Test.YtjccknmgmommcaaSxU7
set_option linter.unusedVariables false
set_option linter.unusedSimpArgs false
set_option maxRecDepth 10000
namespace Go.Proofs.Ytjccknmgmommcaa.Sx
open Go.RowKit Go.Proofs.Ytjccknmgmommcaa.Sx.Tb
attribute [local simp] entsC_noF entsC_ren
/-! ### Add, and the law's play -/
def AddR (t : TR) (now : List Int) (h : HD) (n d : Int) (r : Int × Int × TR × Nat) : Prop :=
  (¬ (0 ≤ n ∧ n < h.host) ∧ r.1 = 0 ∧ r.2.1 = 4 ∧ r.2.2.1 = t ∨
   (0 ≤ n ∧ n < h.host) ∧ d < - cntV t now h n.toNat ∧ r.1 = 0 ∧ r.2.1 = 23 ∧ r.2.2.1 = t ∨
   (0 ≤ n ∧ n < h.host) ∧ ¬ d < - cntV t now h n.toNat ∧ 65535 - cntV t now h n.toNat < d ∧ r.1 = 0 ∧ r.2.1 = 20 ∧ r.2.2.1 = t ∨
   (0 ≤ n ∧ n < h.host) ∧ ¬ d < - cntV t now h n.toNat ∧ ¬ 65535 - cntV t now h n.toNat < d ∧ r.1 = cntV t now h n.toNat + d ∧ r.2.1 = 0 ∧ r.2.2.1 = t.put now (h.jend + 2 * n).toNat (leB 2 (cntV t now h n.toNat + d))) ∧ r.2.2.2 ≤ 4
theorem cntV_bound {t : TR} {now : List Int} (hb : t.B now) (h : HD) (i : Nat) : 0 ≤ cntV t now h i ∧ cntV t now h i ≤ 65535 := by
  have hb : B8 (t.rd now (h.jend.toNat + 2 * i) 2) := hb.rd _ _
  have := leV_bound hb 2
  rw [List.take_of_length_le (by rw [TR.rd_length]; exact Nat.le_refl _)] at this
  unfold cntV
  have h2 := this.2
  have h3 : ((256 ^ 2 : Nat) : Int) = 65536 := by decide
  omega
set_option maxHeartbeats 8000000 in
theorem cnadd_c (t : TR) (j : JR) (s : DF) (h : HD) (n d : Int) (k : K) (h0 : RefOk t s h ∧ inR .i64 n ∧ inR .i64 d ∧ t.over = false ∧ s.ops ≤ 137438953472) (hk : ∀ r : Int × Int × TR × Nat, AddR t s.now h n d r → k (.tup [.v (.int .i64 r.1), .v (.int .i64 r.2.1)]) (rp6 r.2.2.1 j (s.tick r.2.2.2) h)) : evFunc tab [] [] Go.Proofs.Try.f50 [.p 5 0 1 0, .v (.int .i64 n), .v (.int .i64 d)] (rp6 t j s h) k := by
  obtain ⟨hR, hn, hd, hov, hop⟩ := h0
  obtain ⟨h1, h2, h3, h4, ⟨n0, n1, n2⟩, h6, h7, h8⟩ := hR
  have hR : RefOk t s h := ⟨h1, h2, h3, h4, ⟨n0, n1, n2⟩, h6, h7, h8⟩
  have jb := h.jend_b
  repeat' (first
 | (with_reducible first | exact True.intro | apply And.intro | apply If_true | apply If_false | apply If_not)
 | ((with_reducible apply VC.mk); (first | trivial | omega | (simp only [inR]; omega) | (exact ⟨rfl, List.prefix_rfl⟩) | (refine ⟨rfl, rfl, rfl, ?_, rfl⟩; (simp; done)) | (focus (repeat' (first | exact True.intro | apply And.intro | rfl | exact Nat.le_of_ble_eq_true rfl)); done) | (simp [inR, Cont.cells]; done) | (simp [inR, Cont.cells]; omega)))
 | ((with_reducible apply If_dec) <;> intro hc <;> (try (exfalso; omega)))
 | ((with_reducible apply If_any) <;> intro hc)
 | ((with_reducible first | apply PF.mk | apply DrawP.mk); (focus kernel_rfl))
 | ((with_reducible apply Same.mk); (focus rfl); (first | exact trivial | exact rfl))
 | (intro cap hcap)
 | ((fail_if_success (with_reducible first | apply Fin.mk | apply CallP.mk | apply LoopP.mk | apply VC.mk | apply falseMk | apply Round.mk | apply LookP.mk | apply RangeP.mk | apply NextP.mk | apply EntryP.mk | apply Eq.symm)); conv => whnf))
  refine cnget_at t j s h n 0 1 2 3 4 5 ⟨hR, hn⟩ rfl rfl rfl rfl rfl rfl rfl ⟨rfl, rfl, trivial⟩ ?_
  rintro ⟨⟨c, e⟩, m⟩ ⟨q1, q2⟩
  have q1 : (c, e) = rgetR t s.now h n := q1
  dsimp only at q2 ⊢
  by_cases hin : 0 ≤ n ∧ n < h.host
  rotate_left
  · unfold rgetR at q1
    rw [if_neg hin] at q1
    cases q1
    repeat' (first
 | (with_reducible first | exact True.intro | apply And.intro | apply If_true | apply If_false | apply If_not)
 | ((with_reducible apply VC.mk); (first | trivial | omega | (simp only [inR]; omega) | (exact ⟨rfl, List.prefix_rfl⟩) | (refine ⟨rfl, rfl, rfl, ?_, rfl⟩; (simp; done)) | (focus (repeat' (first | exact True.intro | apply And.intro | rfl | exact Nat.le_of_ble_eq_true rfl)); done) | (simp [inR, Cont.cells]; done) | (simp [inR, Cont.cells]; omega)))
 | ((with_reducible apply If_dec) <;> intro hc <;> (try (exfalso; omega)))
 | ((with_reducible apply If_any) <;> intro hc)
 | ((with_reducible first | apply PF.mk | apply DrawP.mk); (focus kernel_rfl))
 | ((with_reducible apply Same.mk); (focus rfl); (first | exact trivial | exact rfl))
 | (intro cap hcap)
 | ((fail_if_success (with_reducible first | apply Fin.mk | apply CallP.mk | apply LoopP.mk | apply VC.mk | apply falseMk | apply Round.mk | apply LookP.mk | apply RangeP.mk | apply NextP.mk | apply EntryP.mk | apply Eq.symm)); conv => whnf))
    exact R6.fin rfl rfl rfl rfl rfl rfl (hk (0, 4, t, m) ⟨.inl ⟨hin, rfl, rfl, rfl⟩, by show m ≤ 4; omega⟩)
  have hcv : rgetR t s.now h n = (cntV t s.now h n.toNat, 0) := by
    unfold rgetR cntV
    rw [if_pos hin, show (h.jend + 2 * n).toNat = h.jend.toNat + 2 * n.toNat by omega]
  rw [hcv] at q1
  obtain ⟨rfl, rfl⟩ : c = cntV t s.now h n.toNat ∧ e = 0 := by cases q1; exact ⟨rfl, rfl⟩
  have hb := cntV_bound h4 h n.toNat
  have put : ∀ r : Int × Int × TR × Nat, AddR t s.now h n d r → k (.tup [.v (.int .i64 r.1), .v (.int .i64 r.2.1)]) (rp6 r.2.2.1 j (s.tick r.2.2.2) h) := hk
  clear hk q1
  obtain ⟨c, hc0⟩ : ∃ c, c = cntV t s.now h n.toNat := ⟨_, rfl⟩
  rw [← hc0] at hb ⊢
  have hR2 : RefOk t (s.tick m) h := ⟨h1, h2, h3, h4, ⟨n0, n1, n2⟩, by show 0 ≤ s.ops + (m : Int); omega, by show s.ops + (m : Int) ≤ _; omega, h8⟩
  repeat' (first
 | (with_reducible first | exact True.intro | apply And.intro | apply If_true | apply If_false | apply If_not)
 | ((with_reducible apply VC.mk); (first | trivial | omega | (simp only [inR]; omega) | (exact ⟨rfl, List.prefix_rfl⟩) | (refine ⟨rfl, rfl, rfl, ?_, rfl⟩; (simp; done)) | (focus (repeat' (first | exact True.intro | apply And.intro | rfl | exact Nat.le_of_ble_eq_true rfl)); done) | (simp [inR, Cont.cells]; done) | (simp [inR, Cont.cells]; omega)))
 | ((with_reducible apply If_dec) <;> intro hc <;> (try (exfalso; omega)))
 | ((with_reducible apply If_any) <;> intro hc)
 | ((with_reducible first | apply PF.mk | apply DrawP.mk); (focus kernel_rfl))
 | ((with_reducible apply Same.mk); (focus rfl); (first | exact trivial | exact rfl))
 | (intro cap hcap)
 | ((fail_if_success (with_reducible first | apply Fin.mk | apply CallP.mk | apply LoopP.mk | apply VC.mk | apply falseMk | apply Round.mk | apply LookP.mk | apply RangeP.mk | apply NextP.mk | apply EntryP.mk | apply Eq.symm)); conv => whnf))
  · exact R6.fin rfl rfl rfl rfl rfl rfl (put (0, 23, t, m) ⟨.inr (.inl ⟨hin, by rw [← hc0]; omega, rfl, rfl, rfl⟩), by show m ≤ 4; omega⟩)
  · exact R6.fin rfl rfl rfl rfl rfl rfl (put (0, 20, t, m) ⟨.inr (.inr (.inl ⟨hin, by rw [← hc0]; omega, by rw [← hc0]; omega, rfl, rfl, rfl⟩)), by show m ≤ 4; omega⟩)
  · refine cnset_at t j (s.tick m) h n (c + d) 0 1 2 3 4 5 ⟨hR2, hn, by simp only [inR]; omega, hov⟩ rfl rfl rfl rfl rfl rfl rfl ⟨rfl, rfl, rfl, trivial⟩ ?_
    rintro ⟨e2, t2, m2⟩ hr
    dsimp only
    rcases hr with ⟨g, -⟩ | ⟨-, g, -⟩ | ⟨-, -, g1, g2, g3⟩
    · exact absurd hin g
    · exact absurd (by omega) g
    have g1 : e2 = 0 := g1
    have g2 : t2 = t.put s.now (h.jend + 2 * n).toNat (leB 2 (c + d)) := g2
    have g3 : m2 ≤ 2 := g3
    subst g1
    rw [tick_tick]
    have hk2 := put (c + d, 0, t2, m + m2) ⟨.inr (.inr (.inr ⟨hin, by rw [← hc0]; omega, by rw [← hc0]; omega, by rw [← hc0], rfl, by rw [← hc0]; exact g2⟩)), by show m + m2 ≤ 4; omega⟩
    repeat' (first
 | (with_reducible first | exact True.intro | apply And.intro | apply If_true | apply If_false | apply If_not)
 | ((with_reducible apply VC.mk); (first | trivial | omega | (simp only [inR]; omega) | (exact ⟨rfl, List.prefix_rfl⟩) | (refine ⟨rfl, rfl, rfl, ?_, rfl⟩; (simp; done)) | (focus (repeat' (first | exact True.intro | apply And.intro | rfl | exact Nat.le_of_ble_eq_true rfl)); done) | (simp [inR, Cont.cells]; done) | (simp [inR, Cont.cells]; omega)))
 | ((with_reducible apply If_dec) <;> intro hc <;> (try (exfalso; omega)))
 | ((with_reducible apply If_any) <;> intro hc)
 | ((with_reducible first | apply PF.mk | apply DrawP.mk); (focus kernel_rfl))
 | ((with_reducible apply Same.mk); (focus rfl); (first | exact trivial | exact rfl))
 | (intro cap hcap)
 | ((fail_if_success (with_reducible first | apply Fin.mk | apply CallP.mk | apply LoopP.mk | apply VC.mk | apply falseMk | apply Round.mk | apply LookP.mk | apply RangeP.mk | apply NextP.mk | apply EntryP.mk | apply Eq.symm)); conv => whnf))
    exact R6.fin rfl rfl rfl rfl rfl rfl hk2
def cnaddOk (x : TR × JR × DF × HD × Int × Int) : Prop := RefOk x.1 x.2.2.1 x.2.2.2.1 ∧ inR .i64 x.2.2.2.2.1 ∧ inR .i64 x.2.2.2.2.2 ∧ x.1.over = false ∧ x.2.2.1.ops ≤ 137438953472
def cnaddRel (x : TR × JR × DF × HD × Int × Int) (r : Int × Int × TR × Nat) : Prop := AddR x.1 x.2.2.1.now x.2.2.2.1 x.2.2.2.2.1 x.2.2.2.2.2 r
theorem cnadd_K : ConOk Go.Proofs.Try.prog 50 (Con.of (TR × JR × DF × HD × Int × Int) (Int × Int × TR × Nat) (fun x => [.p 5 0 1 0, .v (.int .i64 x.2.2.2.2.1), .v (.int .i64 x.2.2.2.2.2)]) (fun x => rp6 x.1 x.2.1 x.2.2.1 x.2.2.2.1) cnaddOk cnaddRel (fun x r => .tup [.v (.int .i64 r.1), .v (.int .i64 r.2.1)]) (fun x r => rp6 (r.2.2.1) x.2.1 (x.2.2.1.tick r.2.2.2) x.2.2.2.1)) := by
  refine conOk_rel (T := tab) mix Go.Proofs.Try.func50 (by decide +kernel) (by kernel_rfl) [] [] (fun n => by rw [Go.Proofs.Try.ntmps50]; exact Nat.le_of_ble_eq_true rfl) (fun x r _ _ => R6.good (by simp [AV.noF, noFs, Cont.noF, entsC_noF])) (fun x _ => R6.nd) ?_
  intro x k h0 hk
  exact cnadd_c x.1 x.2.1 x.2.2.1 x.2.2.2.1 x.2.2.2.2.1 x.2.2.2.2.2 k h0 (fun r hr => hk r hr)
theorem cnadd_at {avs : List AV} {H : List Chunk} {k : K} (t : TR) (j : JR) (s : DF) (h : HD) (n : Int) (d : Int) (ta tb tc td te tf : Nat) (h0 : RefOk t s h ∧ inR .i64 n ∧ inR .i64 d ∧ t.over = false ∧ s.ops ≤ 137438953472) (hn : nodupN [ta, tb, tc, td, te, tf] = true) (ha0 : nth H ta = some (t.c0 td tb tc)) (hb0 : nth H tb = some t.c1) (hc0 : nth H tc = some t.c2) (hd0 : nth H td = some (j.blk te)) (he0 : nth H te = some s.pk) (hf0 : nth H tf = some (rfb h ta)) (ha : argsM H [ta, tb, tc, td, te, tf] [.p 5 0 1 0, .v (.int .i64 n), .v (.int .i64 d)] avs)
    (hQ : ∀ r : Int × Int × TR × Nat, (AddR t s.now h n d r) → k (.tup [.v (.int .i64 r.1), .v (.int .i64 r.2.1)]) ((((((H.set ta (TR.c0 (r.2.2.1) td tb tc)).set tb (TR.c1 (r.2.2.1))).set tc (TR.c2 (r.2.2.1))).set td (j.blk te)).set te (DF.pk (s.tick r.2.2.2))).set tf (rfb h ta))) : CallP Go.Proofs.Try.prog 50 avs H k :=
  CallP.mk ⟨_, cnadd_K.real, Con.spec cnadd_K, (t, j, s, h, n, d), [ta, tb, tc, td, te, tf], ⟨h0, hn, ⟨ha0, hb0.trans (congrArg some (TR.c1_ren t _).symm), hc0, hd0, he0, hf0, trivial⟩, ha⟩, fun r hr => (numK_eq _ _).mpr (by simpa [rp6, putAll, TR.c0_ren, TR.c1_ren, TR.c2_ren, JR.blk_ren, DF.pk_ren, rfb_ren, AV.ren, rens, Cont.ren, entsC_ren, fren, nth] using hQ r hr)⟩
end Go.Proofs.Ytjccknmgmommcaa.Sx


set_option maxRecDepth 10000
namespace Go.Proofs.Ytjccknmgmommcaa.Sx
open Go.RowKit Go.Proofs.Ytjccknmgmommcaa.Sx.Tb
/-! ### The law's play -/
def PlayOk (t : TR) (s : DF) (h : HD) (m : List Int) (kind n v : Int) : Prop :=
  RefOk t s h ∧ Cnts t s.now h m ∧ s.ops ≤ 68719476736 ∧ (h.jend = 15360 ∧ (m.length : Int) = h.host ∧ m.length ≤ 99 ∧ 0 ≤ h.first ∧ h.first ≤ 99) ∧ inR .i64 kind ∧ inR .i64 n ∧ inR .i64 v
def PlayR (s : DF) (h : HD) (m : List Int) (r : TR × List Int × Nat) : Prop := Cnts r.1 s.now h r.2.1 ∧ r.2.1.length = m.length ∧ r.2.2 ≤ 20000
def pl7 (t : TR) (j : JR) (s : DF) (h : HD) (m : List Int) : List Chunk := rp6 t j s h ++ [.blk 3 (.ints .i64 m) m.length]
theorem P7.fin {H : List Chunk} {t : TR} {j : JR} {s : DF} {h : HD} {m : List Int} {N : Nat} {k : K} (h0 : nth H 0 = some (t.c0 3 1 2)) (h1 : nth H 1 = some t.c1) (h2 : nth H 2 = some t.c2) (h3 : nth H 3 = some (j.blk 4)) (h4 : nth H 4 = some s.pk) (h5 : nth H 5 = some (rfb h 0)) (h6 : nth H 6 = some (.blk 3 (.ints .i64 m) N)) {b : Bool} (hN : N = m.length) (hb : b = true) (hk : k (.v (.bool true)) (pl7 t j s h m)) : Fin 7 (.v (.bool b)) H k := by
  subst hN hb
  refine Fin.ren [0, 1, 2, 3, 4, 5, 6] [] (.v (.bool true)) (pl7 t j s h m) rfl rfl trivial (R6.le (cs := [.blk 3 (.ints .i64 m) m.length]) rfl rfl rfl rfl rfl h0 h1 h2 h3 h4 h5 ⟨?_, trivial⟩) (VC.mk rfl) hk
  unfold Chunk.le
  simp only
  rw [nth_lt h6, h6]
  exact ⟨VC.mk ⟨rfl, rfl⟩, VC.mk ⟨rfl, List.prefix_refl _⟩⟩
set_option maxHeartbeats 16000000 in
theorem rplay_c (t : TR) (j : JR) (s : DF) (h : HD) (m : List Int) (kind n v : Int) (k : K) (h0 : PlayOk t s h m kind n v) (hk : ∀ r : TR × List Int × Nat, PlayR s h m r → k (.v (.bool true)) (pl7 r.1 j (s.tick r.2.2) h r.2.1)) : evFunc tab [] p55 Go.Proofs.Try.f55 [.p 5 0 1 0, .s 6 0 1 m.length m.length, .v (.int .i64 h.first), .agg [.v (.int .i64 kind), .v (.int .i64 n), .v (.int .i64 v)]] (pl7 t j s h m) k := by
  obtain ⟨hR, hC, hop, ⟨hj, hml, hm99, hf0, hf1⟩, hkr, hnr, hvr⟩ := h0
  have mb := hC.bound
  have dn : (m.length : Int) = h.host := hml
  have hcn : ∀ i : Nat, i < m.length → cntV t s.now h i = m.getD i 0 := hC.cnt
  have zz : m.getD (0 + n.toNat) 0 = m.getD n.toNat 0 := by rw [Nat.zero_add]
  rcases (by omega : n < 0 ∨ h.host ≤ n ∨ 0 ≤ n ∧ n < h.host) with cs | cs | cs
  · repeat' (first
 | (with_reducible first | exact True.intro | apply And.intro | apply If_true | apply If_false | apply If_not)
 | ((with_reducible apply VC.mk); (first | trivial | omega | (simp only [inR]; omega) | (exact ⟨rfl, List.prefix_rfl⟩) | (refine ⟨rfl, rfl, rfl, ?_, rfl⟩; (simp; done)) | (focus (repeat' (first | exact True.intro | apply And.intro | rfl | exact Nat.le_of_ble_eq_true rfl)); done) | (simp [inR, Cont.cells]; done) | (simp [inR, Cont.cells]; omega)))
 | ((with_reducible apply If_dec) <;> intro hc <;> (try (exfalso; omega)))
 | ((with_reducible apply If_any) <;> intro hc)
 | ((with_reducible first | apply PF.mk | apply DrawP.mk); (focus kernel_rfl))
 | ((with_reducible apply Same.mk); (focus rfl); (first | exact trivial | exact rfl))
 | (intro cap hcap)
 | ((fail_if_success (with_reducible first | apply Fin.mk | apply CallP.mk | apply LoopP.mk | apply VC.mk | apply falseMk | apply Round.mk | apply LookP.mk | apply RangeP.mk | apply NextP.mk | apply EntryP.mk | apply Eq.symm)); conv => whnf))
    all_goals (try (exfalso; first | omega | (simp at hc; done) | (simp at hc; omega)))
    · refine cnget_at t j s h n 0 1 2 3 4 5 ⟨hR, hnr⟩ rfl rfl rfl rfl rfl rfl rfl ⟨rfl, rfl, trivial⟩ ?_
      rintro ⟨⟨c, e⟩, mm⟩ ⟨q1, q2⟩
      have q1 : (c, e) = rgetR t s.now h n := q1
      dsimp only at q2 ⊢
      obtain ⟨rfl, rfl⟩ : c = 0 ∧ e = 4 := by
        unfold rgetR at q1
        rw [if_neg (by omega)] at q1
        cases q1; exact ⟨rfl, rfl⟩
      repeat' (first
 | (with_reducible first | exact True.intro | apply And.intro | apply If_true | apply If_false | apply If_not)
 | ((with_reducible apply VC.mk); (first | trivial | omega | (simp only [inR]; omega) | (exact ⟨rfl, List.prefix_rfl⟩) | (refine ⟨rfl, rfl, rfl, ?_, rfl⟩; (simp; done)) | (focus (repeat' (first | exact True.intro | apply And.intro | rfl | exact Nat.le_of_ble_eq_true rfl)); done) | (simp [inR, Cont.cells]; done) | (simp [inR, Cont.cells]; omega)))
 | ((with_reducible apply If_dec) <;> intro hc <;> (try (exfalso; omega)))
 | ((with_reducible apply If_any) <;> intro hc)
 | ((with_reducible first | apply PF.mk | apply DrawP.mk); (focus kernel_rfl))
 | ((with_reducible apply Same.mk); (focus rfl); (first | exact trivial | exact rfl))
 | (intro cap hcap)
 | ((fail_if_success (with_reducible first | apply Fin.mk | apply CallP.mk | apply LoopP.mk | apply VC.mk | apply falseMk | apply Round.mk | apply LookP.mk | apply RangeP.mk | apply NextP.mk | apply EntryP.mk | apply Eq.symm)); conv => whnf))
      all_goals (try (exfalso; first | omega | (simp at hc; done) | (simp at hc; omega)))
      all_goals exact P7.fin rfl rfl rfl rfl rfl rfl rfl rfl (by first | rfl | simp) (hk (t, m, mm) ⟨hC, rfl, by show mm ≤ _; omega⟩)
    · refine cnset_at t j s h n v 0 1 2 3 4 5 ⟨hR, hnr, hvr, hC.over⟩ rfl rfl rfl rfl rfl rfl rfl ⟨rfl, rfl, rfl, trivial⟩ ?_
      rintro ⟨e, t2, mm⟩ hr
      dsimp only
      obtain ⟨rfl, rfl, rfl⟩ : e = 4 ∧ t2 = t ∧ mm = 0 := by
        rcases hr with ⟨-, g⟩ | ⟨g, -⟩ | ⟨g, -⟩
        · cases g; exact ⟨rfl, rfl, rfl⟩
        · exact absurd g (by omega)
        · exact absurd g (by omega)
      repeat' (first
 | (with_reducible first | exact True.intro | apply And.intro | apply If_true | apply If_false | apply If_not)
 | ((with_reducible apply VC.mk); (first | trivial | omega | (simp only [inR]; omega) | (exact ⟨rfl, List.prefix_rfl⟩) | (refine ⟨rfl, rfl, rfl, ?_, rfl⟩; (simp; done)) | (focus (repeat' (first | exact True.intro | apply And.intro | rfl | exact Nat.le_of_ble_eq_true rfl)); done) | (simp [inR, Cont.cells]; done) | (simp [inR, Cont.cells]; omega)))
 | ((with_reducible apply If_dec) <;> intro hc <;> (try (exfalso; omega)))
 | ((with_reducible apply If_any) <;> intro hc)
 | ((with_reducible first | apply PF.mk | apply DrawP.mk); (focus kernel_rfl))
 | ((with_reducible apply Same.mk); (focus rfl); (first | exact trivial | exact rfl))
 | (intro cap hcap)
 | ((fail_if_success (with_reducible first | apply Fin.mk | apply CallP.mk | apply LoopP.mk | apply VC.mk | apply falseMk | apply Round.mk | apply LookP.mk | apply RangeP.mk | apply NextP.mk | apply EntryP.mk | apply Eq.symm)); conv => whnf))
      all_goals (try (exfalso; first | omega | (simp at hc; done) | (simp at hc; omega)))
      all_goals exact P7.fin rfl rfl rfl rfl rfl rfl rfl rfl (by first | rfl | simp) (hk (t2, m, 0) ⟨hC, rfl, Nat.zero_le _⟩)
    · refine cnadd_at t j s h n v 0 1 2 3 4 5 ⟨hR, hnr, hvr, hC.over, by omega⟩ rfl rfl rfl rfl rfl rfl rfl ⟨rfl, rfl, rfl, trivial⟩ ?_
      rintro ⟨c, e, t2, mm⟩ ⟨hr, hmm⟩
      dsimp only at hr hmm ⊢
      obtain ⟨rfl, rfl, rfl⟩ : c = 0 ∧ e = 4 ∧ t2 = t := by
        rcases hr with ⟨-, g1, g2, g3⟩ | ⟨g, -⟩ | ⟨g, -⟩ | ⟨g, -⟩
        · exact ⟨g1, g2, g3⟩
        all_goals exact absurd g (by omega)
      repeat' (first
 | (with_reducible first | exact True.intro | apply And.intro | apply If_true | apply If_false | apply If_not)
 | ((with_reducible apply VC.mk); (first | trivial | omega | (simp only [inR]; omega) | (exact ⟨rfl, List.prefix_rfl⟩) | (refine ⟨rfl, rfl, rfl, ?_, rfl⟩; (simp; done)) | (focus (repeat' (first | exact True.intro | apply And.intro | rfl | exact Nat.le_of_ble_eq_true rfl)); done) | (simp [inR, Cont.cells]; done) | (simp [inR, Cont.cells]; omega)))
 | ((with_reducible apply If_dec) <;> intro hc <;> (try (exfalso; omega)))
 | ((with_reducible apply If_any) <;> intro hc)
 | ((with_reducible first | apply PF.mk | apply DrawP.mk); (focus kernel_rfl))
 | ((with_reducible apply Same.mk); (focus rfl); (first | exact trivial | exact rfl))
 | (intro cap hcap)
 | ((fail_if_success (with_reducible first | apply Fin.mk | apply CallP.mk | apply LoopP.mk | apply VC.mk | apply falseMk | apply Round.mk | apply LookP.mk | apply RangeP.mk | apply NextP.mk | apply EntryP.mk | apply Eq.symm)); conv => whnf))
      all_goals (try (exfalso; first | omega | (simp at hc; done) | (simp at hc; omega)))
      all_goals exact P7.fin rfl rfl rfl rfl rfl rfl rfl rfl (by first | rfl | simp) (hk (t2, m, mm) ⟨hC, rfl, by show mm ≤ _; omega⟩)
    · refine cnaloc_at t j s h 0 1 2 3 4 5 ⟨hR, hC.over, by omega, hf0, by omega⟩ rfl rfl rfl rfl rfl rfl rfl ⟨rfl, trivial⟩ ?_
      rintro ⟨c, e, t2, mm⟩ ⟨hr, hmm⟩
      dsimp only at hr hmm ⊢
      obtain ⟨F, hF⟩ : ∃ F : Nat, h.first = F := ⟨h.first.toNat, by omega⟩
      rw [hF]
      repeat' (first
 | (with_reducible first | exact True.intro | apply And.intro | apply If_true | apply If_false | apply If_not)
 | ((with_reducible apply VC.mk); (first | trivial | omega | (simp only [inR]; omega) | (exact ⟨rfl, List.prefix_rfl⟩) | (refine ⟨rfl, rfl, rfl, ?_, rfl⟩; (simp; done)) | (focus (repeat' (first | exact True.intro | apply And.intro | rfl | exact Nat.le_of_ble_eq_true rfl)); done) | (simp [inR, Cont.cells]; done) | (simp [inR, Cont.cells]; omega)))
 | ((with_reducible apply If_dec) <;> intro hc <;> (try (exfalso; omega)))
 | ((with_reducible apply If_any) <;> intro hc)
 | ((with_reducible first | apply PF.mk | apply DrawP.mk); (focus kernel_rfl))
 | ((with_reducible apply Same.mk); (focus rfl); (first | exact trivial | exact rfl))
 | (intro cap hcap)
 | ((fail_if_success (with_reducible first | apply Fin.mk | apply CallP.mk | apply LoopP.mk | apply VC.mk | apply falseMk | apply Round.mk | apply LookP.mk | apply RangeP.mk | apply NextP.mk | apply EntryP.mk | apply Eq.symm)); conv => whnf))
      refine LoopP.mk ⟨Nat, fun y => F ≤ y ∧ (y ≤ m.length ∨ y = F) ∧ ∀ q : Nat, F ≤ q → q < y → m.getD q 0 ≠ 0, fun y => ([(1, .s 6 0 1 m.length m.length), (16, .v (.int .i64 c)), (17, .v (.int .i64 e)), (18, .v (.int .i64 (y : Int)))], pl7 t2 j (s.tick mm) h m), fun y => m.length - y, F, ⟨Nat.le_refl _, .inr rfl, fun q a b => absurd b (by omega)⟩, Fit.ren [0, 1, 2, 3, 4, 5, 6] [] rfl rfl trivial (R6.le (cs := [.blk 3 (.ints .i64 m) m.length]) rfl rfl rfl rfl rfl rfl rfl rfl rfl rfl rfl ⟨⟨VC.mk ⟨rfl, rfl⟩, VC.mk ⟨rfl, List.prefix_refl _⟩⟩, trivial⟩) ?_, ?_⟩
      · repeat' (first
 | (with_reducible first | exact True.intro | apply And.intro | apply If_true | apply If_false | apply If_not)
 | ((with_reducible apply VC.mk); (first | trivial | omega | (simp only [inR]; omega) | (exact ⟨rfl, List.prefix_rfl⟩) | (refine ⟨rfl, rfl, rfl, ?_, rfl⟩; (simp; done)) | (focus (repeat' (first | exact True.intro | apply And.intro | rfl | exact Nat.le_of_ble_eq_true rfl)); done) | (simp [inR, Cont.cells]; done) | (simp [inR, Cont.cells]; omega)))
 | ((with_reducible apply If_dec) <;> intro hc <;> (try (exfalso; omega)))
 | ((with_reducible apply If_any) <;> intro hc)
 | ((with_reducible first | apply PF.mk | apply DrawP.mk); (focus kernel_rfl))
 | ((with_reducible apply Same.mk); (focus rfl); (first | exact trivial | exact rfl))
 | (intro cap hcap)
 | ((fail_if_success (with_reducible first | apply Fin.mk | apply CallP.mk | apply LoopP.mk | apply VC.mk | apply falseMk | apply Round.mk | apply LookP.mk | apply RangeP.mk | apply NextP.mk | apply EntryP.mk | apply Eq.symm)); conv => whnf))
      intro y hy
      obtain ⟨g1, g2, g3⟩ := hy
      have ey : ((y : Nat) : Int).toNat = y := Int.toNat_natCast _
      have ey2 : m.getD (0 + ((y : Nat) : Int).toNat) 0 = m.getD y 0 := by rw [ey, Nat.zero_add]
      repeat' (first
 | (with_reducible first | exact True.intro | apply And.intro | apply If_true | apply If_false | apply If_not)
 | ((with_reducible apply VC.mk); (first | trivial | omega | (simp only [inR]; omega) | (exact ⟨rfl, List.prefix_rfl⟩) | (refine ⟨rfl, rfl, rfl, ?_, rfl⟩; (simp; done)) | (focus (repeat' (first | exact True.intro | apply And.intro | rfl | exact Nat.le_of_ble_eq_true rfl)); done) | (simp [inR, Cont.cells]; done) | (simp [inR, Cont.cells]; omega)))
 | ((with_reducible apply If_dec) <;> intro hc <;> (try (exfalso; omega)))
 | ((with_reducible apply If_any) <;> intro hc)
 | ((with_reducible first | apply PF.mk | apply DrawP.mk); (focus kernel_rfl))
 | ((with_reducible apply Same.mk); (focus rfl); (first | exact trivial | exact rfl))
 | (intro cap hcap)
 | ((fail_if_success (with_reducible first | apply Fin.mk | apply CallP.mk | apply LoopP.mk | apply VC.mk | apply falseMk | apply Round.mk | apply LookP.mk | apply RangeP.mk | apply NextP.mk | apply EntryP.mk | apply Eq.symm)); conv => whnf))
      · have hm0 : m.getD y 0 = 0 := by rw [← ey2]; assumption
        rcases hr with ⟨i, i1, i2, i3, i4, i5, i6, i7⟩ | ⟨i1, -⟩
        rotate_left
        · exact absurd ((hcn y (by omega)).trans hm0) (i1 y (by omega) (by omega))
        have hi : i = y := by
          rcases Nat.lt_trichotomy i y with q | q | q
          · exact absurd ((hcn i (by omega)).symm.trans i3) (g3 i (by omega) q)
          · exact q
          · exact absurd ((hcn y (by omega)).trans hm0) (i4 y (by omega) q)
        subst hi
        have hC2 := hC.put hj hm99 (i := i) (by omega) (c := 1) (by decide)
        rw [← i7] at hC2
        simp only [ey, Nat.zero_add]
        exact P7.fin rfl rfl rfl rfl rfl rfl rfl (by rw [List.length_set]) (decide_eq_true i5) (hk (t2, m.set i 1, mm) ⟨hC2, List.length_set .., by show mm ≤ _; omega⟩)
      · exfalso
        have hm0 : m.getD y 0 = 0 := by rw [← ey2]; assumption
        rcases hr with ⟨i, i1, i2, i3, i4, i5, i6, i7⟩ | ⟨i1, -⟩
        · exact hc i6
        · exact absurd ((hcn y (by omega)).trans hm0) (i1 y (by omega) (by omega))
      · refine Round.mk ⟨y + 1, ⟨by omega, .inl (by omega), fun q a b => ?_⟩, by show m.length - (y + 1) < m.length - y; omega, Fit.ren [0, 1, 2, 3, 4, 5, 6] [] rfl rfl trivial (R6.le (cs := [.blk 3 (.ints .i64 m) m.length]) rfl rfl rfl rfl rfl rfl rfl rfl rfl rfl rfl ⟨⟨VC.mk ⟨rfl, rfl⟩, VC.mk ⟨rfl, List.prefix_refl _⟩⟩, trivial⟩) ?_⟩
        · by_cases q1 : q = y
          · subst q1; rw [← ey2]; exact hc
          · exact g3 q a (by omega)
        · repeat' (first
 | (with_reducible first | exact True.intro | apply And.intro | apply If_true | apply If_false | apply If_not)
 | ((with_reducible apply VC.mk); (first | trivial | omega | (simp only [inR]; omega) | (exact ⟨rfl, List.prefix_rfl⟩) | (refine ⟨rfl, rfl, rfl, ?_, rfl⟩; (simp; done)) | (focus (repeat' (first | exact True.intro | apply And.intro | rfl | exact Nat.le_of_ble_eq_true rfl)); done) | (simp [inR, Cont.cells]; done) | (simp [inR, Cont.cells]; omega)))
 | ((with_reducible apply If_dec) <;> intro hc <;> (try (exfalso; omega)))
 | ((with_reducible apply If_any) <;> intro hc)
 | ((with_reducible first | apply PF.mk | apply DrawP.mk); (focus kernel_rfl))
 | ((with_reducible apply Same.mk); (focus rfl); (first | exact trivial | exact rfl))
 | (intro cap hcap)
 | ((fail_if_success (with_reducible first | apply Fin.mk | apply CallP.mk | apply LoopP.mk | apply VC.mk | apply falseMk | apply Round.mk | apply LookP.mk | apply RangeP.mk | apply NextP.mk | apply EntryP.mk | apply Eq.symm)); conv => whnf))
      · rcases hr with ⟨i, i1, i2, i3, i4, i5, i6, i7⟩ | ⟨i1, i2, i3, i4⟩
        · exact absurd ((hcn i (by omega)).symm.trans i3) (g3 i (by omega) (by omega))
        subst i4
        exact P7.fin rfl rfl rfl rfl rfl rfl rfl rfl (decide_eq_true i2) (hk (t2, m, mm) ⟨hC, rfl, by show mm ≤ _; omega⟩)
      · exfalso
        rcases hr with ⟨i, i1, i2, i3, i4, i5, i6, i7⟩ | ⟨i1, i2, i3, i4⟩
        · exact absurd ((hcn i (by omega)).symm.trans i3) (g3 i (by omega) (by omega))
        · exact hc i3
    · exact P7.fin rfl rfl rfl rfl rfl rfl rfl rfl rfl (by have := hk (t, m, 0) ⟨hC, rfl, Nat.zero_le _⟩; rwa [show s.tick 0 = s by unfold DF.tick; simp] at this)
  · repeat' (first
 | (with_reducible first | exact True.intro | apply And.intro | apply If_true | apply If_false | apply If_not)
 | ((with_reducible apply VC.mk); (first | trivial | omega | (simp only [inR]; omega) | (exact ⟨rfl, List.prefix_rfl⟩) | (refine ⟨rfl, rfl, rfl, ?_, rfl⟩; (simp; done)) | (focus (repeat' (first | exact True.intro | apply And.intro | rfl | exact Nat.le_of_ble_eq_true rfl)); done) | (simp [inR, Cont.cells]; done) | (simp [inR, Cont.cells]; omega)))
 | ((with_reducible apply If_dec) <;> intro hc <;> (try (exfalso; omega)))
 | ((with_reducible apply If_any) <;> intro hc)
 | ((with_reducible first | apply PF.mk | apply DrawP.mk); (focus kernel_rfl))
 | ((with_reducible apply Same.mk); (focus rfl); (first | exact trivial | exact rfl))
 | (intro cap hcap)
 | ((fail_if_success (with_reducible first | apply Fin.mk | apply CallP.mk | apply LoopP.mk | apply VC.mk | apply falseMk | apply Round.mk | apply LookP.mk | apply RangeP.mk | apply NextP.mk | apply EntryP.mk | apply Eq.symm)); conv => whnf))
    all_goals (try (exfalso; first | omega | (simp at hc; done) | (simp at hc; omega)))
    · refine cnget_at t j s h n 0 1 2 3 4 5 ⟨hR, hnr⟩ rfl rfl rfl rfl rfl rfl rfl ⟨rfl, rfl, trivial⟩ ?_
      rintro ⟨⟨c, e⟩, mm⟩ ⟨q1, q2⟩
      have q1 : (c, e) = rgetR t s.now h n := q1
      dsimp only at q2 ⊢
      obtain ⟨rfl, rfl⟩ : c = 0 ∧ e = 4 := by
        unfold rgetR at q1
        rw [if_neg (by omega)] at q1
        cases q1; exact ⟨rfl, rfl⟩
      repeat' (first
 | (with_reducible first | exact True.intro | apply And.intro | apply If_true | apply If_false | apply If_not)
 | ((with_reducible apply VC.mk); (first | trivial | omega | (simp only [inR]; omega) | (exact ⟨rfl, List.prefix_rfl⟩) | (refine ⟨rfl, rfl, rfl, ?_, rfl⟩; (simp; done)) | (focus (repeat' (first | exact True.intro | apply And.intro | rfl | exact Nat.le_of_ble_eq_true rfl)); done) | (simp [inR, Cont.cells]; done) | (simp [inR, Cont.cells]; omega)))
 | ((with_reducible apply If_dec) <;> intro hc <;> (try (exfalso; omega)))
 | ((with_reducible apply If_any) <;> intro hc)
 | ((with_reducible first | apply PF.mk | apply DrawP.mk); (focus kernel_rfl))
 | ((with_reducible apply Same.mk); (focus rfl); (first | exact trivial | exact rfl))
 | (intro cap hcap)
 | ((fail_if_success (with_reducible first | apply Fin.mk | apply CallP.mk | apply LoopP.mk | apply VC.mk | apply falseMk | apply Round.mk | apply LookP.mk | apply RangeP.mk | apply NextP.mk | apply EntryP.mk | apply Eq.symm)); conv => whnf))
      all_goals (try (exfalso; first | omega | (simp at hc; done) | (simp at hc; omega)))
      all_goals exact P7.fin rfl rfl rfl rfl rfl rfl rfl rfl (by first | rfl | simp) (hk (t, m, mm) ⟨hC, rfl, by show mm ≤ _; omega⟩)
    · refine cnset_at t j s h n v 0 1 2 3 4 5 ⟨hR, hnr, hvr, hC.over⟩ rfl rfl rfl rfl rfl rfl rfl ⟨rfl, rfl, rfl, trivial⟩ ?_
      rintro ⟨e, t2, mm⟩ hr
      dsimp only
      obtain ⟨rfl, rfl, rfl⟩ : e = 4 ∧ t2 = t ∧ mm = 0 := by
        rcases hr with ⟨-, g⟩ | ⟨g, -⟩ | ⟨g, -⟩
        · cases g; exact ⟨rfl, rfl, rfl⟩
        · exact absurd g (by omega)
        · exact absurd g (by omega)
      repeat' (first
 | (with_reducible first | exact True.intro | apply And.intro | apply If_true | apply If_false | apply If_not)
 | ((with_reducible apply VC.mk); (first | trivial | omega | (simp only [inR]; omega) | (exact ⟨rfl, List.prefix_rfl⟩) | (refine ⟨rfl, rfl, rfl, ?_, rfl⟩; (simp; done)) | (focus (repeat' (first | exact True.intro | apply And.intro | rfl | exact Nat.le_of_ble_eq_true rfl)); done) | (simp [inR, Cont.cells]; done) | (simp [inR, Cont.cells]; omega)))
 | ((with_reducible apply If_dec) <;> intro hc <;> (try (exfalso; omega)))
 | ((with_reducible apply If_any) <;> intro hc)
 | ((with_reducible first | apply PF.mk | apply DrawP.mk); (focus kernel_rfl))
 | ((with_reducible apply Same.mk); (focus rfl); (first | exact trivial | exact rfl))
 | (intro cap hcap)
 | ((fail_if_success (with_reducible first | apply Fin.mk | apply CallP.mk | apply LoopP.mk | apply VC.mk | apply falseMk | apply Round.mk | apply LookP.mk | apply RangeP.mk | apply NextP.mk | apply EntryP.mk | apply Eq.symm)); conv => whnf))
      all_goals (try (exfalso; first | omega | (simp at hc; done) | (simp at hc; omega)))
      all_goals exact P7.fin rfl rfl rfl rfl rfl rfl rfl rfl (by first | rfl | simp) (hk (t2, m, 0) ⟨hC, rfl, Nat.zero_le _⟩)
    · refine cnadd_at t j s h n v 0 1 2 3 4 5 ⟨hR, hnr, hvr, hC.over, by omega⟩ rfl rfl rfl rfl rfl rfl rfl ⟨rfl, rfl, rfl, trivial⟩ ?_
      rintro ⟨c, e, t2, mm⟩ ⟨hr, hmm⟩
      dsimp only at hr hmm ⊢
      obtain ⟨rfl, rfl, rfl⟩ : c = 0 ∧ e = 4 ∧ t2 = t := by
        rcases hr with ⟨-, g1, g2, g3⟩ | ⟨g, -⟩ | ⟨g, -⟩ | ⟨g, -⟩
        · exact ⟨g1, g2, g3⟩
        all_goals exact absurd g (by omega)
      repeat' (first
 | (with_reducible first | exact True.intro | apply And.intro | apply If_true | apply If_false | apply If_not)
 | ((with_reducible apply VC.mk); (first | trivial | omega | (simp only [inR]; omega) | (exact ⟨rfl, List.prefix_rfl⟩) | (refine ⟨rfl, rfl, rfl, ?_, rfl⟩; (simp; done)) | (focus (repeat' (first | exact True.intro | apply And.intro | rfl | exact Nat.le_of_ble_eq_true rfl)); done) | (simp [inR, Cont.cells]; done) | (simp [inR, Cont.cells]; omega)))
 | ((with_reducible apply If_dec) <;> intro hc <;> (try (exfalso; omega)))
 | ((with_reducible apply If_any) <;> intro hc)
 | ((with_reducible first | apply PF.mk | apply DrawP.mk); (focus kernel_rfl))
 | ((with_reducible apply Same.mk); (focus rfl); (first | exact trivial | exact rfl))
 | (intro cap hcap)
 | ((fail_if_success (with_reducible first | apply Fin.mk | apply CallP.mk | apply LoopP.mk | apply VC.mk | apply falseMk | apply Round.mk | apply LookP.mk | apply RangeP.mk | apply NextP.mk | apply EntryP.mk | apply Eq.symm)); conv => whnf))
      all_goals (try (exfalso; first | omega | (simp at hc; done) | (simp at hc; omega)))
      all_goals exact P7.fin rfl rfl rfl rfl rfl rfl rfl rfl (by first | rfl | simp) (hk (t2, m, mm) ⟨hC, rfl, by show mm ≤ _; omega⟩)
    · refine cnaloc_at t j s h 0 1 2 3 4 5 ⟨hR, hC.over, by omega, hf0, by omega⟩ rfl rfl rfl rfl rfl rfl rfl ⟨rfl, trivial⟩ ?_
      rintro ⟨c, e, t2, mm⟩ ⟨hr, hmm⟩
      dsimp only at hr hmm ⊢
      obtain ⟨F, hF⟩ : ∃ F : Nat, h.first = F := ⟨h.first.toNat, by omega⟩
      rw [hF]
      repeat' (first
 | (with_reducible first | exact True.intro | apply And.intro | apply If_true | apply If_false | apply If_not)
 | ((with_reducible apply VC.mk); (first | trivial | omega | (simp only [inR]; omega) | (exact ⟨rfl, List.prefix_rfl⟩) | (refine ⟨rfl, rfl, rfl, ?_, rfl⟩; (simp; done)) | (focus (repeat' (first | exact True.intro | apply And.intro | rfl | exact Nat.le_of_ble_eq_true rfl)); done) | (simp [inR, Cont.cells]; done) | (simp [inR, Cont.cells]; omega)))
 | ((with_reducible apply If_dec) <;> intro hc <;> (try (exfalso; omega)))
 | ((with_reducible apply If_any) <;> intro hc)
 | ((with_reducible first | apply PF.mk | apply DrawP.mk); (focus kernel_rfl))
 | ((with_reducible apply Same.mk); (focus rfl); (first | exact trivial | exact rfl))
 | (intro cap hcap)
 | ((fail_if_success (with_reducible first | apply Fin.mk | apply CallP.mk | apply LoopP.mk | apply VC.mk | apply falseMk | apply Round.mk | apply LookP.mk | apply RangeP.mk | apply NextP.mk | apply EntryP.mk | apply Eq.symm)); conv => whnf))
      refine LoopP.mk ⟨Nat, fun y => F ≤ y ∧ (y ≤ m.length ∨ y = F) ∧ ∀ q : Nat, F ≤ q → q < y → m.getD q 0 ≠ 0, fun y => ([(1, .s 6 0 1 m.length m.length), (16, .v (.int .i64 c)), (17, .v (.int .i64 e)), (18, .v (.int .i64 (y : Int)))], pl7 t2 j (s.tick mm) h m), fun y => m.length - y, F, ⟨Nat.le_refl _, .inr rfl, fun q a b => absurd b (by omega)⟩, Fit.ren [0, 1, 2, 3, 4, 5, 6] [] rfl rfl trivial (R6.le (cs := [.blk 3 (.ints .i64 m) m.length]) rfl rfl rfl rfl rfl rfl rfl rfl rfl rfl rfl ⟨⟨VC.mk ⟨rfl, rfl⟩, VC.mk ⟨rfl, List.prefix_refl _⟩⟩, trivial⟩) ?_, ?_⟩
      · repeat' (first
 | (with_reducible first | exact True.intro | apply And.intro | apply If_true | apply If_false | apply If_not)
 | ((with_reducible apply VC.mk); (first | trivial | omega | (simp only [inR]; omega) | (exact ⟨rfl, List.prefix_rfl⟩) | (refine ⟨rfl, rfl, rfl, ?_, rfl⟩; (simp; done)) | (focus (repeat' (first | exact True.intro | apply And.intro | rfl | exact Nat.le_of_ble_eq_true rfl)); done) | (simp [inR, Cont.cells]; done) | (simp [inR, Cont.cells]; omega)))
 | ((with_reducible apply If_dec) <;> intro hc <;> (try (exfalso; omega)))
 | ((with_reducible apply If_any) <;> intro hc)
 | ((with_reducible first | apply PF.mk | apply DrawP.mk); (focus kernel_rfl))
 | ((with_reducible apply Same.mk); (focus rfl); (first | exact trivial | exact rfl))
 | (intro cap hcap)
 | ((fail_if_success (with_reducible first | apply Fin.mk | apply CallP.mk | apply LoopP.mk | apply VC.mk | apply falseMk | apply Round.mk | apply LookP.mk | apply RangeP.mk | apply NextP.mk | apply EntryP.mk | apply Eq.symm)); conv => whnf))
      intro y hy
      obtain ⟨g1, g2, g3⟩ := hy
      have ey : ((y : Nat) : Int).toNat = y := Int.toNat_natCast _
      have ey2 : m.getD (0 + ((y : Nat) : Int).toNat) 0 = m.getD y 0 := by rw [ey, Nat.zero_add]
      repeat' (first
 | (with_reducible first | exact True.intro | apply And.intro | apply If_true | apply If_false | apply If_not)
 | ((with_reducible apply VC.mk); (first | trivial | omega | (simp only [inR]; omega) | (exact ⟨rfl, List.prefix_rfl⟩) | (refine ⟨rfl, rfl, rfl, ?_, rfl⟩; (simp; done)) | (focus (repeat' (first | exact True.intro | apply And.intro | rfl | exact Nat.le_of_ble_eq_true rfl)); done) | (simp [inR, Cont.cells]; done) | (simp [inR, Cont.cells]; omega)))
 | ((with_reducible apply If_dec) <;> intro hc <;> (try (exfalso; omega)))
 | ((with_reducible apply If_any) <;> intro hc)
 | ((with_reducible first | apply PF.mk | apply DrawP.mk); (focus kernel_rfl))
 | ((with_reducible apply Same.mk); (focus rfl); (first | exact trivial | exact rfl))
 | (intro cap hcap)
 | ((fail_if_success (with_reducible first | apply Fin.mk | apply CallP.mk | apply LoopP.mk | apply VC.mk | apply falseMk | apply Round.mk | apply LookP.mk | apply RangeP.mk | apply NextP.mk | apply EntryP.mk | apply Eq.symm)); conv => whnf))
      · have hm0 : m.getD y 0 = 0 := by rw [← ey2]; assumption
        rcases hr with ⟨i, i1, i2, i3, i4, i5, i6, i7⟩ | ⟨i1, -⟩
        rotate_left
        · exact absurd ((hcn y (by omega)).trans hm0) (i1 y (by omega) (by omega))
        have hi : i = y := by
          rcases Nat.lt_trichotomy i y with q | q | q
          · exact absurd ((hcn i (by omega)).symm.trans i3) (g3 i (by omega) q)
          · exact q
          · exact absurd ((hcn y (by omega)).trans hm0) (i4 y (by omega) q)
        subst hi
        have hC2 := hC.put hj hm99 (i := i) (by omega) (c := 1) (by decide)
        rw [← i7] at hC2
        simp only [ey, Nat.zero_add]
        exact P7.fin rfl rfl rfl rfl rfl rfl rfl (by rw [List.length_set]) (decide_eq_true i5) (hk (t2, m.set i 1, mm) ⟨hC2, List.length_set .., by show mm ≤ _; omega⟩)
      · exfalso
        have hm0 : m.getD y 0 = 0 := by rw [← ey2]; assumption
        rcases hr with ⟨i, i1, i2, i3, i4, i5, i6, i7⟩ | ⟨i1, -⟩
        · exact hc i6
        · exact absurd ((hcn y (by omega)).trans hm0) (i1 y (by omega) (by omega))
      · refine Round.mk ⟨y + 1, ⟨by omega, .inl (by omega), fun q a b => ?_⟩, by show m.length - (y + 1) < m.length - y; omega, Fit.ren [0, 1, 2, 3, 4, 5, 6] [] rfl rfl trivial (R6.le (cs := [.blk 3 (.ints .i64 m) m.length]) rfl rfl rfl rfl rfl rfl rfl rfl rfl rfl rfl ⟨⟨VC.mk ⟨rfl, rfl⟩, VC.mk ⟨rfl, List.prefix_refl _⟩⟩, trivial⟩) ?_⟩
        · by_cases q1 : q = y
          · subst q1; rw [← ey2]; exact hc
          · exact g3 q a (by omega)
        · repeat' (first
 | (with_reducible first | exact True.intro | apply And.intro | apply If_true | apply If_false | apply If_not)
 | ((with_reducible apply VC.mk); (first | trivial | omega | (simp only [inR]; omega) | (exact ⟨rfl, List.prefix_rfl⟩) | (refine ⟨rfl, rfl, rfl, ?_, rfl⟩; (simp; done)) | (focus (repeat' (first | exact True.intro | apply And.intro | rfl | exact Nat.le_of_ble_eq_true rfl)); done) | (simp [inR, Cont.cells]; done) | (simp [inR, Cont.cells]; omega)))
 | ((with_reducible apply If_dec) <;> intro hc <;> (try (exfalso; omega)))
 | ((with_reducible apply If_any) <;> intro hc)
 | ((with_reducible first | apply PF.mk | apply DrawP.mk); (focus kernel_rfl))
 | ((with_reducible apply Same.mk); (focus rfl); (first | exact trivial | exact rfl))
 | (intro cap hcap)
 | ((fail_if_success (with_reducible first | apply Fin.mk | apply CallP.mk | apply LoopP.mk | apply VC.mk | apply falseMk | apply Round.mk | apply LookP.mk | apply RangeP.mk | apply NextP.mk | apply EntryP.mk | apply Eq.symm)); conv => whnf))
      · rcases hr with ⟨i, i1, i2, i3, i4, i5, i6, i7⟩ | ⟨i1, i2, i3, i4⟩
        · exact absurd ((hcn i (by omega)).symm.trans i3) (g3 i (by omega) (by omega))
        subst i4
        exact P7.fin rfl rfl rfl rfl rfl rfl rfl rfl (decide_eq_true i2) (hk (t2, m, mm) ⟨hC, rfl, by show mm ≤ _; omega⟩)
      · exfalso
        rcases hr with ⟨i, i1, i2, i3, i4, i5, i6, i7⟩ | ⟨i1, i2, i3, i4⟩
        · exact absurd ((hcn i (by omega)).symm.trans i3) (g3 i (by omega) (by omega))
        · exact hc i3
    · exact P7.fin rfl rfl rfl rfl rfl rfl rfl rfl rfl (by have := hk (t, m, 0) ⟨hC, rfl, Nat.zero_le _⟩; rwa [show s.tick 0 = s by unfold DF.tick; simp] at this)
  · repeat' (first
 | (with_reducible first | exact True.intro | apply And.intro | apply If_true | apply If_false | apply If_not)
 | ((with_reducible apply VC.mk); (first | trivial | omega | (simp only [inR]; omega) | (exact ⟨rfl, List.prefix_rfl⟩) | (refine ⟨rfl, rfl, rfl, ?_, rfl⟩; (simp; done)) | (focus (repeat' (first | exact True.intro | apply And.intro | rfl | exact Nat.le_of_ble_eq_true rfl)); done) | (simp [inR, Cont.cells]; done) | (simp [inR, Cont.cells]; omega)))
 | ((with_reducible apply If_dec) <;> intro hc <;> (try (exfalso; omega)))
 | ((with_reducible apply If_any) <;> intro hc)
 | ((with_reducible first | apply PF.mk | apply DrawP.mk); (focus kernel_rfl))
 | ((with_reducible apply Same.mk); (focus rfl); (first | exact trivial | exact rfl))
 | (intro cap hcap)
 | ((fail_if_success (with_reducible first | apply Fin.mk | apply CallP.mk | apply LoopP.mk | apply VC.mk | apply falseMk | apply Round.mk | apply LookP.mk | apply RangeP.mk | apply NextP.mk | apply EntryP.mk | apply Eq.symm)); conv => whnf))
    all_goals (try (exfalso; first | omega | (simp at hc; done) | (simp at hc; omega)))
    · refine cnget_at t j s h n 0 1 2 3 4 5 ⟨hR, hnr⟩ rfl rfl rfl rfl rfl rfl rfl ⟨rfl, rfl, trivial⟩ ?_
      rintro ⟨⟨c, e⟩, mm⟩ ⟨q1, q2⟩
      have q1 : (c, e) = rgetR t s.now h n := q1
      dsimp only at q2 ⊢
      obtain ⟨rfl, rfl⟩ : c = m.getD n.toNat 0 ∧ e = 0 := by
        unfold rgetR at q1
        rw [if_pos cs, show (h.jend + 2 * n).toNat = h.jend.toNat + 2 * n.toNat by omega] at q1
        have := hcn n.toNat (by omega)
        unfold cntV at this
        rw [this] at q1
        cases q1; exact ⟨rfl, rfl⟩
      repeat' (first
 | (with_reducible first | exact True.intro | apply And.intro | apply If_true | apply If_false | apply If_not)
 | ((with_reducible apply VC.mk); (first | trivial | omega | (simp only [inR]; omega) | (exact ⟨rfl, List.prefix_rfl⟩) | (refine ⟨rfl, rfl, rfl, ?_, rfl⟩; (simp; done)) | (focus (repeat' (first | exact True.intro | apply And.intro | rfl | exact Nat.le_of_ble_eq_true rfl)); done) | (simp [inR, Cont.cells]; done) | (simp [inR, Cont.cells]; omega)))
 | ((with_reducible apply If_dec) <;> intro hc <;> (try (exfalso; omega)))
 | ((with_reducible apply If_any) <;> intro hc)
 | ((with_reducible first | apply PF.mk | apply DrawP.mk); (focus kernel_rfl))
 | ((with_reducible apply Same.mk); (focus rfl); (first | exact trivial | exact rfl))
 | (intro cap hcap)
 | ((fail_if_success (with_reducible first | apply Fin.mk | apply CallP.mk | apply LoopP.mk | apply VC.mk | apply falseMk | apply Round.mk | apply LookP.mk | apply RangeP.mk | apply NextP.mk | apply EntryP.mk | apply Eq.symm)); conv => whnf))
      all_goals (try (exfalso; first | omega | (simp at hc; done) | (simp at hc; omega)))
      all_goals exact P7.fin rfl rfl rfl rfl rfl rfl rfl rfl (by first | rfl | simp) (hk (t, m, mm) ⟨hC, rfl, by show mm ≤ _; omega⟩)
    · refine cnset_at t j s h n v 0 1 2 3 4 5 ⟨hR, hnr, hvr, hC.over⟩ rfl rfl rfl rfl rfl rfl rfl ⟨rfl, rfl, rfl, trivial⟩ ?_
      rintro ⟨e, t2, mm⟩ hr
      dsimp only
      rcases hr with ⟨g, -⟩ | ⟨-, g, g2⟩ | ⟨-, g, g1, g2, g3⟩
      · exact absurd cs g
      · obtain ⟨rfl, rfl, rfl⟩ : e = 20 ∧ t2 = t ∧ mm = 0 := by cases g2; exact ⟨rfl, rfl, rfl⟩
        repeat' (first
 | (with_reducible first | exact True.intro | apply And.intro | apply If_true | apply If_false | apply If_not)
 | ((with_reducible apply VC.mk); (first | trivial | omega | (simp only [inR]; omega) | (exact ⟨rfl, List.prefix_rfl⟩) | (refine ⟨rfl, rfl, rfl, ?_, rfl⟩; (simp; done)) | (focus (repeat' (first | exact True.intro | apply And.intro | rfl | exact Nat.le_of_ble_eq_true rfl)); done) | (simp [inR, Cont.cells]; done) | (simp [inR, Cont.cells]; omega)))
 | ((with_reducible apply If_dec) <;> intro hc <;> (try (exfalso; omega)))
 | ((with_reducible apply If_any) <;> intro hc)
 | ((with_reducible first | apply PF.mk | apply DrawP.mk); (focus kernel_rfl))
 | ((with_reducible apply Same.mk); (focus rfl); (first | exact trivial | exact rfl))
 | (intro cap hcap)
 | ((fail_if_success (with_reducible first | apply Fin.mk | apply CallP.mk | apply LoopP.mk | apply VC.mk | apply falseMk | apply Round.mk | apply LookP.mk | apply RangeP.mk | apply NextP.mk | apply EntryP.mk | apply Eq.symm)); conv => whnf))
        all_goals (try (exfalso; first | omega | (simp at hc; done) | (simp at hc; omega)))
        all_goals exact P7.fin rfl rfl rfl rfl rfl rfl rfl rfl (by first | rfl | simp) (hk (t2, m, 0) ⟨hC, rfl, Nat.zero_le _⟩)
      · have g1 : e = 0 := g1
        have g2 : t2 = t.put s.now (h.jend + 2 * n).toNat (leB 2 v) := g2
        have g3 : mm ≤ 2 := g3
        have hC2 := hC.put hj hm99 (i := n.toNat) (by omega) g
        rw [show h.jend + 2 * ((n.toNat : Nat) : Int) = h.jend + 2 * n by omega, ← g2] at hC2
        subst g1
        clear g2
        repeat' (first
 | (with_reducible first | exact True.intro | apply And.intro | apply If_true | apply If_false | apply If_not)
 | ((with_reducible apply VC.mk); (first | trivial | omega | (simp only [inR]; omega) | (exact ⟨rfl, List.prefix_rfl⟩) | (refine ⟨rfl, rfl, rfl, ?_, rfl⟩; (simp; done)) | (focus (repeat' (first | exact True.intro | apply And.intro | rfl | exact Nat.le_of_ble_eq_true rfl)); done) | (simp [inR, Cont.cells]; done) | (simp [inR, Cont.cells]; omega)))
 | ((with_reducible apply If_dec) <;> intro hc <;> (try (exfalso; omega)))
 | ((with_reducible apply If_any) <;> intro hc)
 | ((with_reducible first | apply PF.mk | apply DrawP.mk); (focus kernel_rfl))
 | ((with_reducible apply Same.mk); (focus rfl); (first | exact trivial | exact rfl))
 | (intro cap hcap)
 | ((fail_if_success (with_reducible first | apply Fin.mk | apply CallP.mk | apply LoopP.mk | apply VC.mk | apply falseMk | apply Round.mk | apply LookP.mk | apply RangeP.mk | apply NextP.mk | apply EntryP.mk | apply Eq.symm)); conv => whnf))
        all_goals (try (exfalso; first | omega | (simp at hc; done) | (simp at hc; omega)))
        all_goals simp only [Nat.zero_add]
        all_goals exact P7.fin rfl rfl rfl rfl rfl rfl rfl (by rw [List.length_set]) (by first | rfl | simp) (hk (t2, m.set n.toNat v, mm) ⟨hC2, List.length_set .., by show mm ≤ _; omega⟩)
    · refine cnadd_at t j s h n v 0 1 2 3 4 5 ⟨hR, hnr, hvr, hC.over, by omega⟩ rfl rfl rfl rfl rfl rfl rfl ⟨rfl, rfl, rfl, trivial⟩ ?_
      rintro ⟨c, e, t2, mm⟩ ⟨hr, hmm⟩
      dsimp only at hr hmm ⊢
      rw [hcn n.toNat (by omega)] at hr
      have mbn := mb n.toNat (by omega)
      rcases hr with ⟨g, -⟩ | ⟨-, g, rfl, rfl, rfl⟩ | ⟨-, g, g', rfl, rfl, rfl⟩ | ⟨-, g, g', g1, rfl, g3⟩
      · exact absurd cs g
      · repeat' (first
 | (with_reducible first | exact True.intro | apply And.intro | apply If_true | apply If_false | apply If_not)
 | ((with_reducible apply VC.mk); (first | trivial | omega | (simp only [inR]; omega) | (exact ⟨rfl, List.prefix_rfl⟩) | (refine ⟨rfl, rfl, rfl, ?_, rfl⟩; (simp; done)) | (focus (repeat' (first | exact True.intro | apply And.intro | rfl | exact Nat.le_of_ble_eq_true rfl)); done) | (simp [inR, Cont.cells]; done) | (simp [inR, Cont.cells]; omega)))
 | ((with_reducible apply If_dec) <;> intro hc <;> (try (exfalso; omega)))
 | ((with_reducible apply If_any) <;> intro hc)
 | ((with_reducible first | apply PF.mk | apply DrawP.mk); (focus kernel_rfl))
 | ((with_reducible apply Same.mk); (focus rfl); (first | exact trivial | exact rfl))
 | (intro cap hcap)
 | ((fail_if_success (with_reducible first | apply Fin.mk | apply CallP.mk | apply LoopP.mk | apply VC.mk | apply falseMk | apply Round.mk | apply LookP.mk | apply RangeP.mk | apply NextP.mk | apply EntryP.mk | apply Eq.symm)); conv => whnf))
        all_goals (try (exfalso; first | omega | (simp at hc; done) | (simp at hc; omega)))
        all_goals exact P7.fin rfl rfl rfl rfl rfl rfl rfl rfl (by first | rfl | simp) (hk (t2, m, mm) ⟨hC, rfl, by show mm ≤ _; omega⟩)
      · repeat' (first
 | (with_reducible first | exact True.intro | apply And.intro | apply If_true | apply If_false | apply If_not)
 | ((with_reducible apply VC.mk); (first | trivial | omega | (simp only [inR]; omega) | (exact ⟨rfl, List.prefix_rfl⟩) | (refine ⟨rfl, rfl, rfl, ?_, rfl⟩; (simp; done)) | (focus (repeat' (first | exact True.intro | apply And.intro | rfl | exact Nat.le_of_ble_eq_true rfl)); done) | (simp [inR, Cont.cells]; done) | (simp [inR, Cont.cells]; omega)))
 | ((with_reducible apply If_dec) <;> intro hc <;> (try (exfalso; omega)))
 | ((with_reducible apply If_any) <;> intro hc)
 | ((with_reducible first | apply PF.mk | apply DrawP.mk); (focus kernel_rfl))
 | ((with_reducible apply Same.mk); (focus rfl); (first | exact trivial | exact rfl))
 | (intro cap hcap)
 | ((fail_if_success (with_reducible first | apply Fin.mk | apply CallP.mk | apply LoopP.mk | apply VC.mk | apply falseMk | apply Round.mk | apply LookP.mk | apply RangeP.mk | apply NextP.mk | apply EntryP.mk | apply Eq.symm)); conv => whnf))
        all_goals (try (exfalso; first | omega | (simp at hc; done) | (simp at hc; omega)))
        all_goals exact P7.fin rfl rfl rfl rfl rfl rfl rfl rfl (by first | rfl | simp) (hk (t2, m, mm) ⟨hC, rfl, by show mm ≤ _; omega⟩)
      · have hC2 := hC.put hj hm99 (i := n.toNat) (by omega) (c := m.getD n.toNat 0 + v) (by omega)
        rw [show h.jend + 2 * ((n.toNat : Nat) : Int) = h.jend + 2 * n by omega, ← g3] at hC2
        subst g1
        clear g3
        repeat' (first
 | (with_reducible first | exact True.intro | apply And.intro | apply If_true | apply If_false | apply If_not)
 | ((with_reducible apply VC.mk); (first | trivial | omega | (simp only [inR]; omega) | (exact ⟨rfl, List.prefix_rfl⟩) | (refine ⟨rfl, rfl, rfl, ?_, rfl⟩; (simp; done)) | (focus (repeat' (first | exact True.intro | apply And.intro | rfl | exact Nat.le_of_ble_eq_true rfl)); done) | (simp [inR, Cont.cells]; done) | (simp [inR, Cont.cells]; omega)))
 | ((with_reducible apply If_dec) <;> intro hc <;> (try (exfalso; omega)))
 | ((with_reducible apply If_any) <;> intro hc)
 | ((with_reducible first | apply PF.mk | apply DrawP.mk); (focus kernel_rfl))
 | ((with_reducible apply Same.mk); (focus rfl); (first | exact trivial | exact rfl))
 | (intro cap hcap)
 | ((fail_if_success (with_reducible first | apply Fin.mk | apply CallP.mk | apply LoopP.mk | apply VC.mk | apply falseMk | apply Round.mk | apply LookP.mk | apply RangeP.mk | apply NextP.mk | apply EntryP.mk | apply Eq.symm)); conv => whnf))
        all_goals (try (exfalso; first | omega | (simp at hc; done) | (simp at hc; omega)))
        all_goals simp only [Nat.zero_add]
        all_goals exact P7.fin rfl rfl rfl rfl rfl rfl rfl (by rw [List.length_set]) (by rw [List.getD_eq_getElem?_getD (l := m.set n.toNat (m.getD n.toNat 0 + v)), List.getElem?_set_self (by omega)]; simp) (hk (t2, m.set n.toNat (m.getD n.toNat 0 + v), mm) ⟨hC2, List.length_set .., by show mm ≤ _; omega⟩)
    · refine cnaloc_at t j s h 0 1 2 3 4 5 ⟨hR, hC.over, by omega, hf0, by omega⟩ rfl rfl rfl rfl rfl rfl rfl ⟨rfl, trivial⟩ ?_
      rintro ⟨c, e, t2, mm⟩ ⟨hr, hmm⟩
      dsimp only at hr hmm ⊢
      obtain ⟨F, hF⟩ : ∃ F : Nat, h.first = F := ⟨h.first.toNat, by omega⟩
      rw [hF]
      repeat' (first
 | (with_reducible first | exact True.intro | apply And.intro | apply If_true | apply If_false | apply If_not)
 | ((with_reducible apply VC.mk); (first | trivial | omega | (simp only [inR]; omega) | (exact ⟨rfl, List.prefix_rfl⟩) | (refine ⟨rfl, rfl, rfl, ?_, rfl⟩; (simp; done)) | (focus (repeat' (first | exact True.intro | apply And.intro | rfl | exact Nat.le_of_ble_eq_true rfl)); done) | (simp [inR, Cont.cells]; done) | (simp [inR, Cont.cells]; omega)))
 | ((with_reducible apply If_dec) <;> intro hc <;> (try (exfalso; omega)))
 | ((with_reducible apply If_any) <;> intro hc)
 | ((with_reducible first | apply PF.mk | apply DrawP.mk); (focus kernel_rfl))
 | ((with_reducible apply Same.mk); (focus rfl); (first | exact trivial | exact rfl))
 | (intro cap hcap)
 | ((fail_if_success (with_reducible first | apply Fin.mk | apply CallP.mk | apply LoopP.mk | apply VC.mk | apply falseMk | apply Round.mk | apply LookP.mk | apply RangeP.mk | apply NextP.mk | apply EntryP.mk | apply Eq.symm)); conv => whnf))
      refine LoopP.mk ⟨Nat, fun y => F ≤ y ∧ (y ≤ m.length ∨ y = F) ∧ ∀ q : Nat, F ≤ q → q < y → m.getD q 0 ≠ 0, fun y => ([(1, .s 6 0 1 m.length m.length), (16, .v (.int .i64 c)), (17, .v (.int .i64 e)), (18, .v (.int .i64 (y : Int)))], pl7 t2 j (s.tick mm) h m), fun y => m.length - y, F, ⟨Nat.le_refl _, .inr rfl, fun q a b => absurd b (by omega)⟩, Fit.ren [0, 1, 2, 3, 4, 5, 6] [] rfl rfl trivial (R6.le (cs := [.blk 3 (.ints .i64 m) m.length]) rfl rfl rfl rfl rfl rfl rfl rfl rfl rfl rfl ⟨⟨VC.mk ⟨rfl, rfl⟩, VC.mk ⟨rfl, List.prefix_refl _⟩⟩, trivial⟩) ?_, ?_⟩
      · repeat' (first
 | (with_reducible first | exact True.intro | apply And.intro | apply If_true | apply If_false | apply If_not)
 | ((with_reducible apply VC.mk); (first | trivial | omega | (simp only [inR]; omega) | (exact ⟨rfl, List.prefix_rfl⟩) | (refine ⟨rfl, rfl, rfl, ?_, rfl⟩; (simp; done)) | (focus (repeat' (first | exact True.intro | apply And.intro | rfl | exact Nat.le_of_ble_eq_true rfl)); done) | (simp [inR, Cont.cells]; done) | (simp [inR, Cont.cells]; omega)))
 | ((with_reducible apply If_dec) <;> intro hc <;> (try (exfalso; omega)))
 | ((with_reducible apply If_any) <;> intro hc)
 | ((with_reducible first | apply PF.mk | apply DrawP.mk); (focus kernel_rfl))
 | ((with_reducible apply Same.mk); (focus rfl); (first | exact trivial | exact rfl))
 | (intro cap hcap)
 | ((fail_if_success (with_reducible first | apply Fin.mk | apply CallP.mk | apply LoopP.mk | apply VC.mk | apply falseMk | apply Round.mk | apply LookP.mk | apply RangeP.mk | apply NextP.mk | apply EntryP.mk | apply Eq.symm)); conv => whnf))
      intro y hy
      obtain ⟨g1, g2, g3⟩ := hy
      have ey : ((y : Nat) : Int).toNat = y := Int.toNat_natCast _
      have ey2 : m.getD (0 + ((y : Nat) : Int).toNat) 0 = m.getD y 0 := by rw [ey, Nat.zero_add]
      repeat' (first
 | (with_reducible first | exact True.intro | apply And.intro | apply If_true | apply If_false | apply If_not)
 | ((with_reducible apply VC.mk); (first | trivial | omega | (simp only [inR]; omega) | (exact ⟨rfl, List.prefix_rfl⟩) | (refine ⟨rfl, rfl, rfl, ?_, rfl⟩; (simp; done)) | (focus (repeat' (first | exact True.intro | apply And.intro | rfl | exact Nat.le_of_ble_eq_true rfl)); done) | (simp [inR, Cont.cells]; done) | (simp [inR, Cont.cells]; omega)))
 | ((with_reducible apply If_dec) <;> intro hc <;> (try (exfalso; omega)))
 | ((with_reducible apply If_any) <;> intro hc)
 | ((with_reducible first | apply PF.mk | apply DrawP.mk); (focus kernel_rfl))
 | ((with_reducible apply Same.mk); (focus rfl); (first | exact trivial | exact rfl))
 | (intro cap hcap)
 | ((fail_if_success (with_reducible first | apply Fin.mk | apply CallP.mk | apply LoopP.mk | apply VC.mk | apply falseMk | apply Round.mk | apply LookP.mk | apply RangeP.mk | apply NextP.mk | apply EntryP.mk | apply Eq.symm)); conv => whnf))
      · have hm0 : m.getD y 0 = 0 := by rw [← ey2]; assumption
        rcases hr with ⟨i, i1, i2, i3, i4, i5, i6, i7⟩ | ⟨i1, -⟩
        rotate_left
        · exact absurd ((hcn y (by omega)).trans hm0) (i1 y (by omega) (by omega))
        have hi : i = y := by
          rcases Nat.lt_trichotomy i y with q | q | q
          · exact absurd ((hcn i (by omega)).symm.trans i3) (g3 i (by omega) q)
          · exact q
          · exact absurd ((hcn y (by omega)).trans hm0) (i4 y (by omega) q)
        subst hi
        have hC2 := hC.put hj hm99 (i := i) (by omega) (c := 1) (by decide)
        rw [← i7] at hC2
        simp only [ey, Nat.zero_add]
        exact P7.fin rfl rfl rfl rfl rfl rfl rfl (by rw [List.length_set]) (decide_eq_true i5) (hk (t2, m.set i 1, mm) ⟨hC2, List.length_set .., by show mm ≤ _; omega⟩)
      · exfalso
        have hm0 : m.getD y 0 = 0 := by rw [← ey2]; assumption
        rcases hr with ⟨i, i1, i2, i3, i4, i5, i6, i7⟩ | ⟨i1, -⟩
        · exact hc i6
        · exact absurd ((hcn y (by omega)).trans hm0) (i1 y (by omega) (by omega))
      · refine Round.mk ⟨y + 1, ⟨by omega, .inl (by omega), fun q a b => ?_⟩, by show m.length - (y + 1) < m.length - y; omega, Fit.ren [0, 1, 2, 3, 4, 5, 6] [] rfl rfl trivial (R6.le (cs := [.blk 3 (.ints .i64 m) m.length]) rfl rfl rfl rfl rfl rfl rfl rfl rfl rfl rfl ⟨⟨VC.mk ⟨rfl, rfl⟩, VC.mk ⟨rfl, List.prefix_refl _⟩⟩, trivial⟩) ?_⟩
        · by_cases q1 : q = y
          · subst q1; rw [← ey2]; exact hc
          · exact g3 q a (by omega)
        · repeat' (first
 | (with_reducible first | exact True.intro | apply And.intro | apply If_true | apply If_false | apply If_not)
 | ((with_reducible apply VC.mk); (first | trivial | omega | (simp only [inR]; omega) | (exact ⟨rfl, List.prefix_rfl⟩) | (refine ⟨rfl, rfl, rfl, ?_, rfl⟩; (simp; done)) | (focus (repeat' (first | exact True.intro | apply And.intro | rfl | exact Nat.le_of_ble_eq_true rfl)); done) | (simp [inR, Cont.cells]; done) | (simp [inR, Cont.cells]; omega)))
 | ((with_reducible apply If_dec) <;> intro hc <;> (try (exfalso; omega)))
 | ((with_reducible apply If_any) <;> intro hc)
 | ((with_reducible first | apply PF.mk | apply DrawP.mk); (focus kernel_rfl))
 | ((with_reducible apply Same.mk); (focus rfl); (first | exact trivial | exact rfl))
 | (intro cap hcap)
 | ((fail_if_success (with_reducible first | apply Fin.mk | apply CallP.mk | apply LoopP.mk | apply VC.mk | apply falseMk | apply Round.mk | apply LookP.mk | apply RangeP.mk | apply NextP.mk | apply EntryP.mk | apply Eq.symm)); conv => whnf))
      · rcases hr with ⟨i, i1, i2, i3, i4, i5, i6, i7⟩ | ⟨i1, i2, i3, i4⟩
        · exact absurd ((hcn i (by omega)).symm.trans i3) (g3 i (by omega) (by omega))
        subst i4
        exact P7.fin rfl rfl rfl rfl rfl rfl rfl rfl (decide_eq_true i2) (hk (t2, m, mm) ⟨hC, rfl, by show mm ≤ _; omega⟩)
      · exfalso
        rcases hr with ⟨i, i1, i2, i3, i4, i5, i6, i7⟩ | ⟨i1, i2, i3, i4⟩
        · exact absurd ((hcn i (by omega)).symm.trans i3) (g3 i (by omega) (by omega))
        · exact hc i3
    · exact P7.fin rfl rfl rfl rfl rfl rfl rfl rfl rfl (by have := hk (t, m, 0) ⟨hC, rfl, Nat.zero_le _⟩; rwa [show s.tick 0 = s by unfold DF.tick; simp] at this)
theorem blk_ren (f : Nat → Nat) (T : TypeId) (c : Cont) (n : Nat) : Chunk.ren f (.blk T c n) = .blk T (Cont.ren f c) n := rfl
theorem P7.good {t : TR} {j : JR} {s : DF} {h : HD} {m : List Int} {v : AV} (hv : v.noF) : Good 7 v (pl7 t j s h m) := by
  refine ⟨hv, fun c hc => ?_, Nat.le_refl _⟩
  rcases List.mem_append.1 (show c ∈ rp6 t j s h ++ [.blk 3 (.ints .i64 m) m.length] from hc) with hc | hc
  · exact (R6.good (v := .v (.bool true)) trivial).2.1 c hc
  · simp at hc; subst hc; exact .blk trivial
theorem P7.nd {t : TR} {j : JR} {s : DF} {h : HD} {m : List Int} : ∀ c ∈ pl7 t j s h m, c.lives := by
  intro c hc
  rcases List.mem_append.1 (show c ∈ rp6 t j s h ++ [.blk 3 (.ints .i64 m) m.length] from hc) with hc | hc
  · exact R6.nd c hc
  · simp at hc; subst hc; trivial
theorem rplay_K : ConOk Go.Proofs.Try.prog 55 (Con.of (TR × JR × DF × HD × List Int × Int × Int × Int) (TR × List Int × Nat) (fun x => [.p 5 0 1 0, .s 6 0 1 x.2.2.2.2.1.length x.2.2.2.2.1.length, .v (.int .i64 x.2.2.2.1.first), .agg [.v (.int .i64 x.2.2.2.2.2.1), .v (.int .i64 x.2.2.2.2.2.2.1), .v (.int .i64 x.2.2.2.2.2.2.2)]]) (fun x => pl7 x.1 x.2.1 x.2.2.1 x.2.2.2.1 x.2.2.2.2.1) (fun x => PlayOk x.1 x.2.2.1 x.2.2.2.1 x.2.2.2.2.1 x.2.2.2.2.2.1 x.2.2.2.2.2.2.1 x.2.2.2.2.2.2.2) (fun x r => PlayR x.2.2.1 x.2.2.2.1 x.2.2.2.2.1 r) (fun x r => .v (.bool true)) (fun x r => pl7 r.1 x.2.1 (x.2.2.1.tick r.2.2) x.2.2.2.1 r.2.1)) :=
  conOk_rel (T := tab) mix Go.Proofs.Try.func55 (by decide +kernel) (by kernel_rfl) [] p55 (fun n => by rw [Go.Proofs.Try.ntmps55]; exact Nat.le_of_ble_eq_true rfl) (fun x r _ _ => P7.good trivial) (fun x _ => P7.nd) (fun x k h0 hk => rplay_c x.1 x.2.1 x.2.2.1 x.2.2.2.1 x.2.2.2.2.1 x.2.2.2.2.2.1 x.2.2.2.2.2.2.1 x.2.2.2.2.2.2.2 k h0 (fun r hr => hk r hr))
theorem rplay_at {avs : List AV} {H : List Chunk} {k : K} (t : TR) (j : JR) (s : DF) (h : HD) (m : List Int) (kind n v : Int) (ta tb tc td te tf tg : Nat) (h0 : PlayOk t s h m kind n v) (hn : nodupN [ta, tb, tc, td, te, tf, tg] = true) (ha0 : nth H ta = some (t.c0 td tb tc)) (hb0 : nth H tb = some t.c1) (hc0 : nth H tc = some t.c2) (hd0 : nth H td = some (j.blk te)) (he0 : nth H te = some s.pk) (hf0 : nth H tf = some (rfb h ta)) (hg0 : nth H tg = some (.blk 3 (.ints .i64 m) m.length)) (ha : argsM H [ta, tb, tc, td, te, tf, tg] [.p 5 0 1 0, .s 6 0 1 m.length m.length, .v (.int .i64 h.first), .agg [.v (.int .i64 kind), .v (.int .i64 n), .v (.int .i64 v)]] avs)
    (hQ : ∀ r : TR × List Int × Nat, PlayR s h m r → k (.v (.bool true)) (((((((H.set ta (TR.c0 r.1 td tb tc)).set tb (TR.c1 r.1)).set tc (TR.c2 r.1)).set td (j.blk te)).set te (s.tick r.2.2).pk).set tf (rfb h ta)).set tg (.blk 3 (.ints .i64 r.2.1) r.2.1.length))) : CallP Go.Proofs.Try.prog 55 avs H k :=
  CallP.mk ⟨_, rplay_K.real, Con.spec rplay_K, (t, j, s, h, m, kind, n, v), [ta, tb, tc, td, te, tf, tg], ⟨h0, hn, ⟨ha0, hb0.trans (congrArg some (TR.c1_ren t _).symm), hc0, hd0, he0, hf0, hg0, trivial⟩, ha⟩, fun r hr => (numK_eq _ _).mpr (by simpa [pl7, rp6, putAll, TR.c0_ren, TR.c1_ren, TR.c2_ren, JR.blk_ren, DF.pk_ren, rfb_ren, blk_ren, AV.ren, rens, Cont.ren, fren, nth] using hQ r hr)⟩
end Go.Proofs.Ytjccknmgmommcaa.Sx

