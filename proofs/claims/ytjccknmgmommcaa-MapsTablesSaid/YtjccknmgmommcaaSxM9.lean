import Derived.Test.YtjccknmgmommcaaSxM8
set_option linter.unusedVariables false
set_option linter.unusedSimpArgs false
set_option maxRecDepth 10000
namespace Go.Proofs.Ytjccknmgmommcaa.Sx
open Go.RowKit Go.Proofs.Ytjccknmgmommcaa.Sx.Tb
attribute [local simp] entsC_noF entsC_ren
set_option maxHeartbeats 8000000 in
theorem mall_c (t : TR) (j : JR) (s : DF) (h : HD) (n : Int) (k : K) (h0 : TabOk t s h n) (hk : ∀ r : (List ER × Int) × Nat, LRel (t.rd s.now (n * h.clus).toNat h.clus.toNat) r.1 ∧ r.2 ≤ 4096 → k (.tup [.im true 3 r.1.1.length (entsC r.1.1), .v (.int .i64 r.1.2)]) (tp6 t j (s.tick r.2) h n)) : evFunc tab [] p42 Go.Proofs.Try.f42 [.p 5 0 1 0] (tp6 t j s h n) k := by
  obtain ⟨h1, h2, h3, h4, ⟨n1, n2, n3⟩, h6, h7, h8⟩ := h0
  have cb := h.clus_b
  have nb : 512 ≤ n * h.clus ∧ n * h.clus + h.clus ≤ 4194304 := by
    have e : (n + 1) * h.clus = n * h.clus + h.clus := by rw [Int.add_mul]; omega
    have e2 : 1 * h.clus ≤ n * h.clus := Int.mul_le_mul_of_nonneg_right n1 (by omega)
    omega
  repeat' (first
 | (with_reducible first | exact True.intro | apply And.intro | apply If_true | apply If_false | apply If_not)
 | ((with_reducible apply VC.mk); (first | trivial | omega | (simp only [inR]; omega) | (exact ⟨rfl, List.prefix_rfl⟩) | (refine ⟨rfl, rfl, rfl, ?_, rfl⟩; (simp; done)) | (focus (repeat' (first | exact True.intro | apply And.intro | rfl | exact Nat.le_of_ble_eq_true rfl)); done) | (simp [inR, Cont.cells]; done) | (simp [inR, Cont.cells]; omega)))
 | ((with_reducible apply If_dec) <;> intro hc <;> (try (exfalso; omega)))
 | ((with_reducible apply If_any) <;> intro hc)
 | ((with_reducible first | apply PF.mk | apply DrawP.mk); (focus kernel_rfl))
 | ((with_reducible apply Same.mk); (focus rfl); (first | exact trivial | exact rfl))
 | (intro cap hcap)
 | ((fail_if_success (with_reducible first | apply Fin.mk | apply CallP.mk | apply LoopP.mk | apply VC.mk | apply falseMk | apply Round.mk | apply LookP.mk | apply RangeP.mk | apply NextP.mk | apply EntryP.mk | apply Eq.symm)); conv => whnf))
  refine hclus_at h h3 ⟨⟨rfl, rfl, rfl, rfl, rfl, trivial⟩, trivial⟩ ?_
  rintro _ rfl
  repeat' (first
 | (with_reducible first | exact True.intro | apply And.intro | apply If_true | apply If_false | apply If_not)
 | ((with_reducible apply VC.mk); (first | trivial | omega | (simp only [inR]; omega) | (exact ⟨rfl, List.prefix_rfl⟩) | (refine ⟨rfl, rfl, rfl, ?_, rfl⟩; (simp; done)) | (focus (repeat' (first | exact True.intro | apply And.intro | rfl | exact Nat.le_of_ble_eq_true rfl)); done) | (simp [inR, Cont.cells]; done) | (simp [inR, Cont.cells]; omega)))
 | ((with_reducible apply If_dec) <;> intro hc <;> (try (exfalso; omega)))
 | ((with_reducible apply If_any) <;> intro hc)
 | ((with_reducible first | apply PF.mk | apply DrawP.mk); (focus kernel_rfl))
 | ((with_reducible apply Same.mk); (focus rfl); (first | exact trivial | exact rfl))
 | (intro cap hcap)
 | ((fail_if_success (with_reducible first | apply Fin.mk | apply CallP.mk | apply LoopP.mk | apply VC.mk | apply falseMk | apply Round.mk | apply LookP.mk | apply RangeP.mk | apply NextP.mk | apply EntryP.mk | apply Eq.symm)); conv => whnf))
  refine hclus_at h h3 ⟨⟨rfl, rfl, rfl, rfl, rfl, trivial⟩, trivial⟩ ?_
  rintro _ rfl
  repeat' (first
 | (with_reducible first | exact True.intro | apply And.intro | apply If_true | apply If_false | apply If_not)
 | ((with_reducible apply VC.mk); (first | trivial | omega | (simp only [inR]; omega) | (exact ⟨rfl, List.prefix_rfl⟩) | (refine ⟨rfl, rfl, rfl, ?_, rfl⟩; (simp; done)) | (focus (repeat' (first | exact True.intro | apply And.intro | rfl | exact Nat.le_of_ble_eq_true rfl)); done) | (simp [inR, Cont.cells]; done) | (simp [inR, Cont.cells]; omega)))
 | ((with_reducible apply If_dec) <;> intro hc <;> (try (exfalso; omega)))
 | ((with_reducible apply If_any) <;> intro hc)
 | ((with_reducible first | apply PF.mk | apply DrawP.mk); (focus kernel_rfl))
 | ((with_reducible apply Same.mk); (focus rfl); (first | exact trivial | exact rfl))
 | (intro cap hcap)
 | ((fail_if_success (with_reducible first | apply Fin.mk | apply CallP.mk | apply LoopP.mk | apply VC.mk | apply falseMk | apply Round.mk | apply LookP.mk | apply RangeP.mk | apply NextP.mk | apply EntryP.mk | apply Eq.symm)); conv => whnf))
  refine tget_at t j s (n * h.clus) h.clus 0 1 2 3 4 ⟨h1, h2, ⟨by simp only [inR]; omega, by simp only [inR]; omega⟩, h6, h7, h8⟩ rfl rfl rfl rfl rfl rfl ⟨rfl, rfl, rfl, trivial⟩ ?_
  rintro ⟨l, e, m⟩ hr
  dsimp only at hr ⊢
  have hib : inB (n * h.clus) h.clus := by unfold inB; omega
  rcases hr with ⟨-, e1, e2, e3⟩ | ⟨e1, -⟩
  rotate_left
  · exact absurd hib e1
  have hl : l.length = h.clus.toNat := by rw [e2, TR.rd_length]
  have hB : B8 l := by rw [e2]; exact h4.rd _ _
  subst e1
  repeat' (first
 | (with_reducible first | exact True.intro | apply And.intro | apply If_true | apply If_false | apply If_not)
 | ((with_reducible apply VC.mk); (first | trivial | omega | (simp only [inR]; omega) | (exact ⟨rfl, List.prefix_rfl⟩) | (refine ⟨rfl, rfl, rfl, ?_, rfl⟩; (simp; done)) | (focus (repeat' (first | exact True.intro | apply And.intro | rfl | exact Nat.le_of_ble_eq_true rfl)); done) | (simp [inR, Cont.cells]; done) | (simp [inR, Cont.cells]; omega)))
 | ((with_reducible apply If_dec) <;> intro hc <;> (try (exfalso; omega)))
 | ((with_reducible apply If_any) <;> intro hc)
 | ((with_reducible first | apply PF.mk | apply DrawP.mk); (focus kernel_rfl))
 | ((with_reducible apply Same.mk); (focus rfl); (first | exact trivial | exact rfl))
 | (intro cap hcap)
 | ((fail_if_success (with_reducible first | apply Fin.mk | apply CallP.mk | apply LoopP.mk | apply VC.mk | apply falseMk | apply Round.mk | apply LookP.mk | apply RangeP.mk | apply NextP.mk | apply EntryP.mk | apply Eq.symm)); conv => whnf))
  refine mlist_at l ⟨by omega, hB⟩ ⟨rfl, trivial⟩ ?_
  rintro ⟨es, e⟩ he
  have hk2 := hk ((es, e), m) ⟨by rw [← e2]; exact he, by show m ≤ 4096; omega⟩
  dsimp only
  repeat' (first
 | (with_reducible first | exact True.intro | apply And.intro | apply If_true | apply If_false | apply If_not)
 | ((with_reducible apply VC.mk); (first | trivial | omega | (simp only [inR]; omega) | (exact ⟨rfl, List.prefix_rfl⟩) | (refine ⟨rfl, rfl, rfl, ?_, rfl⟩; (simp; done)) | (focus (repeat' (first | exact True.intro | apply And.intro | rfl | exact Nat.le_of_ble_eq_true rfl)); done) | (simp [inR, Cont.cells]; done) | (simp [inR, Cont.cells]; omega)))
 | ((with_reducible apply If_dec) <;> intro hc <;> (try (exfalso; omega)))
 | ((with_reducible apply If_any) <;> intro hc)
 | ((with_reducible first | apply PF.mk | apply DrawP.mk); (focus kernel_rfl))
 | ((with_reducible apply Same.mk); (focus rfl); (first | exact trivial | exact rfl))
 | (intro cap hcap)
 | ((fail_if_success (with_reducible first | apply Fin.mk | apply CallP.mk | apply LoopP.mk | apply VC.mk | apply falseMk | apply Round.mk | apply LookP.mk | apply RangeP.mk | apply NextP.mk | apply EntryP.mk | apply Eq.symm)); conv => whnf))
  refine T6.fin rfl rfl rfl rfl rfl rfl hk2 ⟨fun j hj => ⟨trivial, trivial, trivial, trivial⟩, trivial, trivial⟩
def mallOk (x : TR × JR × DF × HD × Int) : Prop := TabOk x.1 x.2.2.1 x.2.2.2.1 x.2.2.2.2
def mallRel (x : TR × JR × DF × HD × Int) (r : (List ER × Int) × Nat) : Prop := LRel (x.1.rd x.2.2.1.now (x.2.2.2.2 * x.2.2.2.1.clus).toNat x.2.2.2.1.clus.toNat) r.1 ∧ r.2 ≤ 4096
theorem mall_K : ConOk Go.Proofs.Try.prog 42 (Con.of (TR × JR × DF × HD × Int) ((List ER × Int) × Nat) (fun x => [.p 5 0 1 0]) (fun x => tp6 x.1 x.2.1 x.2.2.1 x.2.2.2.1 x.2.2.2.2) mallOk mallRel (fun x r => .tup [.im true 3 r.1.1.length (entsC r.1.1), .v (.int .i64 r.1.2)]) (fun x r => tp6 (x.1) x.2.1 (x.2.2.1.tick r.2) x.2.2.2.1 x.2.2.2.2)) := by
  refine conOk_rel (T := tab) mix Go.Proofs.Try.func42 (by decide +kernel) (by kernel_rfl) [] p42 (fun n => by rw [Go.Proofs.Try.ntmps42]; exact Nat.le_of_ble_eq_true rfl) (fun x r _ _ => T6.good (by simp [AV.noF, noFs, Cont.noF, entsC_noF])) (fun x _ => T6.nd) ?_
  intro x k h0 hk
  exact mall_c x.1 x.2.1 x.2.2.1 x.2.2.2.1 x.2.2.2.2 k h0 (fun r hr => hk r hr)
theorem mall_at {avs : List AV} {H : List Chunk} {k : K} (t : TR) (j : JR) (s : DF) (h : HD) (n : Int) (ta tb tc td te tf : Nat) (h0 : TabOk t s h n) (hn : nodupN [ta, tb, tc, td, te, tf] = true) (ha0 : nth H ta = some (t.c0 td tb tc)) (hb0 : nth H tb = some t.c1) (hc0 : nth H tc = some t.c2) (hd0 : nth H td = some (j.blk te)) (he0 : nth H te = some s.pk) (hf0 : nth H tf = some (mtb h n ta)) (ha : argsM H [ta, tb, tc, td, te, tf] [.p 5 0 1 0] avs)
    (hQ : ∀ r : (List ER × Int) × Nat, (LRel (t.rd s.now (n * h.clus).toNat h.clus.toNat) r.1 ∧ r.2 ≤ 4096) → k (.tup [.im true 3 r.1.1.length (entsC r.1.1), .v (.int .i64 r.1.2)]) ((((((H.set ta (TR.c0 (t) td tb tc)).set tb (TR.c1 (t))).set tc (TR.c2 (t))).set td (j.blk te)).set te (DF.pk (s.tick r.2))).set tf (mtb h n ta))) : CallP Go.Proofs.Try.prog 42 avs H k :=
  CallP.mk ⟨_, mall_K.real, Con.spec mall_K, (t, j, s, h, n), [ta, tb, tc, td, te, tf], ⟨h0, hn, ⟨ha0, hb0.trans (congrArg some (TR.c1_ren t _).symm), hc0, hd0, he0, hf0, trivial⟩, ha⟩, fun r hr => (numK_eq _ _).mpr (by simpa [tp6, putAll, TR.c0_ren, TR.c1_ren, TR.c2_ren, JR.blk_ren, DF.pk_ren, mtb_ren, AV.ren, rens, Cont.ren, entsC_ren, fren, nth] using hQ r hr)⟩
/-! ### The reference -/
set_option maxHeartbeats 8000000 in
theorem menr_c (x : ER) (k : K) (h0 : inR .i64 x.kind ∧ inR .i64 x.cl) (hk : ∀ r : Int × Bool, r.2 = decide ((encV x).2 = 0) → k (.tup [.v (.int .u64 r.1), .v (.bool r.2)]) []) : evFunc tab [15] p38 Go.Proofs.Try.f38 [.agg [.v (.int .i64 x.kind), .v (.int .i64 x.cl), .v (.bool x.own)]] [] k := by
  repeat' (first
 | (with_reducible first | exact True.intro | apply And.intro | apply If_true | apply If_false | apply If_not)
 | ((with_reducible apply VC.mk); (first | trivial | omega | (simp only [inR]; omega) | (exact ⟨rfl, List.prefix_rfl⟩) | (refine ⟨rfl, rfl, rfl, ?_, rfl⟩; (simp; done)) | (focus (repeat' (first | exact True.intro | apply And.intro | rfl | exact Nat.le_of_ble_eq_true rfl)); done) | (simp [inR, Cont.cells]; done) | (simp [inR, Cont.cells]; omega)))
 | ((with_reducible apply If_dec) <;> intro hc <;> (try (exfalso; omega)))
 | ((with_reducible apply If_any) <;> intro hc)
 | ((with_reducible first | apply PF.mk | apply DrawP.mk); (focus kernel_rfl))
 | ((with_reducible apply Same.mk); (focus rfl); (first | exact trivial | exact rfl))
 | (intro cap hcap)
 | ((fail_if_success (with_reducible first | apply Fin.mk | apply CallP.mk | apply LoopP.mk | apply VC.mk | apply falseMk | apply Round.mk | apply LookP.mk | apply RangeP.mk | apply NextP.mk | apply EntryP.mk | apply Eq.symm)); conv => whnf))
  all_goals refine Fin.tp2 (hk (_, _) ?_)
  all_goals unfold encV
  all_goals (try (simp [*]; done))
  all_goals (try ((cases ho : x.own <;> simp [*]); done))
  all_goals (try (rw [if_neg (by omega), if_pos (by omega)]; rfl))
  all_goals (rw [if_neg (by omega), if_neg (by omega)]; split <;> rfl)
def menrOk (x : ER) : Prop := inR .i64 x.kind ∧ inR .i64 x.cl
def menrRel (x : ER) (r : Int × Bool) : Prop := r.2 = decide ((encV x).2 = 0)
theorem menr_K : ConOk Go.Proofs.Try.prog 38 (Con.of (ER) (Int × Bool) (fun x => [.agg [.v (.int .i64 x.kind), .v (.int .i64 x.cl), .v (.bool x.own)]]) (fun _ => []) menrOk menrRel (fun _ r => .tup [.v (.int .u64 r.1), .v (.bool r.2)]) (fun _ _ => [])) := by
  refine conOk_rel (T := tab) mix Go.Proofs.Try.func38 (by decide +kernel) (by kernel_rfl) [15] p38 (fun n => by rw [Go.Proofs.Try.ntmps38]; exact Nat.le_of_ble_eq_true rfl) (fun x r _ _ => ⟨by simp [AV.noF, noFs, Cont.noF, recsC_noF], (fun c hc => by cases hc), Nat.le_refl _⟩) (fun x _ c hc => by cases hc) ?_
  intro x k h0 hk
  exact menr_c x k h0 (fun r hr => hk r hr)
theorem menr_at {avs : List AV} {H : List Chunk} {k : K} (x : ER) (h0 : inR .i64 x.kind ∧ inR .i64 x.cl) (ha : argsM H [] [.agg [.v (.int .i64 x.kind), .v (.int .i64 x.cl), .v (.bool x.own)]] avs) (hQ : ∀ r : Int × Bool, (r.2 = decide ((encV x).2 = 0)) → k (.tup [.v (.int .u64 r.1), .v (.bool r.2)]) H) : CallP Go.Proofs.Try.prog 38 avs H k :=
  CallP.mk ⟨_, menr_K.real, Con.spec menr_K, (x), [], ⟨h0, rfl, trivial, ha⟩, fun r hr => (numK_eq H.length (fun N => k (AV.ren (fren [] N) (.tup [.v (.int .u64 r.1), .v (.bool r.2)])) (putAll H [] []))).mpr (by simpa [putAll, AV.ren, rens, Cont.ren, recsC, recAV] using hQ r hr)⟩
theorem Fin.ag3 {u v w : Value} {H : List Chunk} {k : K} (hk : k (.agg [.v u, .v v, .v w]) []) : Fin 0 (.agg [.v u, .v v, .v w]) H k := Fin.ren [] [] (.agg [.v u, .v v, .v w]) [] rfl rfl trivial trivial ⟨VC.mk rfl, VC.mk rfl, VC.mk rfl, trivial⟩ hk
theorem mof_c (x : ER) (k : K) (h0 : True) (hk : ∀ r : ER, r = x → k (.agg [.v (.int .i64 r.kind), .v (.int .i64 r.cl), .v (.bool r.own)]) []) : evFunc tab [] [] Go.Proofs.Try.f39 [.agg [.v (.int .i64 x.kind), .v (.int .i64 x.cl), .v (.bool x.own)]] [] k := by
  repeat' (first
 | (with_reducible first | exact True.intro | apply And.intro | apply If_true | apply If_false | apply If_not)
 | ((with_reducible apply VC.mk); (first | trivial | omega | (simp only [inR]; omega) | (exact ⟨rfl, List.prefix_rfl⟩) | (refine ⟨rfl, rfl, rfl, ?_, rfl⟩; (simp; done)) | (focus (repeat' (first | exact True.intro | apply And.intro | rfl | exact Nat.le_of_ble_eq_true rfl)); done) | (simp [inR, Cont.cells]; done) | (simp [inR, Cont.cells]; omega)))
 | ((with_reducible apply If_dec) <;> intro hc <;> (try (exfalso; omega)))
 | ((with_reducible apply If_any) <;> intro hc)
 | ((with_reducible first | apply PF.mk | apply DrawP.mk); (focus kernel_rfl))
 | ((with_reducible apply Same.mk); (focus rfl); (first | exact trivial | exact rfl))
 | (intro cap hcap)
 | ((fail_if_success (with_reducible first | apply Fin.mk | apply CallP.mk | apply LoopP.mk | apply VC.mk | apply falseMk | apply Round.mk | apply LookP.mk | apply RangeP.mk | apply NextP.mk | apply EntryP.mk | apply Eq.symm)); conv => whnf))
  exact Fin.ag3 (hk x rfl)
def mofOk (x : ER) : Prop := True
def mofRel (x : ER) (r : ER) : Prop := r = x
theorem mof_K : ConOk Go.Proofs.Try.prog 39 (Con.of (ER) (ER) (fun x => [.agg [.v (.int .i64 x.kind), .v (.int .i64 x.cl), .v (.bool x.own)]]) (fun _ => []) mofOk mofRel (fun _ r => .agg [.v (.int .i64 r.kind), .v (.int .i64 r.cl), .v (.bool r.own)]) (fun _ _ => [])) := by
  refine conOk_rel (T := tab) mix Go.Proofs.Try.func39 (by decide +kernel) (by kernel_rfl) [] [] (fun n => by rw [Go.Proofs.Try.ntmps39]; exact Nat.le_of_ble_eq_true rfl) (fun x r _ _ => ⟨by simp [AV.noF, noFs, Cont.noF, recsC_noF], (fun c hc => by cases hc), Nat.le_refl _⟩) (fun x _ c hc => by cases hc) ?_
  intro x k h0 hk
  exact mof_c x k h0 (fun r hr => hk r hr)
theorem mof_at {avs : List AV} {H : List Chunk} {k : K} (x : ER) (h0 : True) (ha : argsM H [] [.agg [.v (.int .i64 x.kind), .v (.int .i64 x.cl), .v (.bool x.own)]] avs) (hQ : ∀ r : ER, (r = x) → k (.agg [.v (.int .i64 r.kind), .v (.int .i64 r.cl), .v (.bool r.own)]) H) : CallP Go.Proofs.Try.prog 39 avs H k :=
  CallP.mk ⟨_, mof_K.real, Con.spec mof_K, (x), [], ⟨h0, rfl, trivial, ha⟩, fun r hr => (numK_eq H.length (fun N => k (AV.ren (fren [] N) (.agg [.v (.int .i64 r.kind), .v (.int .i64 r.cl), .v (.bool r.own)])) (putAll H [] []))).mpr (by simpa [putAll, AV.ren, rens, Cont.ren, recsC, recAV] using hQ r hr)⟩
end Go.Proofs.Ytjccknmgmommcaa.Sx

