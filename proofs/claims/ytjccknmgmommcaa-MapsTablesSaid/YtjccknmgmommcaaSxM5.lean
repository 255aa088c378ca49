import Derived.Test.YtjccknmgmommcaaSxM4
set_option linter.unusedVariables false
set_option linter.unusedSimpArgs false
set_option maxRecDepth 10000
namespace Go.Proofs.Ytjccknmgmommcaa.Sx
open Go.RowKit Go.Proofs.Ytjccknmgmommcaa.Sx.Tb
/-! ### At -/
def matE (h : HD) (n : Int) : Int := if n < 1 ∨ h.host ≤ n then 4 else h.checkV
def mtb (h : HD) (n : Int) (i : Nat) : Chunk := .blk 158 (.lst [.v (.int .i64 h.bits), .v (.int .i64 h.size), .v (.int .i64 h.host), .v (.int .i64 h.jr), .v (.bool h.backed), .p i 0 1 0, .v (.int .i64 n)]) 7
theorem mtb_ren (h : HD) (n : Int) (i : Nat) (f : Nat → Nat) : (mtb h n i).ren f = mtb h n (f i) := rfl
set_option maxHeartbeats 8000000 in
theorem mat_c (t : TR) (j : JR) (s : DF) (h : HD) (n : Int) (k : K) (h0 : hR h ∧ inR .i64 n) (hk1 : matE h n ≠ 0 → k (.tup [.v (.pointer none), .v (.int .i64 (matE h n))]) (tpre t j s)) (hk2 : matE h n = 0 → k (.tup [.p 5 0 1 0, .v (.int .i64 0)]) (tpre t j s ++ [mtb h n 0])) : evFunc tab [] [] Go.Proofs.Try.f35 [.agg [.v (.int .i64 h.bits), .v (.int .i64 h.size), .v (.int .i64 h.host), .v (.int .i64 h.jr), .v (.bool h.backed)], .p 0 0 1 0, .v (.int .i64 n)] (tpre t j s) k := by
  have bad : ∀ (e : Int) (H : List Chunk), e = matE h n → e ≠ 0 → Nat.ble 5 H.length = true → nth H 0 = some (t.c0 3 1 2) → nth H 1 = some t.c1 → nth H 2 = some t.c2 → nth H 3 = some (j.blk 4) → nth H 4 = some s.pk → Fin 5 (.tup [.v (.pointer none), .v (.int .i64 e)]) H k := by
    intro e H he h1 q3 q4 q5 q6 q7 q8
    subst he
    exact T5.fin q3 q4 q5 q6 q7 q8 (hk1 h1)
  repeat' (first
 | (with_reducible first | exact True.intro | apply And.intro | apply If_true | apply If_false | apply If_not)
 | ((with_reducible apply VC.mk); (first | trivial | omega | (simp only [inR]; omega) | (exact ⟨rfl, List.prefix_rfl⟩) | (refine ⟨rfl, rfl, rfl, ?_, rfl⟩; (simp; done)) | (focus (repeat' (first | exact True.intro | apply And.intro | rfl | exact Nat.le_of_ble_eq_true rfl)); done) | (simp [inR, Cont.cells]; done) | (simp [inR, Cont.cells]; omega)))
 | ((with_reducible apply If_dec) <;> intro hc <;> (try (exfalso; omega)))
 | ((with_reducible apply If_any) <;> intro hc)
 | ((with_reducible first | apply PF.mk | apply DrawP.mk); (focus kernel_rfl))
 | ((with_reducible apply Same.mk); (focus rfl); (first | exact trivial | exact rfl))
 | (intro cap hcap)
 | ((fail_if_success (with_reducible first | apply Fin.mk | apply CallP.mk | apply LoopP.mk | apply VC.mk | apply falseMk | apply Round.mk | apply LookP.mk | apply RangeP.mk | apply NextP.mk | apply EntryP.mk | apply Eq.symm)); conv => whnf))
  · exact bad 4 _ (by unfold matE; rw [if_pos (.inl hc)]) (by decide) rfl rfl rfl rfl rfl rfl
  · exact bad 4 _ (by unfold matE; rw [if_pos (.inr hc)]) (by decide) rfl rfl rfl rfl rfl rfl
  refine hcheck_at h h0.1 ⟨⟨rfl, rfl, rfl, rfl, rfl, trivial⟩, trivial⟩ ?_
  intro r hr
  have hE : r = matE h n := by rw [hr]; unfold matE; rw [if_neg (by omega)]
  clear hr
  repeat' (first
 | (with_reducible first | exact True.intro | apply And.intro | apply If_true | apply If_false | apply If_not)
 | ((with_reducible apply VC.mk); (first | trivial | omega | (simp only [inR]; omega) | (exact ⟨rfl, List.prefix_rfl⟩) | (refine ⟨rfl, rfl, rfl, ?_, rfl⟩; (simp; done)) | (focus (repeat' (first | exact True.intro | apply And.intro | rfl | exact Nat.le_of_ble_eq_true rfl)); done) | (simp [inR, Cont.cells]; done) | (simp [inR, Cont.cells]; omega)))
 | ((with_reducible apply If_dec) <;> intro hc <;> (try (exfalso; omega)))
 | ((with_reducible apply If_any) <;> intro hc)
 | ((with_reducible first | apply PF.mk | apply DrawP.mk); (focus kernel_rfl))
 | ((with_reducible apply Same.mk); (focus rfl); (first | exact trivial | exact rfl))
 | (intro cap hcap)
 | ((fail_if_success (with_reducible first | apply Fin.mk | apply CallP.mk | apply LoopP.mk | apply VC.mk | apply falseMk | apply Round.mk | apply LookP.mk | apply RangeP.mk | apply NextP.mk | apply EntryP.mk | apply Eq.symm)); conv => whnf))
  · exact bad r _ hE hc rfl rfl rfl rfl rfl rfl
  · refine Fin.ren [0, 1, 2, 3, 4, 6] [] (.tup [.p 5 0 1 0, .v (.int .i64 0)]) (tpre t j s ++ [mtb h n 0]) rfl rfl trivial (T5.leX rfl rfl rfl rfl rfl rfl rfl rfl rfl rfl ⟨⟨VC.mk ⟨rfl, rfl⟩, VC.mk rfl, VC.mk rfl, VC.mk rfl, VC.mk rfl, VC.mk rfl, VC.mk ⟨rfl, rfl, rfl, rfl⟩, VC.mk rfl, trivial⟩, trivial⟩) ⟨VC.mk ⟨rfl, rfl, rfl, rfl⟩, VC.mk rfl, trivial⟩ (hk2 (by omega))
theorem mat_K : ConOk Go.Proofs.Try.prog 35 ⟨TR × JR × DF × HD × Int, fun x => [.agg [.v (.int .i64 x.2.2.2.1.bits), .v (.int .i64 x.2.2.2.1.size), .v (.int .i64 x.2.2.2.1.host), .v (.int .i64 x.2.2.2.1.jr), .v (.bool x.2.2.2.1.backed)], .p 0 0 1 0, .v (.int .i64 x.2.2.2.2)], fun x => tpre x.1 x.2.1 x.2.2.1, fun x => hR x.2.2.2.1 ∧ inR .i64 x.2.2.2.2, fun x k => (matE x.2.2.2.1 x.2.2.2.2 ≠ 0 → k (.tup [.v (.pointer none), .v (.int .i64 (matE x.2.2.2.1 x.2.2.2.2))]) (tpre x.1 x.2.1 x.2.2.1)) ∧ (matE x.2.2.2.1 x.2.2.2.2 = 0 → k (.tup [.p 5 0 1 0, .v (.int .i64 0)]) (tpre x.1 x.2.1 x.2.2.1 ++ [mtb x.2.2.2.1 x.2.2.2.2 0]))⟩ := by
  refine conOk_fin (T := tab) mix Go.Proofs.Try.func35 (by decide +kernel) (by kernel_rfl) [] [] ?_ ?_ ?_ ?_
  · intro x h0; rw [Go.Proofs.Try.ntmps35]; exact Nat.le_of_ble_eq_true rfl
  · intro x k h0 hk
    refine ⟨fun h => ⟨hk.1 h, T5.good (by simp [AV.noF, noFs])⟩, fun h => ⟨hk.2 h, ⟨by simp [AV.noF, noFs], fun c hc => ?_, ?_⟩⟩⟩
    · rcases List.mem_append.1 hc with hc | hc
      · exact (T5.good (v := .v (.bool true)) trivial).2.1 c hc
      · simp at hc; subst hc; exact .blk ⟨trivial, trivial, trivial, trivial, trivial, trivial, trivial, trivial⟩
    · show 5 ≤ (tpre _ _ _ ++ [_]).length
      exact Nat.le_of_ble_eq_true rfl
  · intro x h0; exact T5.nd
  · intro x k h0 hk; exact mat_c x.1 x.2.1 x.2.2.1 x.2.2.2.1 x.2.2.2.2 _ h0 (fun h => Fin.same (hk.1 h)) (fun h => Fin.same (hk.2 h))
theorem mat_at {avs : List AV} {H : List Chunk} {k : K} (t : TR) (j : JR) (s : DF) (h : HD) (n : Int) (ta tb tc td te : Nat) (h0 : hR h ∧ inR .i64 n) (hn : nodupN [ta, tb, tc, td, te] = true) (ha0 : nth H ta = some (t.c0 td tb tc)) (hb0 : nth H tb = some t.c1) (hc0 : nth H tc = some t.c2) (hd0 : nth H td = some (j.blk te)) (he0 : nth H te = some s.pk) (ha : argsM H [ta, tb, tc, td, te] [.agg [.v (.int .i64 h.bits), .v (.int .i64 h.size), .v (.int .i64 h.host), .v (.int .i64 h.jr), .v (.bool h.backed)], .p 0 0 1 0, .v (.int .i64 n)] avs)
    (hQ1 : matE h n ≠ 0 → k (.tup [.v (.pointer none), .v (.int .i64 (matE h n))]) (((((H.set ta (t.c0 td tb tc)).set tb t.c1).set tc t.c2).set td (j.blk te)).set te s.pk))
    (hQ2 : matE h n = 0 → k (.tup [.p H.length 0 1 0, .v (.int .i64 0)]) ((((((H.set ta (t.c0 td tb tc)).set tb t.c1).set tc t.c2).set td (j.blk te)).set te s.pk) ++ [mtb h n ta])) : CallP Go.Proofs.Try.prog 35 avs H k :=
  CallP.mk ⟨_, mat_K.real, Con.spec mat_K, (t, j, s, h, n), [ta, tb, tc, td, te], ⟨h0, hn, ⟨ha0, hb0.trans (congrArg some (TR.c1_ren t _).symm), hc0, hd0, he0, trivial⟩, ha⟩, fun hh => (numK_eq _ _).mpr (by simpa [tpre, putAll, TR.c0_ren, TR.c1_ren, TR.c2_ren, JR.blk_ren, DF.pk_ren, AV.ren, rens, fren, nth] using hQ1 hh), fun hh => (numK_eq _ _).mpr (by simpa [tpre, putAll, TR.c0_ren, TR.c1_ren, TR.c2_ren, JR.blk_ren, DF.pk_ren, mtb_ren, AV.ren, rens, fren, nth] using hQ2 hh)⟩
/-! ### The law MapsNils -/
end Go.Proofs.Ytjccknmgmommcaa.Sx

