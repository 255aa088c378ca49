import Derived.Test.YtjccknmgmommcaaSxM3
import Derived.Test.YtjccknmgmommcaaSxJ8
set_option linter.unusedVariables false
set_option linter.unusedSimpArgs false
set_option maxRecDepth 10000
namespace Go.Proofs.Ytjccknmgmommcaa.Sx
open Go.RowKit Go.Proofs.Ytjccknmgmommcaa.Sx.Tb
/-! ### Begin -/
def TR.zero : TR := ⟨[], [], 0, false⟩
theorem nth_lt {H : List Chunk} {i : Nat} {c : Chunk} (h : nth H i = some c) : Nat.blt i H.length = true := by
  rw [nth_eq] at h
  rw [Nat.blt_eq]
  exact lt_of_get h
theorem T5.leG {H : List Chunk} {fz : List Nat} {f : Nat → Nat} {ph : Nat → Bool} {t : TR} {j : JR} {s : DF} {a b c d e : Nat} {σ : List Nat} {cs : List Chunk} (f1 : f 1 = b) (f2 : f 2 = c) (f3 : f 3 = d) (f4 : f 4 = e) (h0 : nth H a = some (t.c0 d b c)) (h1 : nth H b = some t.c1) (h2 : nth H c = some t.c2) (h3 : nth H d = some (j.blk e)) (h4 : nth H e = some s.pk) (hz : memN a fz = false ∧ memN b fz = false ∧ memN c fz = false ∧ memN d fz = false ∧ memN e fz = false) (hx : chunksLe H fz f ph σ cs) : chunksLe H fz f ph (a :: b :: c :: d :: e :: σ) (tpre t j s ++ cs) := by
  refine ⟨?_, ?_, ?_, ?_, ?_, hx⟩
  · unfold Chunk.le TR.c0
    simp only
    rw [nth_lt h0, hz.1, h0]
    exact ⟨VC.mk ⟨rfl, rfl⟩, VC.mk ⟨f3, rfl, rfl, rfl⟩, VC.mk f1, VC.mk ⟨f2, rfl, rfl, rfl, rfl⟩, VC.mk rfl, trivial⟩
  · unfold Chunk.le TR.c1
    simp only
    rw [nth_lt h1, hz.2.1, h1]
    exact ⟨VC.mk ⟨rfl, .inl trivial⟩, arr_les t.dirty⟩
  · unfold Chunk.le TR.c2
    simp only
    rw [nth_lt h2, hz.2.2.1, h2]
    exact ⟨VC.mk ⟨rfl, rfl⟩, VC.mk ⟨rfl, Nat.le_refl _⟩, fun j _ => recs_les _⟩
  · unfold Chunk.le JR.blk
    simp only
    rw [nth_lt h3, hz.2.2.2.1, h3]
    exact ⟨VC.mk ⟨rfl, rfl⟩, VC.mk ⟨f4, rfl, rfl, rfl⟩, VC.mk rfl, VC.mk rfl, VC.mk rfl, trivial⟩
  · unfold Chunk.le DF.pk
    simp only
    rw [nth_lt h4, hz.2.2.2.2, h4]
    exact VC.mk ⟨rfl, rfl, rfl, rfl⟩
theorem begin_c (j : JR) (s : DF) (k : K) (hk : k (.tup [.p 2 0 1 0, .v (.int .i64 0)]) [j.blk 1, s.pk, TR.zero.c0 0 3 4, TR.zero.c1, TR.zero.c2]) : evFunc tab [] [] Go.Proofs.Try.f78 [.p 0 0 1 0] [j.blk 1, s.pk] k := by
  repeat' (first
 | (with_reducible first | exact True.intro | apply And.intro | apply If_true | apply If_false | apply If_not)
 | ((with_reducible apply VC.mk); (first | trivial | omega | (simp only [inR]; omega) | (exact ⟨rfl, List.prefix_rfl⟩) | (refine ⟨rfl, rfl, rfl, ?_, rfl⟩; (simp; done)) | (focus (repeat' (first | exact True.intro | apply And.intro | rfl | exact Nat.le_of_ble_eq_true rfl)); done) | (simp [inR, Cont.cells]; done) | (simp [inR, Cont.cells]; omega)))
 | ((with_reducible apply If_dec) <;> intro hc <;> (try (exfalso; omega)))
 | ((with_reducible apply If_any) <;> intro hc)
 | ((with_reducible first | apply PF.mk | apply DrawP.mk); (focus kernel_rfl))
 | ((with_reducible apply Same.mk); (focus rfl); (first | exact trivial | exact rfl))
 | (intro cap hcap)
 | ((fail_if_success (with_reducible first | apply Fin.mk | apply CallP.mk | apply LoopP.mk | apply VC.mk | apply falseMk | apply Round.mk | apply LookP.mk | apply RangeP.mk | apply NextP.mk | apply EntryP.mk | apply Eq.symm)); conv => whnf))
  refine Fin.ren [0, 1, 3, 2, 4] [] (.tup [.p 2 0 1 0, .v (.int .i64 0)]) [j.blk 1, s.pk, TR.zero.c0 0 3 4, TR.zero.c1, TR.zero.c2] rfl rfl trivial ⟨⟨VC.mk ⟨rfl, rfl⟩, VC.mk ⟨rfl, rfl, rfl, rfl⟩, VC.mk rfl, VC.mk rfl, VC.mk rfl, trivial⟩, VC.mk ⟨rfl, rfl, rfl, rfl⟩, ⟨VC.mk ⟨rfl, rfl⟩, VC.mk ⟨rfl, rfl, rfl, rfl⟩, VC.mk rfl, VC.mk ⟨rfl, rfl⟩, VC.mk rfl, trivial⟩, ⟨VC.mk ⟨rfl, .inl rfl⟩, trivial⟩, ⟨VC.mk rfl, VC.mk rfl⟩, trivial⟩ ⟨VC.mk ⟨rfl, rfl, rfl, rfl⟩, VC.mk rfl, trivial⟩ hk
theorem begin_K : ConOk Go.Proofs.Try.prog 78 (Con.of (JR × DF) Unit (fun _ => [.p 0 0 1 0]) (fun x => [x.1.blk 1, x.2.pk]) (fun _ => True) (fun _ _ => True) (fun _ _ => .tup [.p 2 0 1 0, .v (.int .i64 0)]) (fun x _ => [x.1.blk 1, x.2.pk, TR.zero.c0 0 3 4, TR.zero.c1, TR.zero.c2])) := by
  refine conOk_rel (T := tab) mix Go.Proofs.Try.func78 (by decide +kernel) (by kernel_rfl) [] [] (fun n => by rw [Go.Proofs.Try.ntmps78]; exact Nat.le_of_ble_eq_true rfl) (fun x r _ _ => ⟨⟨trivial, trivial, trivial⟩, (fun c hc => ?_), (by show 2 ≤ 5; decide)⟩) (fun x _ => J2.nd) (fun x k _ hk => begin_c x.1 x.2 k (hk () trivial))
  simp at hc
  rcases hc with rfl | rfl | rfl | rfl | rfl
  · exact JR.noF _ _
  · exact DF.pk_noF _
  · exact .blk ⟨trivial, trivial, trivial, trivial, trivial⟩
  · exact .mp trivial
  · exact .blk (recsC_noF _)
theorem begin_at {avs : List AV} {H : List Chunk} {k : K} (j : JR) (s : DF) (a b : Nat) (hab : nodupN [a, b] = true) (ha0 : nth H a = some (j.blk b)) (hb0 : nth H b = some s.pk) (ha : argsM H [a, b] [.p 0 0 1 0] avs)
    (hQ : k (.tup [.p H.length 0 1 0, .v (.int .i64 0)]) (((H.set a (j.blk b)).set b s.pk) ++ [TR.zero.c0 a (H.length + 1) (H.length + 2), TR.zero.c1, TR.zero.c2])) : CallP Go.Proofs.Try.prog 78 avs H k :=
  CallP.mk ⟨_, begin_K.real, Con.spec begin_K, (j, s), [a, b], ⟨trivial, hab, ⟨ha0, hb0, trivial⟩, ha⟩, fun _ _ => (numK_eq _ _).mpr (by simpa [putAll, TR.c0_ren, TR.c1_ren, TR.c2_ren, JR.blk_ren, DF.pk_ren, AV.ren, rens, fren, nth] using hQ)⟩
/-! ### Tables -/
def HD.m : HD := ⟨9, 32768, 60, 29, false⟩
end Go.Proofs.Ytjccknmgmommcaa.Sx

