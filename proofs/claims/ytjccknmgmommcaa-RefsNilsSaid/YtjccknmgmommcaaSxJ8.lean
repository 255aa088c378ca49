import Derived.Test.YtjccknmgmommcaaSxJ7
set_option linter.unusedVariables false
set_option linter.unusedSimpArgs false
set_option maxRecDepth 10000
namespace Go.Proofs.Ytjccknmgmommcaa.Sx
open Go.RowKit Go.Proofs.Ytjccknmgmommcaa.Sx.Tb
theorem jnew_K : ConOk Go.Proofs.Try.prog 62 ⟨DF × Int × Int, fun x => [.p 0 0 1 0, .v (.int .i64 x.2.1), .v (.int .i64 x.2.2)], fun x => [x.1.pk], fun x => x.1.now.length ≤ 4194304 ∧ inR .i64 x.2.2 ∧ inR .i64 x.2.1, fun x k => (newE x.1 x.2.1 x.2.2 ≠ 0 → k (.tup [.v (.pointer none), .v (.int .i64 (newE x.1 x.2.1 x.2.2))]) [x.1.pk]) ∧ (newE x.1 x.2.1 x.2.2 = 0 → k (.tup [.p 1 0 1 0, .v (.int .i64 0)]) [x.1.pk, JR.blk ⟨x.2.1, x.2.2, 0⟩ 0])⟩ := by
  refine conOk_fin (T := tab) mix Go.Proofs.Try.func62 (by decide +kernel) (by kernel_rfl) [16, 21] [] ?_ ?_ ?_ ?_
  · intro x h0; rw [Go.Proofs.Try.ntmps62]; exact Nat.le_of_ble_eq_true rfl
  · intro x k h0 hk; exact ⟨fun h => ⟨hk.1 h, DF.goodP _ (by simp [AV.noF, noFs])⟩, fun h => ⟨hk.2 h, ⟨by simp [AV.noF, noFs], (fun c hc => by simp at hc; rcases hc with rfl | rfl; exact DF.pk_noF _; exact JR.noF _ _), Nat.le_of_ble_eq_true rfl⟩⟩⟩
  · intro x h0; exact DF.ndP x.1
  · intro x k h0 hk; exact jnew_c x.1 x.2.1 x.2.2 _ h0 (fun h => Fin.same (hk.1 h)) (fun h => Fin.same (hk.2 h))
theorem jnew_at {avs : List AV} {H : List Chunk} {k : K} (s : DF) (pos size : Int) (i : Nat) (h0 : s.now.length ≤ 4194304 ∧ inR .i64 size ∧ inR .i64 pos) (hc : nth H i = some s.pk) (ha : argsM H [i] [.p 0 0 1 0, .v (.int .i64 pos), .v (.int .i64 size)] avs) (h1 : newE s pos size ≠ 0 → k (.tup [.v (.pointer none), .v (.int .i64 (newE s pos size))]) (H.set i s.pk))
    (h2 : newE s pos size = 0 → k (.tup [.p H.length 0 1 0, .v (.int .i64 0)]) (H.set i s.pk ++ [JR.blk ⟨pos, size, 0⟩ i])) : CallP Go.Proofs.Try.prog 62 avs H k :=
  CallP.mk ⟨_, jnew_K.real, Con.spec jnew_K, (s, pos, size), [i], ⟨h0, rfl, ⟨hc, trivial⟩, ha⟩, fun h => (numK_eq _ _).mpr (by simpa [putAll, AV.ren, rens, DF.pk, Chunk.ren] using h1 h), fun h => (numK_eq _ _).mpr (by simpa [putAll, AV.ren, rens, fren, nth, Chunk.ren, Cont.ren, DF.pk, JR.blk] using h2 h)⟩
end Go.Proofs.Ytjccknmgmommcaa.Sx

