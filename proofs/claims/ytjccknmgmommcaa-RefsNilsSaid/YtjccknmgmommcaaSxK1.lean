import Derived.Test.YtjccknmgmommcaaSxP10
import Derived.Test.YtjccknmgmommcaaSxJ9
set_option linter.unusedVariables false
set_option linter.unusedSimpArgs false
set_option maxRecDepth 10000
namespace Go.Proofs.Ytjccknmgmommcaa.Sx
open Go.RowKit Go.Proofs.Ytjccknmgmommcaa.Sx.Tb
/-! ### The functions of the law JournalCrashes -/
theorem recsC_noF (rs : List RecR) : (recsC true rs).noF := fun j hj => ⟨trivial, ⟨rfl, trivial⟩, trivial⟩
/-- Noughts that the caller owns. -/
theorem zerosO_c (n : Int) (k : K) (h0 : 0 ≤ n ∧ n ≤ 1099511627776) (hk : ∀ z, z = List.replicate n.toNat 0 → k (.s 0 0 1 z.length z.length) [.blk 5 (.ints .u8 z) z.length]) : evFunc tab [] [] Go.Proofs.Try.f61 [.v (.int .i64 n)] [] k := by
  repeat' (first
 | (with_reducible first | exact True.intro | apply And.intro | apply If_true | apply If_false | apply If_not)
 | ((with_reducible apply VC.mk); (first | trivial | omega | (simp only [inR]; omega) | (exact ⟨rfl, List.prefix_rfl⟩) | (refine ⟨rfl, rfl, rfl, ?_, rfl⟩; (simp; done)) | (focus (repeat' (first | exact True.intro | apply And.intro | rfl | exact Nat.le_of_ble_eq_true rfl)); done) | (simp [inR, Cont.cells]; done) | (simp [inR, Cont.cells]; omega)))
 | ((with_reducible apply If_dec) <;> intro hc <;> (try (exfalso; omega)))
 | ((with_reducible apply If_any) <;> intro hc)
 | ((with_reducible first | apply PF.mk | apply DrawP.mk); (focus kernel_rfl))
 | ((with_reducible apply Same.mk); (focus rfl); (first | exact trivial | exact rfl))
 | (intro cap hcap)
 | ((fail_if_success (with_reducible first | apply Fin.mk | apply CallP.mk | apply LoopP.mk | apply VC.mk | apply falseMk | apply Round.mk | apply LookP.mk | apply RangeP.mk | apply NextP.mk | apply EntryP.mk | apply Eq.symm)); conv => whnf))
  have := hk _ rfl
  rw [List.length_replicate] at this
  rw [Nat.mul_one]
  exact Fin.same this
theorem zerosO_K : ConOk Go.Proofs.Try.prog 61 (Con.of Int (List Int) (fun n => [.v (.int .i64 n)]) (fun _ => []) (fun n => 0 ≤ n ∧ n ≤ 1099511627776) (fun n z => z = List.replicate n.toNat 0) (fun _ z => .s 0 0 1 z.length z.length) (fun _ z => [.blk 5 (.ints .u8 z) z.length])) := by
  refine conOk_rel (T := tab) mix Go.Proofs.Try.func61 (by decide +kernel) (by kernel_rfl) [] [] (fun n => by rw [Go.Proofs.Try.ntmps61]; exact Nat.le_of_ble_eq_true rfl) (fun n z _ _ => ⟨trivial, (fun c hc => by simp at hc; subst hc; exact .blk trivial), Nat.zero_le _⟩) (fun n _ c hc => by cases hc) (fun n k h0 hk => zerosO_c n k h0 (fun z hz => hk z hz))
theorem zerosO_at {avs : List AV} {H : List Chunk} {k : K} (n : Int) (h0 : 0 ≤ n ∧ n ≤ 1099511627776) (ha : argsM H [] [.v (.int .i64 n)] avs) (h : ∀ z, z = List.replicate n.toNat 0 → k (.s H.length 0 1 z.length z.length) (H ++ [.blk 5 (.ints .u8 z) z.length])) : CallP Go.Proofs.Try.prog 61 avs H k :=
  CallP.mk ⟨_, zerosO_K.real, Con.spec zerosO_K, n, [], ⟨h0, rfl, trivial, ha⟩, fun z hz => (numK_eq _ _).mpr (by simpa [putAll, AV.ren, rens, fren, nth, Chunk.ren, Cont.ren] using h z hz)⟩
theorem Fin.vl {u : Value} {H : List Chunk} {k : K} (hk : k (.v u) []) : Fin 0 (.v u) H k := Fin.ren [] [] (.v u) [] rfl rfl trivial trivial (VC.mk rfl) hk
end Go.Proofs.Ytjccknmgmommcaa.Sx

