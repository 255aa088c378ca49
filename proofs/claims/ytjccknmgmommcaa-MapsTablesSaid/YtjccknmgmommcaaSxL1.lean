import Derived.Test.YtjccknmgmommcaaSxDisk
set_option linter.unusedVariables false
set_option linter.unusedSimpArgs false
set_option maxRecDepth 10000
namespace Go.Proofs.Ytjccknmgmommcaa.Sx
open Go.RowKit Go.Proofs.Ytjccknmgmommcaa.Sx.Tb
theorem zeros_c (n : Int) (k : K) (h0 : 0 ≤ n ∧ n ≤ 1099511627776) (hk : k (.im true 1 n.toNat (.ints .u8 (List.replicate n.toNat 0))) []) : evFunc tab [] [] Go.Proofs.Try.f61 [.v (.int .i64 n)] [] k := by
  repeat' (first
 | (with_reducible first | exact True.intro | apply And.intro | apply If_true | apply If_false | apply If_not)
 | ((with_reducible apply VC.mk); (first | trivial | omega | (simp only [inR]; omega) | (exact ⟨rfl, List.prefix_rfl⟩) | (refine ⟨rfl, rfl, rfl, ?_, rfl⟩; (simp; done)) | (focus (repeat' (first | exact True.intro | apply And.intro | rfl | exact Nat.le_of_ble_eq_true rfl)); done) | (simp [inR, Cont.cells]; done) | (simp [inR, Cont.cells]; omega)))
 | ((with_reducible apply If_dec) <;> intro hc <;> (try (exfalso; omega)))
 | ((with_reducible apply If_any) <;> intro hc)
 | ((with_reducible first | apply PF.mk | apply DrawP.mk); (focus kernel_rfl))
 | ((with_reducible apply Same.mk); (focus rfl); (first | exact trivial | exact rfl))
 | (intro cap hcap)
 | ((fail_if_success (with_reducible first | apply Fin.mk | apply CallP.mk | apply LoopP.mk | apply VC.mk | apply falseMk | apply Round.mk | apply LookP.mk | apply RangeP.mk | apply NextP.mk | apply EntryP.mk | apply Eq.symm)); conv => whnf))
  refine Fin.ren [] [0] _ [] rfl rfl ⟨trivial, trivial⟩ trivial ?_ hk
  repeat' (first
 | (with_reducible first | exact True.intro | apply And.intro | apply If_true | apply If_false | apply If_not)
 | ((with_reducible apply VC.mk); (first | trivial | omega | (simp only [inR]; omega) | (exact ⟨rfl, List.prefix_rfl⟩) | (refine ⟨rfl, rfl, rfl, ?_, rfl⟩; (simp; done)) | (focus (repeat' (first | exact True.intro | apply And.intro | rfl | exact Nat.le_of_ble_eq_true rfl)); done) | (simp [inR, Cont.cells]; done) | (simp [inR, Cont.cells]; omega)))
 | ((with_reducible apply If_dec) <;> intro hc <;> (try (exfalso; omega)))
 | ((with_reducible apply If_any) <;> intro hc)
 | ((with_reducible first | apply PF.mk | apply DrawP.mk); (focus kernel_rfl))
 | ((with_reducible apply Same.mk); (focus rfl); (first | exact trivial | exact rfl))
 | (intro cap hcap)
 | ((fail_if_success (with_reducible first | apply Fin.mk | apply CallP.mk | apply LoopP.mk | apply VC.mk | apply falseMk | apply Round.mk | apply LookP.mk | apply RangeP.mk | apply NextP.mk | apply EntryP.mk | apply Eq.symm)); conv => whnf))
  all_goals exact VC.mk ⟨rfl, by simp⟩
theorem zeros_K : ConOk Go.Proofs.Try.prog 61 (Con.of Int (List Int) (fun n => [.v (.int .i64 n)]) (fun _ => []) (fun n => 0 ≤ n ∧ n ≤ 1099511627776) (fun n z => z = List.replicate n.toNat 0) (fun _ z => .im true 1 z.length (.ints .u8 z)) (fun _ _ => [])) := by
  refine conOk_rel (T := tab) mix Go.Proofs.Try.func61 (by decide +kernel) (by kernel_rfl) [] [] (fun n => by rw [Go.Proofs.Try.ntmps61]; exact Nat.le_of_ble_eq_true rfl) (fun n z _ _ => ⟨⟨rfl, trivial⟩, (fun c hc => by cases hc), Nat.le_refl _⟩) (fun n _ c hc => by cases hc) (fun n k h0 hk => zeros_c n k h0 ?_)
  have := hk _ rfl
  rwa [List.length_replicate] at this
theorem zeros_at {avs : List AV} {H : List Chunk} {k : K} (n : Int) (h0 : 0 ≤ n ∧ n ≤ 1099511627776) (ha : argsM H [] [.v (.int .i64 n)] avs) (h : ∀ z, z = List.replicate n.toNat 0 → k (.im true 1 z.length (.ints .u8 z)) H) : CallP Go.Proofs.Try.prog 61 avs H k :=
  CallP.mk ⟨_, zeros_K.real, Con.spec zeros_K, n, [], ⟨h0, rfl, trivial, ha⟩, fun z hz => (numK_eq _ _).mpr (by simpa [putAll, AV.ren, Cont.ren] using h z hz)⟩
theorem Fin.bool {b : Bool} {H : List Chunk} {k : K} (h : b = true) (hk : k (.v (.bool true)) []) : Fin 0 (.v (.bool b)) H k := by
  subst h
  exact Fin.ren [] [] (.v (.bool true)) [] rfl rfl trivial trivial (VC.mk rfl) hk
/-- An operation of a law. -/
structure OpR where
  kind : Int
  pos : Int
  n : Int
  b : List Int
def OpR.z : OpR := ⟨0, 0, 0, []⟩
def OpR.light (o : OpR) : Prop := o.b.length ≤ 1500 ∧ ¬ (6000 < o.pos ∧ o.pos ≤ 4194304) ∧ ¬ (6000 < o.n ∧ o.n ≤ 4194304 ∧ o.kind = 3)
end Go.Proofs.Ytjccknmgmommcaa.Sx

