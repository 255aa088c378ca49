import Derived.Test.YtjccknmgmommcaaSxF2
set_option linter.unusedVariables false
set_option linter.unusedSimpArgs false
set_option maxRecDepth 10000
namespace Go.Proofs.Ytjccknmgmommcaa.Sx
open Go.RowKit Go.Proofs.Ytjccknmgmommcaa.Sx.Tb
theorem same_c (l m : List Int) (k : K) (hk : k (.v (.bool (decide (strOf l = strOf m)))) []) : evFunc tab [] [] Go.Proofs.Try.f24 [.im false 1 l.length (.ints .u8 l), .im false 1 m.length (.ints .u8 m)] [] k := by
  repeat' (first
 | (with_reducible first | exact True.intro | apply And.intro | apply If_true | apply If_false | apply If_not)
 | ((with_reducible apply VC.mk); (first | trivial | omega | (simp only [inR]; omega) | (exact ⟨rfl, List.prefix_rfl⟩) | (refine ⟨rfl, rfl, rfl, ?_, rfl⟩; (simp; done)) | (focus (repeat' (first | exact True.intro | apply And.intro | rfl | exact Nat.le_of_ble_eq_true rfl)); done) | (simp [inR, Cont.cells]; done) | (simp [inR, Cont.cells]; omega)))
 | ((with_reducible apply If_dec) <;> intro hc <;> (try (exfalso; omega)))
 | ((with_reducible apply If_any) <;> intro hc)
 | ((with_reducible first | apply PF.mk | apply DrawP.mk); (focus kernel_rfl))
 | ((with_reducible apply Same.mk); (focus rfl); (first | exact trivial | exact rfl))
 | (intro cap hcap)
 | ((fail_if_success (with_reducible first | apply Fin.mk | apply CallP.mk | apply LoopP.mk | apply VC.mk | apply falseMk | apply Round.mk | apply Eq.symm)); conv => whnf))
  exact Fin.same hk
theorem same_K : ConOk Go.Proofs.Try.prog 24 (Con.fn (List Int × List Int) (fun (l, m) => [.im false 1 l.length (.ints .u8 l), .im false 1 m.length (.ints .u8 m)]) (fun _ => []) (fun _ => True) (fun (l, m) => .v (.bool (decide (strOf l = strOf m)))) (fun _ => [])) :=
  conOk_fn (T := tab) mix Go.Proofs.Try.func24 (by decide +kernel) (by kernel_rfl) [] [] (fun n => by rw [Go.Proofs.Try.ntmps24]; exact Nat.le_of_ble_eq_true rfl) (fun n _ => ⟨trivial, (fun c hc => by cases hc), Nat.le_refl _⟩) (fun n _ c hc => by cases hc) (fun (l, m) k _ hk => same_c l m k hk)
theorem same_at {avs : List AV} {H : List Chunk} {k : K} (l m : List Int) (ha : argsM H [] [.im false 1 l.length (.ints .u8 l), .im false 1 m.length (.ints .u8 m)] avs) (h : k (.v (.bool (decide (strOf l = strOf m)))) H) : CallP Go.Proofs.Try.prog 24 avs H k :=
  CallP.mk ⟨_, same_K.real, Con.spec same_K, (l, m), [], ⟨trivial, rfl, trivial, ha⟩, (numK_eq H.length (fun N => k (AV.ren (fren [] N) (.v (.bool (decide (strOf l = strOf m))))) (putAll H [] []))).mpr (by simpa [putAll, AV.ren] using h)⟩
/-- What an operation makes of a file. -/
def DF.Did (s : DF) (o : OpR) (s' : DF) : Prop :=
  (o.kind = 1 ∧ s' = s.asked) ∨
  (o.kind = 2 ∧ (s.refused ∧ s' = s.asked ∨ ¬ s.refused ∧ o.pos < 0 ∧ s' = s.asked ∨ ¬ s.refused ∧ 0 ≤ o.pos ∧ 4194304 - o.pos < o.b.length ∧ s' = s.asked ∨ ¬ s.refused ∧ 0 ≤ o.pos ∧ o.b.length ≤ 4194304 - o.pos ∧ s' = s.wrote1 o.pos o.b)) ∨
  (o.kind = 3 ∧ (s.refused ∧ s' = s.asked ∨ ¬ s.refused ∧ ¬ (0 ≤ o.n ∧ o.n ≤ 4194304) ∧ s' = s.asked ∨ ¬ s.refused ∧ 0 ≤ o.n ∧ o.n ≤ 4194304 ∧ s' = s.cutTo o.n)) ∨
  (o.kind = 4 ∧ (s.refused ∧ s' = s.asked ∨ ¬ s.refused ∧ s' = s.flushed)) ∨
  (¬ (1 ≤ o.kind ∧ o.kind ≤ 4) ∧ s' = s)
def doneOk (s : DF) (m : RF) (n : Int) (o : OpR) : Prop := (0 ≤ s.ops ∧ s.ops ≤ 1099511627776 ∧ 0 ≤ s.wrote ∧ s.wrote ≤ 1099511627776 ∧ s.items.length ≤ 1099511627776 ∧ s.now.length ≤ 4194304) ∧ (m.Ok n ∧ n ≤ 549755813888) ∧ o.b.length ≤ 4194304 ∧ o.kind ≤ 4
theorem RF.OkM {s : RF} {n m : Int} (h : s.Ok n) (hm : n ≤ m) : s.Ok m := ⟨h.safe, h.its, by have := h.len; omega, by have := h.ops; omega, by have := h.wrote; omega⟩
end Go.Proofs.Ytjccknmgmommcaa.Sx

