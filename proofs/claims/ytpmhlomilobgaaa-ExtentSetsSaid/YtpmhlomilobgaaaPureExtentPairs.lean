/- What two sets have together, in common, and one alone, is what the chapter says. -/
import Derived.Test.YtpmhlomilobgaaaExtY
import Derived.Test.YtpmhlomilobgaaaPExtx11
set_option linter.unusedVariables false
set_option linter.unusedSimpArgs false
namespace Go.Proofs.Ytpmhlomilobgaaa.Pure
open Go.RowKit Go.Proofs.Ytpmhlomilobgaaa.PExt Go.Proofs.YtpmhlomilobgaaaW.PrintWords Go.Proofs.YtpmhlomilobgaaaW.PrintLast Go.Proofs.Ytpmhlomilobgaaa.ExtM Go.Proofs.Ytpmhlomilobgaaa.ExtP Go.Proofs.Ytpmhlomilobgaaa.Base
theorem meetS {a b : List S65} (ha : a.length ≤ 1000000) (hb : b.length ≤ 1000000) : ∃ L, extent_Set_Meet.f a b = some L ∧ NF L ∧ (∀ q, mem L q ↔ mem a q ∧ mem b q) ∧ L.length ≤ a.length * b.length := by
  show ∃ L, meetF a b = some L ∧ _
  unfold meetF
  rw [if_pos ⟨ha, hb⟩]
  refine ⟨_, rfl, normL_nf _, fun q => by rw [mem_normL, mem_meetL, mem_normL, mem_normL], ?_⟩
  refine Nat.le_trans (normL_length _) ?_
  rw [ExtA.meetL_length]
  exact Nat.mul_le_mul (normL_length a) (normL_length b)
theorem minusS {a b : List S65} (ha : a.length ≤ 1000000) (hb : b.length ≤ 1000000) : ∃ L, extent_Set_Minus.f a b = some L ∧ NF L ∧ (∀ q, mem L q ↔ mem a q ∧ ¬ mem b q) ∧ L.length ≤ a.length * (b.length + 1) := by
  show ∃ L, minusF a b = some L ∧ _
  unfold minusF
  rw [if_pos ⟨ha, hb⟩]
  refine ⟨_, rfl, normL_nf _, fun q => by rw [mem_normL, mem_minusL (normL_nf b), mem_normL, mem_normL], ?_⟩
  refine Nat.le_trans (normL_length _) (Nat.le_trans (ExtA.minusL_length _ _) ?_)
  exact Nat.mul_le_mul (normL_length a) (Nat.succ_le_succ (normL_length b))
theorem pairs_j0 (k : Nat) (a b : List S65) (x : Bool) (hk : 20000 < k) (hx : x = false → a.length ≤ 30 ∧ b.length ≤ 30) : fettlelaw03_ExtentPairs.j0 k a b x = some true := by
  obtain ⟨k, rfl⟩ : ∃ m, k = m + 1 := ⟨k - 1, by omega⟩
  simp only [fettlelaw03_ExtentPairs.j0]
  cases x with
  | true => rw [if_pos rfl, joined_true (by omega), obind]
  | false =>
    obtain ⟨ha, hb⟩ := hx rfl
    rw [if_neg (by simp), joined_true (by omega), obind, if_pos rfl]
    obtain ⟨L0, h01, h02, h03, h04⟩ := meetS (a := a) (b := b) (by omega) (by omega)
    obtain ⟨M0, g01, g02, g03⟩ := both_ok (a := a) (b := b) (k := k) 0 (by simp) (by omega) (by omega) (by omega)
    have e0 : L0 = M0 := len_iff h02 g02 fun q => by rw [h03 q, g03 q, bothP0]
    subst e0
    have hl0 := Nat.le_trans h04 (Nat.mul_le_mul ha hb)
    rw [h01, obind, g01, obind, same_ok (by omega) (by omega), obind, if_pos rfl]
    obtain ⟨L1, h11, h12, h13, h14⟩ := minusS (a := a) (b := b) (by omega) (by omega)
    obtain ⟨M1, g11, g12, g13⟩ := both_ok (a := a) (b := b) (k := k) 1 (by simp) (by omega) (by omega) (by omega)
    have e1 : L1 = M1 := len_iff h12 g12 fun q => by rw [h13 q, g13 q, bothP1]
    subst e1
    have hl1 := Nat.le_trans h14 (Nat.mul_le_mul ha (Nat.succ_le_succ hb))
    rw [h11, obind, g11, obind, same_ok (by omega) (by omega), obind, if_pos rfl, union_ok (by omega) (by omega) (by omega), obind]
    obtain ⟨M2, g21, g22, g23⟩ := both_ok (a := a) (b := b) (k := k) 2 (by simp) (by omega) (by omega) (by omega)
    have e2 : normL (a ++ b) = M2 := len_iff (normL_nf _) g22 fun q => by rw [mem_normL, mem_append, g23 q, bothP2]
    have hl2 := normL_length (a ++ b)
    rw [List.length_append, e2] at hl2
    rw [e2, g21, obind, same_ok (by omega) (by omega), obind, if_pos rfl]
    unfold extent_Set_Within.f
    rw [h11, obind, obind, obind]
    simp
theorem ExtentPairs : fettlelaw03_ExtentPairs.Pure := by
  intro a b hla _ hlb _
  have hl2 : a.length < 9223372036854775808 := by simp only [maxLen] at hla; omega
  have hl3 : b.length < 9223372036854775808 := by simp only [maxLen] at hlb; omega
  refine ⟨a.length + b.length + 30000, ?_⟩
  unfold fettlelaw03_ExtentPairs.f
  obtain ⟨x, h1, h2⟩ := light_ok (k := a.length + b.length + 30000) hl2 (by omega)
  rw [h1, obind]
  cases x with
  | false =>
    rw [if_neg (by simp)]
    exact pairs_j0 _ a b true (by omega) (fun h => by cases h)
  | true =>
    rw [if_pos rfl]
    obtain ⟨y, g1, g2⟩ := light_ok (k := a.length + b.length + 30000) hl3 (by omega)
    rw [g1, obind]
    exact pairs_j0 _ a b (!y) (by omega) (fun hy => ⟨(h2 rfl).1, (g2 (by cases y <;> simp at hy ⊢)).1⟩)
end Go.Proofs.Ytpmhlomilobgaaa.Pure
