/- What is handed in isn't changed. -/
import Derived.Test.YtpmhlomilobgaaaExtK
import Derived.Test.YtpmhlomilobgaaaExtV
set_option linter.unusedVariables false
set_option linter.unusedSimpArgs false
namespace Go.Proofs.Ytpmhlomilobgaaa.Pure
open Go.RowKit Go.Proofs.Ytpmhlomilobgaaa.PExt Go.Proofs.YtpmhlomilobgaaaW.PrintWords Go.Proofs.YtpmhlomilobgaaaW.PrintLast Go.Proofs.Ytpmhlomilobgaaa.ExtM Go.Proofs.Ytpmhlomilobgaaa.ExtP Go.Proofs.Ytpmhlomilobgaaa.Base
theorem meet_some {a b : List S65} (ha : a.length ≤ 1000000) (hb : b.length ≤ 1000000) : ∃ L, extent_Set_Meet.f a b = some L := by
  show ∃ L, meetF a b = some L
  unfold meetF
  rw [if_pos ⟨ha, hb⟩]
  exact ⟨_, rfl⟩
theorem minus_some {a b : List S65} (ha : a.length ≤ 1000000) (hb : b.length ≤ 1000000) : ∃ L, extent_Set_Minus.f a b = some L := by
  show ∃ L, minusF a b = some L
  unfold minusF
  rw [if_pos ⟨ha, hb⟩]
  exact ⟨_, rfl⟩
theorem moved_l0 (x : List S65) (hx : x.length ≤ 1000) : ∀ (m k i : Nat) (z : List S65), x.length - i = m → i ≤ x.length → z.length ≤ i → m + 2000 < k → ∃ L, extent_Set_Moved.l0 k 1 z x (x.length : Int) (i : Int) = some L
  | 0, k, i, z, hm, hi, hz, hk => by
    obtain ⟨k, rfl⟩ : ∃ m, k = m + 1 := ⟨k - 1, by omega⟩
    simp only [extent_Set_Moved.l0]
    rw [if_neg (by omega), norm_eq (by omega) (by omega), obind]
    exact ⟨_, rfl⟩
  | m + 1, k, i, z, hm, hi, hz, hk => by
    obtain ⟨k, rfl⟩ : ∃ m, k = m + 1 := ⟨k - 1, by omega⟩
    simp only [extent_Set_Moved.l0]
    rw [if_pos (by omega), if_pos (by omega), if_pos (by omega), if_pos (by omega), show wrap64 ((i : Int) + 1) = ((i + 1 : Nat) : Int) by unfold wrap64; omega]
    exact moved_l0 x hx m k (i + 1) _ (by omega) (by omega) (by simp; omega) (by omega)
theorem keeps_j0 (k : Nat) (a b : List S65) (x : Bool) (hk : 20000 < k) (hx : x = false → a.length ≤ 30 ∧ b.length ≤ 30) : fettlelaw03_ExtentKeeps.j0 k a b x = some true := by
  obtain ⟨k, rfl⟩ : ∃ m, k = m + 1 := ⟨k - 1, by omega⟩
  simp only [fettlelaw03_ExtentKeeps.j0]
  cases x with
  | true => rw [if_pos rfl, joined_true (by omega), obind]
  | false =>
    obtain ⟨ha, hb⟩ := hx rfl
    have e1 : (([] : List S65) ++ a ++ [(⟨7, 8⟩ : S65)]).take ((a.length : Int)).toNat = a := by simp
    rw [if_neg (by simp), obind, if_pos (by simp; omega), obind, if_pos (by simp; omega), obind, if_pos (by omega), if_pos (by simp; omega), obind, obind, if_pos (by simp; omega), obind, e1, List.nil_append]
    obtain ⟨M1, h1⟩ := minus_some (a := a) (b := b) (by omega) (by omega)
    obtain ⟨M2, h2⟩ := meet_some (a := a) (b := b) (by omega) (by omega)
    obtain ⟨M3, h3⟩ := moved_l0 a (by omega) a.length k 0 [] (by omega) (by omega) (by simp) (by omega)
    rw [norm_eq (by omega) (by omega), obind, union_ok (by omega) (by omega) (by omega), obind, h1, obind, h2, obind]
    unfold extent_Set_Moved.f
    rw [show (0 : Int) = ((0 : Nat) : Int) from rfl, h3, obind, same_ok (by omega) (by omega), obind, if_pos rfl, same_ok (by omega) (by omega), obind, if_pos rfl]
    have hw : wrap64 ((a.length : Int) + 1) = ((a.length + 1 : Nat) : Int) := by unfold wrap64; omega
    rw [hw, if_pos (by omega), if_pos (by simp), obind]
    have e2 : (a ++ [(⟨7, 8⟩ : S65)]).take (((a.length + 1 : Nat) : Int)).toNat = a ++ [(⟨7, 8⟩ : S65)] := by
      rw [Int.toNat_natCast]
      exact List.take_of_length_le (by simp)
    have e3 : rd_T65 (a ++ [(⟨7, 8⟩ : S65)]) (a.length : Int) = ⟨7, 8⟩ := by simp [rd_T65]
    rw [List.nil_append, e2, if_pos (by simp; omega), e3]
    rfl
theorem ExtentKeeps : fettlelaw03_ExtentKeeps.Pure := by
  intro a b hla _ hlb _
  have hl2 : a.length < 9223372036854775808 := by simp only [maxLen] at hla; omega
  have hl3 : b.length < 9223372036854775808 := by simp only [maxLen] at hlb; omega
  refine ⟨a.length + b.length + 30000, ?_⟩
  unfold fettlelaw03_ExtentKeeps.f
  rw [joined_true (by omega), obind, if_pos rfl]
  obtain ⟨x, h1, h2⟩ := light_ok (k := a.length + b.length + 30000) hl2 (by omega)
  rw [h1, obind]
  cases x with
  | false =>
    rw [if_neg (by simp)]
    exact keeps_j0 _ a b true (by omega) (fun h => by cases h)
  | true =>
    rw [if_pos rfl]
    obtain ⟨y, g1, g2⟩ := light_ok (k := a.length + b.length + 30000) hl3 (by omega)
    rw [g1, obind]
    exact keeps_j0 _ a b (!y) (by omega) (fun h => ⟨(h2 rfl).1, (g2 (by simpa using h)).1⟩)
end Go.Proofs.Ytpmhlomilobgaaa.Pure
