/- Sets go together as sets do. -/
import Derived.Test.YtpmhlomilobgaaaPureExtentPairs
import Derived.Test.YtpmhlomilobgaaaPExtx12
set_option linter.unusedVariables false
set_option linter.unusedSimpArgs false
namespace Go.Proofs.Ytpmhlomilobgaaa.Pure
open Go.RowKit Go.Proofs.Ytpmhlomilobgaaa.PExt Go.Proofs.YtpmhlomilobgaaaW.PrintWords Go.Proofs.YtpmhlomilobgaaaW.PrintLast Go.Proofs.Ytpmhlomilobgaaa.ExtM Go.Proofs.Ytpmhlomilobgaaa.ExtP Go.Proofs.Ytpmhlomilobgaaa.Base
theorem withinS {a b : List S65} (ha : a.length ≤ 1000000) (hb : b.length ≤ 1000000) (h : ∀ q, mem a q → mem b q) : extent_Set_Within.f a b = some true := by
  unfold extent_Set_Within.f
  obtain ⟨L, h1, h2, h3, _⟩ := minusS ha hb
  have : L = [] := NF.empty h2 fun q hq => ((h3 q).1 hq).2 (h q ((h3 q).1 hq).1)
  rw [h1, obind, this]
  rfl
theorem sets_j2 (k : Nat) (x y z : List S65) (hk : 20000 < k) (hx : x.length ≤ 30) (hy : y.length ≤ 30) (hz : z.length ≤ 30) : fettlelaw03_ExtentSets.j2 k x y z false = some true := by
  obtain ⟨k, rfl⟩ : ∃ m, k = m + 1 := ⟨k - 1, by omega⟩
  simp only [fettlelaw03_ExtentSets.j2]
  have hU : ∀ q, mem (normL (y ++ z)) q ↔ mem y q ∨ mem z q := fun q => by rw [mem_normL, mem_append]
  have hUl := normL_length (y ++ z)
  rw [List.length_append] at hUl
  rw [if_neg (by simp), union_ok (by omega) (by omega) (by omega), obind]
  obtain ⟨E1, h11, h12, h13, h14⟩ := minusS (a := x) (b := normL (y ++ z)) (by omega) (by omega)
  obtain ⟨D, h21, h22, h23, h24⟩ := minusS (a := x) (b := y) (by omega) (by omega)
  have hDl := Nat.le_trans h24 (Nat.mul_le_mul hx (Nat.succ_le_succ hy))
  obtain ⟨E2, h31, h32, h33, h34⟩ := minusS (a := D) (b := z) (by omega) (by omega)
  have e1 : E1 = E2 := len_iff h12 h32 fun q => by
    rw [h13 q, h33 q, h23 q, hU q]
    constructor
    · rintro ⟨k1, k2⟩
      exact ⟨⟨k1, fun h => k2 (.inl h)⟩, fun h => k2 (.inr h)⟩
    · rintro ⟨⟨k1, k2⟩, k3⟩
      exact ⟨k1, fun h => h.elim k2 k3⟩
  subst e1
  have hE := Nat.le_trans h14 (Nat.mul_le_mul hx (Nat.succ_le_succ (Nat.le_trans hUl (Nat.add_le_add hy hz))))
  rw [h11, obind, h21, obind, h31, obind, same_ok (by omega) (by omega), obind, if_pos rfl, obind]
  obtain ⟨F1, g11, g12, g13, g14⟩ := meetS (a := x) (b := normL (y ++ z)) (by omega) (by omega)
  obtain ⟨I, g21, g22, g23, g24⟩ := meetS (a := x) (b := y) (by omega) (by omega)
  obtain ⟨J, g31, g32, g33, g34⟩ := meetS (a := x) (b := z) (by omega) (by omega)
  have hI := Nat.le_trans g24 (Nat.mul_le_mul hx hy)
  have hJ := Nat.le_trans g34 (Nat.mul_le_mul hx hz)
  have hF := Nat.le_trans g14 (Nat.mul_le_mul hx (Nat.le_trans hUl (Nat.add_le_add hy hz)))
  have e2 : F1 = normL (I ++ J) := len_iff g12 (normL_nf _) fun q => by
    rw [g13 q, hU q, mem_normL, mem_append, g23 q, g33 q]
    constructor
    · rintro ⟨k1, k2 | k2⟩
      · exact .inl ⟨k1, k2⟩
      · exact .inr ⟨k1, k2⟩
    · rintro (⟨k1, k2⟩ | ⟨k1, k2⟩)
      · exact ⟨k1, .inl k2⟩
      · exact ⟨k1, .inr k2⟩
  rw [g11, obind, g21, obind, g31, obind, union_ok (by omega) (by omega) (by omega), obind, ← e2, same_ok (by omega) (by omega), obind]
theorem sets_j1 (k : Nat) (x y z : List S65) (hk : 20001 < k) (hx : x.length ≤ 30) (hy : y.length ≤ 30) (hz : z.length ≤ 30) : fettlelaw03_ExtentSets.j1 k x y z false = some true := by
  obtain ⟨k, rfl⟩ : ∃ m, k = m + 1 := ⟨k - 1, by omega⟩
  simp only [fettlelaw03_ExtentSets.j1]
  obtain ⟨D, h21, h22, h23, h24⟩ := minusS (a := x) (b := y) (by omega) (by omega)
  obtain ⟨I, g21, g22, g23, g24⟩ := meetS (a := x) (b := y) (by omega) (by omega)
  have hDl := Nat.le_trans h24 (Nat.mul_le_mul hx (Nat.succ_le_succ hy))
  have hI := Nat.le_trans g24 (Nat.mul_le_mul hx hy)
  have hU : normL (D ++ I) = normL x := normL_congr fun q => by
    rw [mem_append, h23 q, g23 q]
    constructor
    · rintro (h | h)
      · exact h.1
      · exact h.1
    · intro h
      by_cases hq : mem y q
      · exact .inr ⟨h, hq⟩
      · exact .inl ⟨h, hq⟩
  have ht : wrap64 (wrap64 (tot D) + wrap64 (tot I)) = wrap64 (tot (normL x)) := by
    rw [wr_add, ← tot_two h22 g22 (fun q k => ((h23 q).1 k.1).2 ((g23 q).1 k.2).2), hU]
  have hUl := normL_length (x ++ y)
  rw [List.length_append] at hUl
  rw [if_neg (by simp), h21, obind, bytes_ok (by omega), obind, g21, obind, bytes_ok (by omega), obind, bytes_ok (by omega), obind, normL_of_nf h22, normL_of_nf g22, if_pos ht, obind,
    withinS (by omega) (by omega) (fun q h => ((g23 q).1 h).1), obind, if_pos rfl, union_ok (by omega) (by omega) (by omega), obind,
    withinS (by omega) (by omega) (fun q h => by rw [mem_normL, mem_append]; exact .inl h), obind]
  exact sets_j2 k x y z (by omega) hx hy hz
theorem sets_j0 (k : Nat) (x y z : List S65) (b : Bool) (hk : 20002 < k) (h : b = false → x.length ≤ 30 ∧ y.length ≤ 30 ∧ z.length ≤ 30) : fettlelaw03_ExtentSets.j0 k x y z b = some true := by
  obtain ⟨k, rfl⟩ : ∃ m, k = m + 1 := ⟨k - 1, by omega⟩
  simp only [fettlelaw03_ExtentSets.j0]
  cases b with
  | true => rw [if_pos rfl, joined_true (by omega), obind]
  | false =>
    obtain ⟨hx, hy, hz⟩ := h rfl
    obtain ⟨D, h21, h22, h23, h24⟩ := minusS (a := x) (b := y) (by omega) (by omega)
    obtain ⟨I, g21, g22, g23, g24⟩ := meetS (a := x) (b := y) (by omega) (by omega)
    have hDl := Nat.le_trans h24 (Nat.mul_le_mul hx (Nat.succ_le_succ hy))
    have hI := Nat.le_trans g24 (Nat.mul_le_mul hx hy)
    have hU : normL (D ++ I) = normL x := normL_congr fun q => by
      rw [mem_append, h23 q, g23 q]
      constructor
      · rintro (h | h)
        · exact h.1
        · exact h.1
      · intro h
        by_cases hq : mem y q
        · exact .inr ⟨h, hq⟩
        · exact .inl ⟨h, hq⟩
    have hnl := normL_length x
    obtain ⟨C, c1, c2, c3, _⟩ := meetS (a := D) (b := y) (by omega) (by omega)
    have hC : C = [] := NF.empty c2 fun q hq => ((h23 q).1 ((c3 q).1 hq).1).2 ((c3 q).1 hq).2
    rw [if_neg (by simp), h21, obind, g21, obind, union_ok (by omega) (by omega) (by omega), obind, norm_eq (by omega) (by omega), obind, hU, same_ok (by omega) (by omega), obind, if_pos rfl, obind, c1, obind, hC]
    exact sets_j1 k x y z (by omega) hx hy hz
theorem ExtentSets : fettlelaw03_ExtentSets.Pure := by
  intro a b c hla _ hlb _ hlc _
  have ha : a.length < 9223372036854775808 := by simp only [maxLen] at hla; omega
  have hb : b.length < 9223372036854775808 := by simp only [maxLen] at hlb; omega
  have hc : c.length < 9223372036854775808 := by simp only [maxLen] at hlc; omega
  refine ⟨2 * (a.length + b.length + c.length) + 30000, ?_⟩
  unfold fettlelaw03_ExtentSets.f
  rw [joined_true (by omega), obind, if_pos rfl]
  obtain ⟨x, h1, h2⟩ := near_ok (k := 2 * (a.length + b.length + c.length) + 30000) ha (by omega)
  obtain ⟨y, g1, g2⟩ := near_ok (k := 2 * (a.length + b.length + c.length) + 30000) hb (by omega)
  obtain ⟨z, f1, f2⟩ := near_ok (k := 2 * (a.length + b.length + c.length) + 30000) hc (by omega)
  rw [h1, obind]
  cases x with
  | false => rw [if_neg (by simp)]; exact sets_j0 _ a b c true (by omega) (fun h => by cases h)
  | true =>
    rw [if_pos rfl, g1, obind]
    cases y with
    | false => rw [if_neg (by simp)]; exact sets_j0 _ a b c true (by omega) (fun h => by cases h)
    | true =>
      rw [if_pos rfl, f1, obind]
      exact sets_j0 _ a b c (!z) (by omega) (fun hz => ⟨(h2 rfl).1, (g2 rfl).1, (f2 (by cases z <;> simp at hz ⊢)).1⟩)
end Go.Proofs.Ytpmhlomilobgaaa.Pure
