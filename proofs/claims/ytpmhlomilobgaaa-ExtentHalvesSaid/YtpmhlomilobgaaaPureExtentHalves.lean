/- A set that is cut at a byte is both halves, which have no byte in common; a byte is in one of them just if it is in the set. -/
import Derived.Test.YtpmhlomilobgaaaExtY
set_option linter.unusedVariables false
set_option linter.unusedSimpArgs false
namespace Go.Proofs.Ytpmhlomilobgaaa.Pure
open Go.RowKit Go.Proofs.Ytpmhlomilobgaaa.PExt Go.Proofs.YtpmhlomilobgaaaW.PrintWords Go.Proofs.YtpmhlomilobgaaaW.PrintLast Go.Proofs.Ytpmhlomilobgaaa.ExtM Go.Proofs.Ytpmhlomilobgaaa.ExtP Go.Proofs.Ytpmhlomilobgaaa.Base
theorem halves_j0 (k : Nat) (s : List S65) (a1 a2 : Int) (b : Bool) (hk : 200000 < k) (hb : b = false → s.length ≤ 30 ∧ (∀ x ∈ s, Lit50 x) ∧ Lit50 ⟨a1, a2⟩) : fettlelaw03_ExtentHalves.j0 k s a1 a2 b = some true := by
  obtain ⟨k, rfl⟩ : ∃ m, k = m + 1 := ⟨k - 1, by omega⟩
  simp only [fettlelaw03_ExtentHalves.j0]
  cases b with
  | true => rw [if_pos rfl, joined_true (by omega), obind]
  | false =>
    obtain ⟨hs, hx, ha⟩ := hb rfl
    rw [if_neg (by simp), norm_eq (by simp) (by simp; omega), obind]
    have hl1 := normL_length [(⟨-4503599627370496, a1⟩ : S65)]
    have hl2 := normL_length [(⟨a1, 4503599627370496⟩ : S65)]
    simp only [List.length_cons, List.length_nil] at hl1 hl2
    have e1 : ∃ A, extent_Set_Meet.f s (normL [⟨-4503599627370496, a1⟩]) = some A ∧ NF A ∧ A.length ≤ 30 ∧ ∀ q, mem A q ↔ mem s q ∧ q < a1 := by
      show ∃ A, meetF s (normL [⟨-4503599627370496, a1⟩]) = some A ∧ _
      unfold meetF
      rw [if_pos ⟨by omega, by omega⟩]
      refine ⟨_, rfl, normL_nf _, ?_, fun q => ?_⟩
      · refine Nat.le_trans (normL_length _) ?_
        rw [ExtA.meetL_length]
        have h1 := normL_length s
        have h2 := normL_length (normL [(⟨-4503599627370496, a1⟩ : S65)])
        have := Nat.mul_le_mul (Nat.le_trans h1 hs) (Nat.le_trans h2 hl1)
        omega
      · rw [mem_normL, mem_meetL, mem_normL, mem_normL, mem_normL, mem_cons]
        constructor
        · rintro ⟨k1, k2 | k2⟩
          · exact ⟨k1, k2.2⟩
          · simp at k2
        · rintro ⟨k1, k2⟩
          obtain ⟨x, hxm, k3⟩ := k1
          have := hx x hxm
          refine ⟨⟨x, hxm, k3⟩, .inl ⟨?_, k2⟩⟩
          have h1 := k3.1
          have h2 := this.1
          show -4503599627370496 ≤ q
          omega
    have e2 : ∃ B, extent_Set_Meet.f s (normL [⟨a1, 4503599627370496⟩]) = some B ∧ NF B ∧ B.length ≤ 30 ∧ ∀ q, mem B q ↔ mem s q ∧ a1 ≤ q := by
      show ∃ B, meetF s (normL [⟨a1, 4503599627370496⟩]) = some B ∧ _
      unfold meetF
      rw [if_pos ⟨by omega, by omega⟩]
      refine ⟨_, rfl, normL_nf _, ?_, fun q => ?_⟩
      · refine Nat.le_trans (normL_length _) ?_
        rw [ExtA.meetL_length]
        have h1 := normL_length s
        have h2 := normL_length (normL [(⟨a1, 4503599627370496⟩ : S65)])
        have := Nat.mul_le_mul (Nat.le_trans h1 hs) (Nat.le_trans h2 hl2)
        omega
      · rw [mem_normL, mem_meetL, mem_normL, mem_normL, mem_normL, mem_cons]
        constructor
        · rintro ⟨k1, k2 | k2⟩
          · exact ⟨k1, k2.1⟩
          · simp at k2
        · rintro ⟨k1, k2⟩
          obtain ⟨x, hxm, k3⟩ := k1
          have := hx x hxm
          refine ⟨⟨x, hxm, k3⟩, .inl ⟨k2, ?_⟩⟩
          have h1 := k3.2
          have h2 := this.2.2.2
          show q < 4503599627370496
          omega
    obtain ⟨A, hA, hAn, hAl, hAm⟩ := e1
    obtain ⟨B, hB, hBn, hBl, hBm⟩ := e2
    rw [hA, obind, norm_eq (by simp) (by simp; omega), obind, hB, obind]
    obtain ⟨C, hC, hCn, hCm⟩ := meet_ok (a := A) (b := B) (by omega) (by omega)
    have hdis : ∀ q, ¬ (mem A q ∧ mem B q) := fun q ⟨k1, k2⟩ => by
      have h1 := ((hAm q).1 k1).2
      have h2 := ((hBm q).1 k2).2
      omega
    have hC0 : C = [] := NF.empty hCn fun q h => hdis q ((hCm q).1 h)
    rw [show extent_Set_Meet.f A B = some C from hC, obind, if_pos (by rw [hC0]; rfl), union_ok (by omega) (by omega) (by omega), obind, norm_eq (by omega) (by omega), obind]
    have hU : normL (A ++ B) = normL s := normL_congr fun q => by
      rw [mem_append, hAm q, hBm q]
      constructor
      · rintro (h | h)
        · exact h.1
        · exact h.1
      · intro h
        by_cases hq : q < a1
        · exact .inl ⟨h, hq⟩
        · exact .inr ⟨h, by omega⟩
    have hnl := normL_length s
    rw [hU, same_ok (by omega) (by omega), obind, if_pos rfl, bytes_ok (by omega), obind, bytes_ok (by omega), obind, bytes_ok (by omega), obind, normL_of_nf hAn, normL_of_nf hBn]
    have ht : wrap64 (wrap64 (tot A) + wrap64 (tot B)) = wrap64 (tot (normL s)) := by rw [wr_add, ← tot_two hAn hBn hdis, hU]
    rw [if_pos ht, phas_ok _ (by omega) (by omega), obind]
    have hor : mem s a2 ↔ mem A a2 ∨ mem B a2 := by
      rw [hAm, hBm]
      constructor
      · intro h
        by_cases hq : a2 < a1
        · exact .inl ⟨h, hq⟩
        · exact .inr ⟨h, by omega⟩
      · rintro (h | h)
        · exact h.1
        · exact h.1
    by_cases h1 : mem A a2
    · have h2 : ¬ mem B a2 := fun h => hdis a2 ⟨h1, h⟩
      rw [if_pos (decide_eq_true h1), phas_ok _ (by omega) (by omega), obind, decide_eq_true (hor.2 (.inl h1)), if_pos (show (true == true) = true from rfl), obind, if_pos (decide_eq_true h1), phas_ok _ (by omega) (by omega), obind, decide_eq_false h2]
      rfl
    · rw [if_neg (by simpa using h1), phas_ok _ (by omega) (by omega), obind, phas_ok _ (by omega) (by omega), obind]
      have e : decide (mem B a2) = decide (mem s a2) := decide_eq_decide.2 ⟨fun h => hor.2 (.inr h), fun h => (hor.1 h).elim (fun h => absurd h h1) id⟩
      rw [if_pos (by rw [e]; simp), obind, if_neg (by simpa using h1)]
      rfl
theorem ExtentHalves : fettlelaw03_ExtentHalves.Pure := by
  intro s a1 a2 hl _ _ _
  have hl2 : s.length < 9223372036854775808 := by simp only [maxLen] at hl; omega
  refine ⟨2 * s.length + 300000, ?_⟩
  unfold fettlelaw03_ExtentHalves.f
  rw [joined_true (by omega), obind, if_pos rfl]
  obtain ⟨b, h1, h2⟩ := near_ok (k := 2 * s.length + 300000) hl2 (by omega)
  rw [h1, obind]
  cases b with
  | false =>
    rw [if_neg (by simp)]
    exact halves_j0 _ s a1 a2 true (by omega) (fun h => by cases h)
  | true =>
    rw [if_pos rfl]
    obtain ⟨c, g1, g2⟩ := near_ok (l := [⟨a1, a2⟩]) (k := 2 * s.length + 300000) (by simp) (by simp)
    rw [g1, obind]
    refine halves_j0 _ s a1 a2 (!c) (by omega) (fun hc => ⟨(h2 rfl).1, (h2 rfl).2, ?_⟩)
    exact (g2 (by cases c <;> simp at hc ⊢)).2 _ (List.mem_cons_self ..)
end Go.Proofs.Ytpmhlomilobgaaa.Pure
