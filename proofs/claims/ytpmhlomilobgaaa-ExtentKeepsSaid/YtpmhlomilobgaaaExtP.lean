/- The reference's functions for sets of numbers: what they come to. Plain lists. -/
import Derived.Test.YtpmhlomilobgaaaBase
import Derived.Test.YtpmhlomilobgaaaExtM
import Derived.Test.YtpmhlomilobgaaaPExtx6
set_option linter.unusedVariables false
set_option linter.unusedSimpArgs false
namespace Go.Proofs.Ytpmhlomilobgaaa.ExtP
open Go.RowKit Go.Proofs.Ytpmhlomilobgaaa.PExt Go.Proofs.YtpmhlomilobgaaaW.PrintWords Go.Proofs.Ytpmhlomilobgaaa.ExtM Go.Proofs.Ytpmhlomilobgaaa.Base

theorem w1 (i : Nat) (h : i < 9223372036854775807) : wrap64 ((i : Int) + 1) = ((i + 1 : Nat) : Int) := by unfold wrap64; omega
theorem rdT (l : List S65) (i : Nat) (h : i < l.length) : rd_T65 l (i : Int) = l[i] := by simp [rd_T65, h]
theorem rdI (l : List Int) (i : Nat) (h : i < l.length) : rd l (i : Int) = l[i] := by simp [rd, h]

/-! ### Same -/
theorem same_l (l : List S65) (hl : l.length < 9223372036854775808) : ∀ (k i : Nat), i ≤ l.length → l.length - i < k → fettleref03_Same.l0 k l l (i : Int) = some true
  | 0, i, _, h => by omega
  | k + 1, i, hi, h => by
    simp only [fettleref03_Same.l0]
    by_cases hlt : i < l.length
    · rw [if_pos (by omega), if_pos (by omega), if_pos (by omega), if_neg (by simp), w1 i (by omega)]
      exact same_l l hl k (i + 1) (by omega) (by omega)
    · rw [if_neg (by omega)]
theorem same_ok {l : List S65} {k : Nat} (hl : l.length < 9223372036854775808) (hk : l.length < k) : fettleref03_Same.f k l l = some true := by
  unfold fettleref03_Same.f
  rw [if_pos rfl]
  exact same_l l hl k 0 (Nat.zero_le _) hk

/-! ### light, near -/
def Lit60 (x : S65) : Prop := -1152921504606846976 ≤ x.f0 ∧ x.f0 ≤ 1152921504606846976 ∧ -1152921504606846976 ≤ x.f1 ∧ x.f1 ≤ 1152921504606846976
def Lit50 (x : S65) : Prop := -1125899906842624 ≤ x.f0 ∧ x.f0 ≤ 1125899906842624 ∧ -1125899906842624 ≤ x.f1 ∧ x.f1 ≤ 1125899906842624
theorem light_l (l : List S65) (hl : l.length < 9223372036854775808) : ∀ (k i : Nat), i ≤ l.length → l.length - i < k → ∃ b, fettlelaw03_light.l0 k l (i : Int) = some b ∧ (b = true → ∀ j (h : j < l.length), i ≤ j → Lit60 l[j])
  | 0, i, _, h => by omega
  | k + 1, i, hi, h => by
    simp only [fettlelaw03_light.l0]
    by_cases hlt : i < l.length
    · rw [if_pos (by omega), if_pos (by omega), w1 i (by omega), rdT l i hlt]
      split
      · exact ⟨false, rfl, fun h => by cases h⟩
      · split
        · exact ⟨false, rfl, fun h => by cases h⟩
        · split
          · exact ⟨false, rfl, fun h => by cases h⟩
          · split
            · exact ⟨false, rfl, fun h => by cases h⟩
            · obtain ⟨b, h1, h2⟩ := light_l l hl k (i + 1) (by omega) (by omega)
              refine ⟨b, h1, fun hb j hj hij => ?_⟩
              rcases Nat.eq_or_lt_of_le hij with rfl | h3
              · exact ⟨by omega, by omega, by omega, by omega⟩
              · exact h2 hb j hj h3
    · rw [if_neg (by omega)]
      exact ⟨true, rfl, fun _ j hj hij => by omega⟩
theorem light_ok {l : List S65} {k : Nat} (hl : l.length < 9223372036854775808) (hk : l.length < k) : ∃ b, fettlelaw03_light.f k l = some b ∧ (b = true → l.length ≤ 30 ∧ ∀ x ∈ l, Lit60 x) := by
  unfold fettlelaw03_light.f
  by_cases h : (l.length : Int) > 30
  · rw [if_pos h]
    exact ⟨false, rfl, fun h => by cases h⟩
  · rw [if_neg h]
    obtain ⟨b, h1, h2⟩ := light_l l hl k 0 (Nat.zero_le _) hk
    refine ⟨b, h1, fun hb => ⟨by omega, fun x hx => ?_⟩⟩
    obtain ⟨j, hj, rfl⟩ := List.mem_iff_getElem.1 hx
    exact h2 hb j hj (Nat.zero_le _)
theorem near_l (l : List S65) (hl : l.length < 9223372036854775808) : ∀ (k i : Nat), i ≤ l.length → l.length - i + l.length + 1 < k → ∃ b, fettlelaw03_near.l0 k l (i : Int) = some b ∧ (b = true → l.length ≤ 30 ∧ ∀ j (h : j < l.length), i ≤ j → Lit50 l[j])
  | 0, i, _, h => by omega
  | k + 1, i, hi, h => by
    simp only [fettlelaw03_near.l0]
    by_cases hlt : i < l.length
    · rw [if_pos (by omega), if_pos (by omega), w1 i (by omega), rdT l i hlt]
      split
      · exact ⟨false, rfl, fun h => by cases h⟩
      · split
        · exact ⟨false, rfl, fun h => by cases h⟩
        · split
          · exact ⟨false, rfl, fun h => by cases h⟩
          · split
            · exact ⟨false, rfl, fun h => by cases h⟩
            · obtain ⟨b, h1, h2⟩ := near_l l hl k (i + 1) (by omega) (by omega)
              refine ⟨b, h1, fun hb => ⟨(h2 hb).1, fun j hj hij => ?_⟩⟩
              rcases Nat.eq_or_lt_of_le hij with rfl | h3
              · exact ⟨by omega, by omega, by omega, by omega⟩
              · exact (h2 hb).2 j hj h3
    · rw [if_neg (by omega)]
      obtain ⟨b, h1, h2⟩ := light_ok (k := k) hl (by omega)
      rw [h1]
      exact ⟨b, rfl, fun hb => ⟨(h2 hb).1, fun j hj hij => by omega⟩⟩
theorem near_ok {l : List S65} {k : Nat} (hl : l.length < 9223372036854775808) (hk : 2 * l.length + 1 < k) : ∃ b, fettlelaw03_near.f k l = some b ∧ (b = true → l.length ≤ 30 ∧ ∀ x ∈ l, Lit50 x) := by
  unfold fettlelaw03_near.f
  obtain ⟨b, h1, h2⟩ := near_l l hl k 0 (Nat.zero_le _) (by omega)
  refine ⟨b, h1, fun hb => ⟨(h2 hb).1, fun x hx => ?_⟩⟩
  obtain ⟨j, hj, rfl⟩ := List.mem_iff_getElem.1 hx
  exact (h2 hb).2 j hj (Nat.zero_le _)

/-! ### Has -/
instance (l : List S65) (p : Int) : Decidable (mem l p) := inferInstanceAs (Decidable (∃ x, x ∈ l ∧ inS x p))
theorem has_l (l : List S65) (p : Int) (hl : l.length < 9223372036854775808) : ∀ (k i : Nat), i ≤ l.length → l.length - i < k → fettleref03_Has.l0 k l p (i : Int) = some (decide (mem (l.drop i) p))
  | 0, i, _, h => by omega
  | k + 1, i, hi, h => by
    simp only [fettleref03_Has.l0]
    by_cases hlt : i < l.length
    · rw [if_pos (by omega), if_pos (by omega), w1 i (by omega), rdT l i hlt, List.drop_eq_getElem_cons hlt]
      have ih := has_l l p hl k (i + 1) (by omega) (by omega)
      have e : ∀ (x : S65) (r : List S65), decide (mem (x :: r) p) = (decide (inS x p) || decide (mem r p)) := fun x r => by simp
      rw [e, ih]
      by_cases h0 : p ≥ l[i].f0
      · rw [if_pos h0]
        by_cases h1 : p < l[i].f1
        · rw [if_pos h1, decide_eq_true (show inS l[i] p from ⟨h0, h1⟩)]
          rfl
        · rw [if_neg h1, decide_eq_false (show ¬ inS l[i] p from fun h => h1 h.2)]
          rfl
      · rw [if_neg h0, decide_eq_false (show ¬ inS l[i] p from fun h => h0 h.1)]
        rfl
    · rw [if_neg (by omega), List.drop_of_length_le (by omega)]
      simp
theorem has_ok {l : List S65} {k : Nat} (p : Int) (hl : l.length < 9223372036854775808) (hk : l.length < k) : fettleref03_Has.f k l p = some (decide (mem l p)) := by
  have := has_l l p hl k 0 (Nat.zero_le _) hk
  simpa [fettleref03_Has.f] using this

/-! ### put: a number into numbers that rise -/
def insU (n : Int) : List Int → List Int
  | [] => [n]
  | y :: r => if y ≥ n then (if y > n then n :: y :: r else y :: r) else y :: insU n r
def Rise (l : List Int) : Prop := l.Pairwise (· < ·)
theorem insU_mem (n : Int) : ∀ (l : List Int) (q : Int), q ∈ insU n l ↔ q = n ∨ q ∈ l
  | [], q => by simp [insU]
  | y :: r, q => by
    unfold insU
    split
    · split
      · simp
      · have : y = n := by omega
        subst this
        simp
    · simp only [List.mem_cons, insU_mem n r q]
      constructor
      · rintro (h | h | h)
        · exact .inr (.inl h)
        · exact .inl h
        · exact .inr (.inr h)
      · rintro (h | h | h)
        · exact .inr (.inl h)
        · exact .inl h
        · exact .inr (.inr h)
theorem insU_rise (n : Int) : ∀ {l : List Int}, Rise l → Rise (insU n l)
  | [], _ => by simp [insU, Rise]
  | y :: r, h => by
    obtain ⟨h1, h2⟩ := List.pairwise_cons.1 h
    unfold insU
    split
    · split
      · refine List.pairwise_cons.2 ⟨fun z hz => ?_, h⟩
        rcases List.mem_cons.1 hz with rfl | hz
        · omega
        · have := h1 z hz; omega
      · exact h
    · refine List.pairwise_cons.2 ⟨fun z hz => ?_, insU_rise n h2⟩
      rcases (insU_mem n r z).1 hz with rfl | hz
      · omega
      · exact h1 z hz
theorem insU_length (n : Int) : ∀ (l : List Int), (insU n l).length ≤ l.length + 1
  | [] => by simp [insU]
  | y :: r => by
    have := insU_length n r
    unfold insU
    split
    · split <;> simp
    · simp; omega
theorem put_d (l : List Int) (n : Int) (hl : l.length < 1000000) : ∀ (k : Nat) (o : List Int) (i : Nat), i ≤ l.length → o.length ≤ l.length + 1 + i → 2 * (l.length - i) < k → fettleref03_put.l0 k l n o true (i : Int) = some (o ++ l.drop i)
  | 0, o, i, _, _, h => by omega
  | 1, o, i, hi, ho, h => by
    simp only [fettleref03_put.l0]
    rw [if_neg (by omega), List.drop_of_length_le (by omega)]
    simp
  | k + 2, o, i, hi, ho, h => by
    simp only [fettleref03_put.l0]
    by_cases hlt : i < l.length
    · rw [if_pos (by omega)]
      simp only [if_true, fettleref03_put.j1]
      rw [if_neg (by simp), if_pos (by omega), if_pos (by omega), if_pos (by omega), w1 i (by omega), rdI l i hlt, put_d l n hl k (o ++ [l[i]]) (i + 1) (by omega) (by simp; omega) (by omega), List.drop_eq_getElem_cons hlt]
      simp
    · rw [if_neg (by omega), List.drop_of_length_le (by omega)]
      simp
theorem put_l (l : List Int) (n : Int) (hl : l.length < 1000000) : ∀ (k : Nat) (o : List Int) (i : Nat), i ≤ l.length → o.length ≤ i → 2 * (l.length - i) < k → fettleref03_put.l0 k l n o false (i : Int) = some (o ++ insU n (l.drop i))
  | 0, o, i, _, _, h => by omega
  | 1, o, i, hi, ho, h => by
    simp only [fettleref03_put.l0]
    rw [if_neg (by omega), List.drop_of_length_le (by omega), if_neg (by simp), if_pos (by omega)]
    simp [insU]
  | k + 2, o, i, hi, ho, h => by
    simp only [fettleref03_put.l0]
    by_cases hlt : i < l.length
    · rw [if_pos (by omega), if_neg (by simp), if_pos (by omega), rdI l i hlt, List.drop_eq_getElem_cons hlt]
      simp only [fettleref03_put.j1]
      unfold insU
      by_cases h1 : l[i] ≥ n
      · rw [if_pos (by simpa using h1), if_pos (by omega), if_pos (by omega), rdI l i hlt, if_pos h1, w1 i (by omega)]
        by_cases h2 : l[i] > n
        · rw [if_pos h2, if_pos (by omega), obind, if_pos (by simp; omega), if_pos h2, put_d l n hl k _ (i + 1) (by omega) (by simp; omega) (by omega)]
          simp
        · rw [if_neg h2, if_pos (by omega), if_neg h2, put_d l n hl k _ (i + 1) (by omega) (by simp; omega) (by omega)]
          simp
      · rw [if_neg (by simpa using h1), if_pos (by omega), if_pos (by omega), if_pos (by omega), rdI l i hlt, if_neg h1, w1 i (by omega), put_l l n hl k _ (i + 1) (by omega) (by simp; omega) (by omega)]
        simp
    · rw [if_neg (by omega), List.drop_of_length_le (by omega), if_neg (by simp), if_pos (by omega)]
      simp [insU]
theorem put_ok {l : List Int} {k : Nat} (n : Int) (hl : l.length < 1000000) (hk : 2 * l.length < k) : fettleref03_put.f k l n = some (insU n l) := by
  have := put_l l n hl k [] 0 (Nat.zero_le _) (by simp) (by omega)
  simpa [fettleref03_put.f] using this
end Go.Proofs.Ytpmhlomilobgaaa.ExtP
