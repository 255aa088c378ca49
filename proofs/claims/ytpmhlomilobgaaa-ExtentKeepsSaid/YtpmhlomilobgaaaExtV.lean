/- The program's Has, Union, Covers: what they come to. Plain lists. -/
import Derived.Test.YtpmhlomilobgaaaExtR
import Derived.Test.YtpmhlomilobgaaaPExtx10
set_option linter.unusedVariables false
set_option linter.unusedSimpArgs false
namespace Go.Proofs.Ytpmhlomilobgaaa.ExtP
open Go.RowKit Go.Proofs.Ytpmhlomilobgaaa.PExt Go.Proofs.YtpmhlomilobgaaaW.PrintWords Go.Proofs.Ytpmhlomilobgaaa.ExtM Go.Proofs.Ytpmhlomilobgaaa.Base

theorem phas_l (l : List S65) (p : Int) (hl : l.length < 9223372036854775808) : ∀ (k i : Nat), i ≤ l.length → l.length - i < k → extent_Set_Has.l0 k p l (l.length : Int) (i : Int) = some (decide (mem (l.drop i) p))
  | 0, i, _, h => by omega
  | k + 1, i, hi, h => by
    simp only [extent_Set_Has.l0]
    by_cases hlt : i < l.length
    · rw [if_pos (by omega), if_pos (by omega), if_pos (by omega), w1 i (by omega), rdT l i hlt, List.drop_eq_getElem_cons hlt]
      have ih := phas_l l p hl k (i + 1) (by omega) (by omega)
      have e : ∀ (x : S65) (r : List S65), decide (mem (x :: r) p) = (decide (inS x p) || decide (mem r p)) := fun x r => by simp
      rw [e, ih]
      by_cases h0 : p ≥ l[i].f0
      · rw [if_pos h0]
        by_cases h1 : p < l[i].f1
        · rw [if_pos h1, decide_eq_true (show inS l[i] p from ⟨h0, h1⟩)]
          rfl
        · rw [if_neg h1, decide_eq_false (show ¬ inS l[i] p from fun h => h1 h.2)]
          rfl
      · rw [if_neg h0, decide_eq_false (show ¬ inS l[i] p from fun h => h0 h.1)]
        rfl
    · rw [if_neg (by omega), List.drop_of_length_le (by omega)]
      simp
theorem phas_ok {l : List S65} {k : Nat} (p : Int) (hl : l.length < 9223372036854775808) (hk : l.length < k) : extent_Set_Has.f k l p = some (decide (mem l p)) := by
  have := phas_l l p hl k 0 (Nat.zero_le _) hk
  simpa [extent_Set_Has.f] using this
theorem union_l (ls : List (List S65)) (hls : ls.length < 100000) : ∀ (k : Nat) (o : List S65) (i : Nat), i ≤ ls.length → o.length + (ls.drop i).flatten.length < 1000000000 → (ls.length - i) + o.length + (ls.drop i).flatten.length + 1 < k →
    extent_Union.l0 k o ls (ls.length : Int) (i : Int) = some (normL (o ++ (ls.drop i).flatten))
  | 0, _, _, _, _, h => by omega
  | k + 1, o, i, hi, ho, h => by
    simp only [extent_Union.l0]
    by_cases hlt : i < ls.length
    · have hd : (ls.drop i).flatten = ls[i] ++ (ls.drop (i + 1)).flatten := by rw [List.drop_eq_getElem_cons hlt, List.flatten_cons]
      rw [hd, List.length_append] at ho h
      rw [if_pos (by omega), if_pos (by omega), if_pos (by omega), rdL ls i hlt, if_pos (by omega), w1 i (by omega), union_l ls hls k _ (i + 1) (by omega) (by rw [List.length_append]; omega) (by rw [List.length_append]; omega), hd, List.append_assoc]
    · rw [List.drop_of_length_le (by omega)] at ho h
      simp only [List.flatten_nil, List.length_nil] at ho h
      rw [if_neg (by omega), norm_eq (by omega) (by omega), obind, List.drop_of_length_le (by omega), List.flatten_nil, List.append_nil]
theorem union_ok {a b : List S65} {k : Nat} (ha : a.length < 10000000) (hb : b.length < 10000000) (hk : a.length + b.length + 3 < k) : extent_Union.f k [a, b] = some (normL (a ++ b)) := by
  have := union_l [a, b] (by simp) k [] 0 (Nat.zero_le _) (by simp; omega) (by simp; omega)
  simpa [extent_Union.f] using this
theorem covers_ok {s : List S65} {k : Nat} (x : S65) (hs : s.length ≤ 1000000) (hk : 2 < k) : ∃ L, extent_Set_Covers.f k s x.f0 x.f1 = some (decide (L = [])) ∧ NF L ∧ ∀ q, mem L q ↔ inS x q ∧ ¬ mem s q := by
  unfold extent_Set_Covers.f
  by_cases h : x.f1 ≤ x.f0
  · rw [if_pos h]
    exact ⟨[], rfl, NF.nil, fun q => by simp [inS]; omega⟩
  · rw [if_neg h, norm_eq (by simp) (by simp; omega), obind]
    have hl := normL_length [x]
    obtain ⟨L, h1, h2, h3⟩ := minus_ok (a := normL [x]) (b := s) (by simp at hl; omega) hs
    change ∃ L, (ExtM.minusF (normL [x]) s).bind _ = _ ∧ _
    have e : (⟨x.f0, x.f1⟩ : S65) = x := rfl
    rw [h1, obind]
    refine ⟨L, ?_, h2, fun q => by rw [h3 q, mem_normL, mem_cons]; simp⟩
    congr 1
    rcases L with _ | ⟨y, r⟩
    · rfl
    · simp
      omega
end Go.Proofs.Ytpmhlomilobgaaa.ExtP
