import Derived.Test.YtjccknmgmommcaaSxP1
set_option linter.unusedVariables false
set_option linter.unusedSimpArgs false
set_option maxRecDepth 10000
namespace Go.Proofs.Ytjccknmgmommcaa.Sx
/-! ### What a file's bytes become -/
/-- Bytes at a place that isn't behind the end. -/
def putG (b : List Int) (p : Nat) (xs : List Int) : List Int := b.take p ++ (xs ++ b.drop (p + xs.length))
theorem putG_nil (b : List Int) (p : Nat) : putG b p [] = b := by simp [putG]
theorem putG_length {b : List Int} {p : Nat} {xs : List Int} (h : p ≤ b.length) : (putG b p xs).length = max b.length (p + xs.length) := by
  simp only [putG, List.length_append, List.length_take, List.length_drop]; omega
theorem putG_append {b : List Int} {p : Nat} (xs ys : List Int) (h : p ≤ b.length) : putG (putG b p xs) (p + xs.length) ys = putG b p (xs ++ ys) := by
  have e1 : (b.take p ++ xs).length = p + xs.length := by simp only [List.length_append, List.length_take]; omega
  have e2 : putG b p xs = (b.take p ++ xs) ++ b.drop (p + xs.length) := by simp [putG]
  have e3 : (putG b p xs).take (p + xs.length) = b.take p ++ xs := by rw [e2, ← e1, List.take_left]
  have e4 : (putG b p xs).drop (p + xs.length + ys.length) = b.drop (p + (xs ++ ys).length) := by
    rw [← List.drop_drop, e2, ← e1, List.drop_left, e1, List.drop_drop, List.length_append]
    congr 1; omega
  unfold putG at e3 e4 ⊢
  rw [e3, e4]
  simp [List.append_assoc]
theorem putG_B8 {b : List Int} {p : Nat} {xs : List Int} (h : B8 b) (h1 : B8 xs) : B8 (putG b p xs) := (h.take _).append (h1.append (h.drop _))
theorem putG_get {b : List Int} {p : Nat} {xs : List Int} (h : p ≤ b.length) (i : Nat) : (putG b p xs).getD i 0 = if p ≤ i ∧ i < p + xs.length then xs.getD (i - p) 0 else b.getD i 0 := by
  have hl : (b.take p).length = p := by simp only [List.length_take]; omega
  unfold putG
  simp only [List.getD_eq_getElem?_getD]
  by_cases h1 : i < p
  · rw [if_neg (by omega), List.getElem?_append_left (by omega), List.getElem?_take, if_pos h1]
  · rw [List.getElem?_append_right (by omega), hl]
    by_cases h2 : i < p + xs.length
    · rw [if_pos ⟨by omega, h2⟩, List.getElem?_append_left (by omega)]
    · rw [if_neg (by omega), List.getElem?_append_right (by omega), List.getElem?_drop]
      congr 2; omega
theorem layL_putG {b : List Int} {at_ : Int} {xs : List Int} (h0 : 0 ≤ at_) (h : at_.toNat ≤ b.length) : layL b false at_ xs = putG b at_.toNat xs := by
  have e0 : (at_ + xs.length).toNat = at_.toNat + xs.length := by omega
  unfold layL putG
  simp only [Bool.false_eq_true, if_false, List.append_assoc]
  unfold layP
  rw [e0, List.take_append_of_le_length h]
  congr 2
  by_cases hb : at_.toNat + xs.length ≤ b.length
  · rw [show at_.toNat + xs.length - b.length = 0 by omega]; simp
  · have a1 : b.drop (at_.toNat + xs.length) = [] := List.drop_eq_nil_of_le (by omega)
    rw [a1]
    exact List.drop_eq_nil_of_le (by simp only [List.length_append, List.length_replicate]; omega)
/-- A write's items: one for each sector. -/
def segs : Nat → Int → List Int → List (Bool × Int × List Int)
  | 0, _, _ => []
  | n + 1, at_, xs => if xs = [] then [] else (false, at_, xs.take (secN at_ xs.length)) :: segs n (at_ + secN at_ xs.length) (xs.drop (secN at_ xs.length))
theorem wrN_put : ∀ (n : Nat) (s : DF) (at_ : Int) (xs : List Int), xs.length ≤ n → 0 ≤ at_ → at_.toNat ≤ s.now.length → wrN n s at_ xs = { s with now := putG s.now at_.toNat xs, items := s.items ++ segs n at_ xs }
  | 0, s, at_, xs, hn, h0, h1 => by
    have : xs = [] := List.eq_nil_of_length_eq_zero (by omega)
    subst this
    rw [wrN, putG_nil, segs, List.append_nil]
  | n + 1, s, at_, xs, hn, h0, h1 => by
    by_cases hx : xs = []
    · subst hx
      rw [wrN, if_pos rfl, putG_nil, segs, if_pos rfl, List.append_nil]
    · have hp : 0 < xs.length := List.length_pos_iff.2 hx
      obtain ⟨c1, c2⟩ : 0 < secN at_ xs.length ∧ secN at_ xs.length ≤ xs.length := by unfold secN; omega
      rw [wrN, if_neg hx, segs, if_neg hx]
      generalize secN at_ xs.length = d at c1 c2 ⊢
      have e0 : (at_ + d).toNat = at_.toNat + d := by omega
      have tl : (xs.take d).length = d := by simp only [List.length_take]; omega
      rw [wrN_put n _ _ _ (by simp only [List.length_drop]; omega) (by omega) (by simp only []; rw [layL_putG h0 h1, putG_length h1, tl, e0]; omega)]
      simp only
      rw [layL_putG h0 h1, e0]
      have := putG_append (b := s.now) (p := at_.toNat) (xs.take d) (xs.drop d) h1
      rw [tl, List.take_append_drop] at this
      rw [this]
      simp [List.append_assoc]
theorem wrote1_put (s : DF) (at_ : Int) (xs : List Int) (h0 : 0 ≤ at_) (h1 : at_.toNat ≤ s.now.length) : s.wrote1 at_ xs = { s with now := putG s.now at_.toNat xs, items := s.items ++ segs xs.length at_ xs, ops := s.ops + 1, wrote := s.wrote + 1 } := by
  unfold DF.wrote1
  exact wrN_put _ _ _ _ (Nat.le_refl _) h0 h1
end Go.Proofs.Ytjccknmgmommcaa.Sx

