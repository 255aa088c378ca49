import Derived.Test.YtjccknmgmommcaaSxJ4
set_option linter.unusedVariables false
set_option linter.unusedSimpArgs false
set_option maxRecDepth 10000
namespace Go.Proofs.Ytjccknmgmommcaa.Sx
open Go.RowKit Go.Proofs.Ytjccknmgmommcaa.Sx.Tb
/-! ### Decode -/
def le8 (l : List Int) (at_ : Nat) : Int := leV ((l.drop at_).take 8)
def le4 (l : List Int) (at_ : Nat) : Int := leV ((l.drop at_).take 4)
def dec1 (l : List Int) (at_ : Nat) : Option RecR :=
  if at_ + 12 ≤ l.length ∧ (at_ : Int) + 12 + le4 l (at_ + 8) ≤ l.length ∧ le8 l at_ ≤ 4194304 then some (le8 l at_, (l.drop (at_ + 12)).take (le4 l (at_ + 8)).toNat) else none
def decF (l : List Int) : Nat → Option (List RecR × Nat)
  | 0 => some ([], 0)
  | i + 1 => match decF l i with
    | none => none
    | some y => match dec1 l y.2 with
      | none => none
      | some r => some (y.1 ++ [r], y.2 + 12 + r.2.length)
def decL (l : List Int) (n : Nat) : Option (List RecR) := match decF l n with
  | none => none
  | some y => if y.2 = l.length then some y.1 else none
theorem leV_bound {l : List Int} (h : B8 l) (n : Nat) : 0 ≤ leV (l.take n) ∧ leV (l.take n) < ((256 ^ n : Nat) : Int) := by
  refine ⟨leV_nonneg (h.take n), Int.lt_of_lt_of_le (leV_lt (h.take n)) ?_⟩
  have e : (256 : Int) ^ (l.take n).length = ((256 ^ (l.take n).length : Nat) : Int) := by simp
  rw [e]
  exact Int.ofNat_le.2 (Nat.pow_le_pow_right (by decide) (by simp; omega))
end Go.Proofs.Ytjccknmgmommcaa.Sx

