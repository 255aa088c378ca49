import Derived.Test.YtjccknmgmommcaaSxJ5
set_option linter.unusedVariables false
set_option linter.unusedSimpArgs false
set_option maxRecDepth 10000
namespace Go.Proofs.Ytjccknmgmommcaa.Sx
open Go.RowKit Go.Proofs.Ytjccknmgmommcaa.Sx.Tb
/-! ### Pending -/
instance (j : JR) (a n : Int) : Decidable (j.out a n) := by unfold JR.out; infer_instance
def pendOk (j : JR) (b : List Int) : Prop := le4 b 0 = 826954822 ∧ le4 b 24 = moreL 0 (b.take 24) ∧ le4 b 16 ≤ j.size - 512 ∧ le4 b 12 ≤ (j.size - 512) / 12 ∧ (∀ x ∈ (b.drop 28).take 484, x = 0) ∧ le4 b 20 = moreL 0 ((b.drop 512).take (le4 b 16).toNat)
instance (j : JR) (b : List Int) : Decidable (pendOk j b) := by unfold pendOk; infer_instance
def pendB (j : JR) (b : List Int) : Option (List RecR) :=
  if pendOk j b then match decL ((b.drop 512).take (le4 b 16).toNat) (le4 b 12).toNat with
    | some rs => if ∀ r ∈ rs, j.out r.1 r.2.length then some rs else none
    | none => none
  else none
def JR.part (j : JR) (s : DF) : List Int := (s.now.drop j.pos.toNat).take j.size.toNat
/-- What is pending: an error's number, the records, the number of the last. -/
def DF.pend (j : JR) (s : DF) : Int × Option (List RecR) × JR :=
  if s.refB = true then (5, none, j) else if (s.now.length : Int) < j.pos + j.size then (4, none, j) else match pendB j (j.part s) with
    | some rs => (0, some rs, { j with seq := le8 (j.part s) 4 })
    | none => (0, none, j)
end Go.Proofs.Ytjccknmgmommcaa.Sx

