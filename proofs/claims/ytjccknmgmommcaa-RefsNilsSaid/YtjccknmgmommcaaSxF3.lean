import Derived.Test.YtjccknmgmommcaaSxF2
set_option linter.unusedVariables false
set_option linter.unusedSimpArgs false
set_option maxRecDepth 10000
namespace Go.Proofs.Ytjccknmgmommcaa.Sx
open Go.RowKit Go.Proofs.Ytjccknmgmommcaa.Sx.Tb
/-- What an operation makes of a file. -/
def DF.Did (s : DF) (o : OpR) (s' : DF) : Prop :=
  (o.kind = 1 ∧ s' = s.asked) ∨
  (o.kind = 2 ∧ (s.refused ∧ s' = s.asked ∨ ¬ s.refused ∧ o.pos < 0 ∧ s' = s.asked ∨ ¬ s.refused ∧ 0 ≤ o.pos ∧ 4194304 - o.pos < o.b.length ∧ s' = s.asked ∨ ¬ s.refused ∧ 0 ≤ o.pos ∧ o.b.length ≤ 4194304 - o.pos ∧ s' = s.wrote1 o.pos o.b)) ∨
  (o.kind = 3 ∧ (s.refused ∧ s' = s.asked ∨ ¬ s.refused ∧ ¬ (0 ≤ o.n ∧ o.n ≤ 4194304) ∧ s' = s.asked ∨ ¬ s.refused ∧ 0 ≤ o.n ∧ o.n ≤ 4194304 ∧ s' = s.cutTo o.n)) ∨
  (o.kind = 4 ∧ (s.refused ∧ s' = s.asked ∨ ¬ s.refused ∧ s' = s.flushed)) ∨
  (¬ (1 ≤ o.kind ∧ o.kind ≤ 4) ∧ s' = s)
def doneOk (s : DF) (m : RF) (n : Int) (o : OpR) : Prop := (0 ≤ s.ops ∧ s.ops ≤ 1099511627776 ∧ 0 ≤ s.wrote ∧ s.wrote ≤ 1099511627776 ∧ s.items.length ≤ 1099511627776 ∧ s.now.length ≤ 4194304) ∧ (m.Ok n ∧ n ≤ 549755813888) ∧ o.b.length ≤ 4194304 ∧ o.kind ≤ 4
theorem RF.OkM {s : RF} {n m : Int} (h : s.Ok n) (hm : n ≤ m) : s.Ok m := ⟨h.safe, h.its, by have := h.len; omega, by have := h.ops; omega, by have := h.wrote; omega⟩
end Go.Proofs.Ytjccknmgmommcaa.Sx

