import Derived.Test.YtjccknmgmommcaaSxF1
set_option linter.unusedVariables false
set_option linter.unusedSimpArgs false
set_option maxRecDepth 10000
namespace Go.Proofs.Ytjccknmgmommcaa.Sx
open Go.RowKit Go.Proofs.Ytjccknmgmommcaa.Sx.Tb
def RF.asked (s : RF) : RF := { s with ops := s.ops + 1 }
theorem RF.nd (s : RF) (c : Nat) : ∀ x ∈ s.chs c, x.lives := by
  intro x hx
  simp [RF.chs] at hx
  rcases hx with rfl | rfl <;> trivial
theorem RF.good (s : RF) (c : Nat) {v : AV} (h : v.noF) : Good 2 v (s.chs c) := by
  refine ⟨h, fun x hx => ?_, Nat.le_refl _⟩
  simp [RF.chs] at hx
  rcases hx with rfl | rfl
  · exact .blk ⟨⟨rfl, trivial⟩, trivial, trivial, trivial, trivial, trivial, trivial⟩
  · exact .blk (fun j _ => itAV_noF _)
theorem RF.Ok.ask {s : RF} {n : Int} (h : s.Ok n) : s.asked.Ok (n + 1) := by
  obtain ⟨a1, a2, a3, a4, a5⟩ := h
  exact ⟨a1, a2, by show (s.row.length : Int) ≤ _; omega, by show 0 ≤ s.ops + 1 ∧ s.ops + 1 ≤ _; omega, by show 0 ≤ s.wrote ∧ s.wrote ≤ _; omega⟩
def RF.flushed (s : RF) (l : List Int) : RF := { s with ops := s.ops + 1, safe := l, row := [] }
end Go.Proofs.Ytjccknmgmommcaa.Sx

