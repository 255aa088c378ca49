import Derived.Test.YtjccknmgmommcaaSxJ2
set_option linter.unusedVariables false
set_option linter.unusedSimpArgs false
set_option maxRecDepth 10000
namespace Go.Proofs.Ytjccknmgmommcaa.Sx
open Go.RowKit Go.Proofs.Ytjccknmgmommcaa.Sx.Tb
/-! ### What is done to a file, one behind the other, up to the first error -/
inductive FOp where
  | wr (at_ : Int) (xs : List Int)
  | fl
def FOp.size : FOp → Int
  | .wr _ xs => xs.length
  | .fl => 0
def DF.refB (s : DF) : Bool := (decide (0 < s.fail) && decide (s.ops + 1 = s.fail)) || (decide (0 < s.stop) && decide (s.stop ≤ s.ops + 1))
theorem DF.refB_iff (s : DF) : s.refB = true ↔ s.refused := by unfold DF.refB DF.refused; simp
def DF.doOp (s : DF) : FOp → Int × DF
  | .wr at_ xs => if s.refB = true then (5, s.asked) else if at_ < 0 then (4, s.asked) else if 4194304 - at_ < xs.length then (3, s.asked) else (0, s.wrote1 at_ xs)
  | .fl => if s.refB = true then (5, s.asked) else (0, s.flushed)
def DF.run (s : DF) : List FOp → Int × DF
  | [] => (0, s)
  | op :: r => if (s.doOp op).1 = 0 then (s.doOp op).2.run r else s.doOp op
/-! ### The journal -/
structure JR where
  pos : Int
  size : Int
  seq : Int
def JR.blk (j : JR) (i : Nat) : Chunk := .blk 176 (.lst [.p i 0 1 0, .v (.int .i64 j.pos), .v (.int .i64 j.size), .v (.int .u64 j.seq)]) 4
def JR.Ok (j : JR) : Prop := 0 ≤ j.pos ∧ j.pos ≤ 4194304 ∧ 1024 ≤ j.size ∧ j.size ≤ 4194304 ∧ 0 ≤ j.seq ∧ j.seq < 18446744073709551616
theorem JR.noF (j : JR) (i : Nat) : ChunkNoF (j.blk i) := .blk ⟨trivial, trivial, trivial, trivial, trivial⟩
def JR.out (j : JR) (at_ n : Int) : Prop := 0 ≤ at_ ∧ 0 ≤ n ∧ at_ ≤ 4194304 ∧ n ≤ 4194304 - at_ ∧ (at_ + n ≤ j.pos ∨ j.pos + j.size ≤ at_)
theorem two_le {H : List Chunk} {f : Nat → Nat} {ph : Nat → Bool} {j : JR} {s : DF} (hf : f 1 = 1) (h : 2 ≤ H.length) (h0 : nth H 0 = some (j.blk 1)) (h1 : nth H 1 = some s.pk) : chunksLe H [] f ph [0, 1] [j.blk 1, s.pk] := by
  refine ⟨?_, ?_, trivial⟩
  · unfold Chunk.le JR.blk
    simp only
    rw [show Nat.blt 0 H.length = true by rw [Nat.blt_eq]; omega, h0]
    exact ⟨VC.mk ⟨rfl, rfl⟩, VC.mk ⟨hf, rfl, rfl, rfl⟩, VC.mk rfl, VC.mk rfl, VC.mk rfl, trivial⟩
  · unfold Chunk.le DF.pk
    simp only
    rw [show Nat.blt 1 H.length = true by rw [Nat.blt_eq]; omega, h1]
    exact VC.mk ⟨rfl, rfl, rfl, rfl⟩
theorem J2.good {j : JR} {s : DF} {v : AV} (h : v.noF) : Good 2 v [j.blk 1, s.pk] := ⟨h, fun c hc => by simp at hc; rcases hc with rfl | rfl; exact j.noF _; exact s.pk_noF, Nat.le_refl _⟩
theorem J2.nd {j : JR} {s : DF} : ∀ c ∈ [j.blk 1, s.pk], c.lives := by intro c hc; simp at hc; rcases hc with rfl | rfl <;> trivial
theorem fix2 {N : Nat} {σ : List Nat} : ∀ i, i < 2 → fren (0 :: 1 :: σ) N i = i := fun i hi => by
  match i, hi with
  | 0, _ => rfl
  | 1, _ => rfl
theorem J2.fin {H : List Chunk} {j : JR} {s : DF} {v : AV} {k : K} (h : Nat.ble 2 H.length = true) (h0 : nth H 0 = some (j.blk 1)) (h1 : nth H 1 = some s.pk) (hk : k v [j.blk 1, s.pk]) (hv : v.inN 2 := by simp [AV.inN, inNs, Cont.inN]) : Fin 2 v H k :=
  Fin.ren [0, 1] [] v [j.blk 1, s.pk] rfl rfl trivial (two_le rfl (Nat.le_of_ble_eq_true h) h0 h1) (AV.le_refl fix2 hv) hk
def wrs (rs : List RecR) : List FOp := rs.map (fun r => .wr r.1 r.2)
end Go.Proofs.Ytjccknmgmommcaa.Sx

