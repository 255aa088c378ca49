import Derived.Test.YtjccknmgmommcaaSxL2
set_option linter.unusedVariables false
set_option linter.unusedSimpArgs false
set_option maxRecDepth 10000
namespace Go.Proofs.Ytjccknmgmommcaa.Sx
open Go.RowKit Go.Proofs.Ytjccknmgmommcaa.Sx.Tb
/-- The document's file. -/
structure RF where
  safe : List Int
  row : List (Bool × Int × List Int)
  ops : Int
  wrote : Int
  fail : Int
  stop : Int
def RF.st (s : RF) (c : Nat) : Chunk := .blk 41 (.lst [.im true 1 s.safe.length (.ints .u8 s.safe), .s 1 0 3 s.row.length c, .v (.int .i64 s.ops), .v (.int .i64 s.wrote), .v (.int .i64 s.fail), .v (.int .i64 s.stop)]) 6
def RF.rowC (s : RF) (c : Nat) : Chunk := .blk 197 (.recs 3 s.row.length (fun k => itAV (s.row.getD k (false, 0, [])))) (c * 3)
def RF.κ (s : RF) (y : List Nat) : Prop := s.row.length ≤ y.getD 0 0
def RF.chs (s : RF) (c : Nat) : List Chunk := [s.st c, s.rowC c]
def RF.cs (s : RF) (y : List Nat) : List Chunk := s.chs (y.getD 0 0)
def RF.pk (s : RF) : Chunk := .pack [] 2 s.κ s.cs
theorem RF.cs_lives (s : RF) (y : List Nat) : ∀ c ∈ s.cs y, c.lives := by
  intro c hc
  simp [RF.cs, RF.chs] at hc
  rcases hc with rfl | rfl <;> trivial
theorem RF.pk_noF (s : RF) : ChunkNoF s.pk := by
  refine .pack (fun y c hc => ?_)
  simp [RF.cs, RF.chs] at hc
  rcases hc with rfl | rfl
  · exact .blk ⟨⟨rfl, trivial⟩, trivial, trivial, trivial, trivial, trivial, trivial⟩
  · exact .blk (fun j _ => itAV_noF _)
theorem RF.goodP (s : RF) {v : AV} (h : v.noF) : Good 1 v [s.pk] := ⟨h, fun c hc => by simp at hc; subst hc; exact s.pk_noF, Nat.le_refl _⟩
theorem RF.ndP (s : RF) : ∀ c ∈ [s.pk], c.lives := by intro c hc; simp at hc; subst hc; trivial
theorem RF.fin {s : RF} {c : Nat} {v : AV} {k : K} (h : s.row.length ≤ c) (hk : k v [s.pk]) (hv : v.inN 1 := by simp [AV.inN, inNs, Cont.inN]) : Fin 1 v (s.chs c) k := by
  refine Fin.pk (Pk.pack [0, 1] [] s.κ s.cs [c] rfl h ⟨rfl, rfl, trivial⟩ ⟨trivial, trivial⟩) ?_
  exact Fin.ren [0] [] v [s.pk] rfl rfl trivial ⟨VC.mk ⟨rfl, rfl, rfl, rfl⟩, trivial⟩ (AV.le_refl fix1 hv) hk
/-- It is within the limits. -/
structure RF.Ok (s : RF) (n : Int) : Prop where
  safe : s.safe.length ≤ 4194304
  its : ∀ it ∈ s.row, 0 ≤ it.2.1 ∧ it.2.1 + it.2.2.length ≤ 4194304
  len : s.row.length ≤ n
  ops : 0 ≤ s.ops ∧ s.ops ≤ n
  wrote : 0 ≤ s.wrote ∧ s.wrote ≤ n
end Go.Proofs.Ytjccknmgmommcaa.Sx

