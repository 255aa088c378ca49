import Derived.Test.YtjccknmgmommcaaSxX1
set_option linter.unusedVariables false
set_option linter.unusedSimpArgs false
set_option maxRecDepth 10000
namespace Go.Proofs.Ytjccknmgmommcaa.Sx
open Go.RowKit Go.Proofs.Ytjccknmgmommcaa.Sx.Tb
/-! ### Get -/
theorem TR.c1_ren (t : TR) (f : Nat → Nat) : t.c1.ren f = t.c1 := by
  show Chunk.mp _ _ = Chunk.mp _ _
  congr 1
  rw [List.map_map]
  rfl
theorem TR.c0_ren (t : TR) (a b c : Nat) (f : Nat → Nat) : (t.c0 a b c).ren f = t.c0 (f a) (f b) (f c) := rfl
theorem JR.blk_ren (j : JR) (a : Nat) (f : Nat → Nat) : (j.blk a).ren f = j.blk (f a) := rfl
theorem DF.pk_ren (s : DF) (f : Nat → Nat) : s.pk.ren f = s.pk := rfl
theorem TR.c2_ren (t : TR) (f : Nat → Nat) : t.c2.ren f = t.c2 := rfl
def TR.V (t : TR) (now : List Int) (i : Nat) : Int := (t.sec now (i / 512 : Nat)).getD (i % 512) 0
end Go.Proofs.Ytjccknmgmommcaa.Sx

