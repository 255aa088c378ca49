import Derived.Test.YtjccknmgmommcaaSxO1
set_option linter.unusedVariables false
set_option linter.unusedSimpArgs false
set_option maxRecDepth 10000
namespace Go.Proofs.Ytjccknmgmommcaa.Sx
open Go.RowKit Go.Proofs.Ytjccknmgmommcaa.Sx.Tb
/-! ### Bytes: a part, noughts, sums -/
/-- The sum's step. -/
def crc1 (s : Int) : Int := if Go.bits .and .u32 s 1 = 1 then Go.bits .xor .u32 (s / 2) 3988292384 else s / 2
def crcN : Nat → Int → Int
  | 0, s => s
  | n + 1, s => crcN n (crc1 s)
def crcStep (s c : Int) : Int := crcN 8 (Go.bits .xor .u32 s c)
def crcNot (s : Int) : Int := Go.bits .xor .u32 (if IntKind.u32.signed = true then -1 else IntKind.u32.max) s
def moreL (s : Int) (l : List Int) : Int := crcNot (l.foldl crcStep (crcNot s))
end Go.Proofs.Ytjccknmgmommcaa.Sx

