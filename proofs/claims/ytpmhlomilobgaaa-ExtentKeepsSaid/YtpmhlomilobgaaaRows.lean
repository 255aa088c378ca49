/-
  No cell of these rows narrows 'for every input' (looked for: loops, veiled, ifaces, maps, wideKeys, modest, calm, conditions, laid).
  DERIVED. THE GIVEN ROWS OF THIS SEAT. 11 by the template 'for every input the law returns true; each argument reads behind the call as it read before'; 0 by the template 'total and deterministic' (their statements: YtpmhlomilobgaaaTotals.lean).
  GIVEN WITH THE SEED: the statements are not yours to turn. If you find one false, say at which input.
  Laid BY PROGRAM, IN A SANDBOX (cutbox-rows.mjs): the forced cells as the released guide's own fill.sh prints them over the translation d7149a22921ab09d… (all of the seat's roots in one cut). By AI agents, Wed Nov 11 2026. No macro, syntax, notation, axiom, sorry.
-/
import Derived.Test.YtpmhlomilobgaaaChecked
import GoSem.Claim
import GoSem.ClaimJoined
import GoSem.ClaimMapViews
import Derived.JoinedTies
import Derived.KernelRfl
namespace Go.Proofs.Ytpmhlomilobgaaa
/- THE CELL 'sum', in the pinned program and in every row, IS THE sha256 OF THE DUMP (.gsa) THAT YtpmhlomilobgaaaProg.lean LOADS. Nothing in Lean hashes anything: it is a label: what it is worth is what the hold of that sum in a sandbox is worth. -/
noncomputable def Try.pinned : Pinned := { name := "ytpmhlomilobgaaa", sum := "d7149a22921ab09d99209e2432583165afa41b84b9e4377c36403284e7926172", checked := Try.checked }
namespace Rows
def none {H : Type} : Left H := { results := [], args := [] }

/-- 'fettlelaw07.HeaderDecodes': WHATEVER THE INPUT: true; the input reads as it did. -/
def headerDecodesSpec : ChangeSpec := { name := "headerDecodes", fn := fun _ => fun
  | [d] => { results := [.lit (.bool true)], args := [d] }
  | _ => none }
def headerDecodesRow : OpenClaim := { program := "ytpmhlomilobgaaa", sum := "d7149a22921ab09d99209e2432583165afa41b84b9e4377c36403284e7926172", func := "fettle/fettlelaw07.HeaderDecodes", spec := "headerDecodes", apart := false }
def HeaderDecodesSaid : Prop := headerDecodesRow.holds Try.pinned (OpenSpec.ofChange headerDecodesSpec)

/-- ITS FALSE NEIGHBOUR: 'it returns false'. Refute it at one input. -/
def headerDecodesWrong : ChangeSpec := { name := "headerDecodes", fn := fun _ => fun
  | [d] => { results := [.lit (.bool false)], args := [d] }
  | _ => none }
def HeaderDecodesWrongFalsely : Prop := headerDecodesRow.holds Try.pinned (OpenSpec.ofChange headerDecodesWrong)

/-- 'fettlelaw07.HeaderEncodes': WHATEVER THE INPUT: true; the input reads as it did. -/
def headerEncodesSpec : ChangeSpec := { name := "headerEncodes", fn := fun _ => fun
  | [d1, d2] => { results := [.lit (.bool true)], args := [d1, d2] }
  | _ => none }
def headerEncodesRow : OpenClaim := { program := "ytpmhlomilobgaaa", sum := "d7149a22921ab09d99209e2432583165afa41b84b9e4377c36403284e7926172", func := "fettle/fettlelaw07.HeaderEncodes", spec := "headerEncodes", apart := false }
def HeaderEncodesSaid : Prop := headerEncodesRow.holds Try.pinned (OpenSpec.ofChange headerEncodesSpec)

/-- ITS FALSE NEIGHBOUR: 'it returns false'. Refute it at one input. -/
def headerEncodesWrong : ChangeSpec := { name := "headerEncodes", fn := fun _ => fun
  | [d1, d2] => { results := [.lit (.bool false)], args := [d1, d2] }
  | _ => none }
def HeaderEncodesWrongFalsely : Prop := headerEncodesRow.holds Try.pinned (OpenSpec.ofChange headerEncodesWrong)

/-- 'fettlelaw07.HeaderOnes': WHATEVER THE INPUT: true; the input reads as it did. -/
def headerOnesSpec : ChangeSpec := { name := "headerOnes", fn := fun _ => fun
  | [d] => { results := [.lit (.bool true)], args := [d] }
  | _ => none }
def headerOnesRow : OpenClaim := { program := "ytpmhlomilobgaaa", sum := "d7149a22921ab09d99209e2432583165afa41b84b9e4377c36403284e7926172", func := "fettle/fettlelaw07.HeaderOnes", spec := "headerOnes", apart := false }
def HeaderOnesSaid : Prop := headerOnesRow.holds Try.pinned (OpenSpec.ofChange headerOnesSpec)

/-- ITS FALSE NEIGHBOUR: 'it returns false'. Refute it at one input. -/
def headerOnesWrong : ChangeSpec := { name := "headerOnes", fn := fun _ => fun
  | [d] => { results := [.lit (.bool false)], args := [d] }
  | _ => none }
def HeaderOnesWrongFalsely : Prop := headerOnesRow.holds Try.pinned (OpenSpec.ofChange headerOnesWrong)

/-- 'fettletop.TopFrames': WHATEVER THE INPUT: true; the input reads as it did. -/
def topFramesSpec : ChangeSpec := { name := "topFrames", fn := fun _ => fun
  | [d] => { results := [.lit (.bool true)], args := [d] }
  | _ => none }
def topFramesRow : OpenClaim := { program := "ytpmhlomilobgaaa", sum := "d7149a22921ab09d99209e2432583165afa41b84b9e4377c36403284e7926172", func := "fettle/fettletop.TopFrames", spec := "topFrames", apart := false }
def TopFramesSaid : Prop := topFramesRow.holds Try.pinned (OpenSpec.ofChange topFramesSpec)

/-- ITS FALSE NEIGHBOUR: 'it returns false'. Refute it at one input. -/
def topFramesWrong : ChangeSpec := { name := "topFrames", fn := fun _ => fun
  | [d] => { results := [.lit (.bool false)], args := [d] }
  | _ => none }
def TopFramesWrongFalsely : Prop := topFramesRow.holds Try.pinned (OpenSpec.ofChange topFramesWrong)

/-- 'fettlelaw03.ExtentWalks': WHATEVER THE INPUT: true; the input reads as it did. -/
def extentWalksSpec : ChangeSpec := { name := "extentWalks", fn := fun _ => fun
  | [d1, d2] => { results := [.lit (.bool true)], args := [d1, d2] }
  | _ => none }
def extentWalksRow : OpenClaim := { program := "ytpmhlomilobgaaa", sum := "d7149a22921ab09d99209e2432583165afa41b84b9e4377c36403284e7926172", func := "fettle/fettlelaw03.ExtentWalks", spec := "extentWalks", unfollowed := true, recurses := true, apart := false }
def ExtentWalksSaid : Prop := extentWalksRow.holds Try.pinned (OpenSpec.ofChange extentWalksSpec)

/-- ITS FALSE NEIGHBOUR: 'it returns false'. Refute it at one input. -/
def extentWalksWrong : ChangeSpec := { name := "extentWalks", fn := fun _ => fun
  | [d1, d2] => { results := [.lit (.bool false)], args := [d1, d2] }
  | _ => none }
def ExtentWalksWrongFalsely : Prop := extentWalksRow.holds Try.pinned (OpenSpec.ofChange extentWalksWrong)

/-- 'fettlelaw03.ExtentNorms': WHATEVER THE INPUT: true; the input reads as it did. -/
def extentNormsSpec : ChangeSpec := { name := "extentNorms", fn := fun _ => fun
  | [d] => { results := [.lit (.bool true)], args := [d] }
  | _ => none }
def extentNormsRow : OpenClaim := { program := "ytpmhlomilobgaaa", sum := "d7149a22921ab09d99209e2432583165afa41b84b9e4377c36403284e7926172", func := "fettle/fettlelaw03.ExtentNorms", spec := "extentNorms", unfollowed := true, recurses := true, apart := false }
def ExtentNormsSaid : Prop := extentNormsRow.holds Try.pinned (OpenSpec.ofChange extentNormsSpec)

/-- ITS FALSE NEIGHBOUR: 'it returns false'. Refute it at one input. -/
def extentNormsWrong : ChangeSpec := { name := "extentNorms", fn := fun _ => fun
  | [d] => { results := [.lit (.bool false)], args := [d] }
  | _ => none }
def ExtentNormsWrongFalsely : Prop := extentNormsRow.holds Try.pinned (OpenSpec.ofChange extentNormsWrong)

/-- 'fettlelaw03.ExtentAsks': WHATEVER THE INPUT: true; the input reads as it did. -/
def extentAsksSpec : ChangeSpec := { name := "extentAsks", fn := fun _ => fun
  | [d1, d2, d3] => { results := [.lit (.bool true)], args := [d1, d2, d3] }
  | _ => none }
def extentAsksRow : OpenClaim := { program := "ytpmhlomilobgaaa", sum := "d7149a22921ab09d99209e2432583165afa41b84b9e4377c36403284e7926172", func := "fettle/fettlelaw03.ExtentAsks", spec := "extentAsks", unfollowed := true, recurses := true, apart := false }
def ExtentAsksSaid : Prop := extentAsksRow.holds Try.pinned (OpenSpec.ofChange extentAsksSpec)

/-- ITS FALSE NEIGHBOUR: 'it returns false'. Refute it at one input. -/
def extentAsksWrong : ChangeSpec := { name := "extentAsks", fn := fun _ => fun
  | [d1, d2, d3] => { results := [.lit (.bool false)], args := [d1, d2, d3] }
  | _ => none }
def ExtentAsksWrongFalsely : Prop := extentAsksRow.holds Try.pinned (OpenSpec.ofChange extentAsksWrong)

/-- 'fettlelaw03.ExtentHalves': WHATEVER THE INPUT: true; the input reads as it did. -/
def extentHalvesSpec : ChangeSpec := { name := "extentHalves", fn := fun _ => fun
  | [d1, d2, d3] => { results := [.lit (.bool true)], args := [d1, d2, d3] }
  | _ => none }
def extentHalvesRow : OpenClaim := { program := "ytpmhlomilobgaaa", sum := "d7149a22921ab09d99209e2432583165afa41b84b9e4377c36403284e7926172", func := "fettle/fettlelaw03.ExtentHalves", spec := "extentHalves", unfollowed := true, recurses := true, apart := false }
def ExtentHalvesSaid : Prop := extentHalvesRow.holds Try.pinned (OpenSpec.ofChange extentHalvesSpec)

/-- ITS FALSE NEIGHBOUR: 'it returns false'. Refute it at one input. -/
def extentHalvesWrong : ChangeSpec := { name := "extentHalves", fn := fun _ => fun
  | [d1, d2, d3] => { results := [.lit (.bool false)], args := [d1, d2, d3] }
  | _ => none }
def ExtentHalvesWrongFalsely : Prop := extentHalvesRow.holds Try.pinned (OpenSpec.ofChange extentHalvesWrong)

/-- 'fettlelaw03.ExtentPairs': WHATEVER THE INPUT: true; the input reads as it did. -/
def extentPairsSpec : ChangeSpec := { name := "extentPairs", fn := fun _ => fun
  | [d1, d2] => { results := [.lit (.bool true)], args := [d1, d2] }
  | _ => none }
def extentPairsRow : OpenClaim := { program := "ytpmhlomilobgaaa", sum := "d7149a22921ab09d99209e2432583165afa41b84b9e4377c36403284e7926172", func := "fettle/fettlelaw03.ExtentPairs", spec := "extentPairs", unfollowed := true, recurses := true, apart := false }
def ExtentPairsSaid : Prop := extentPairsRow.holds Try.pinned (OpenSpec.ofChange extentPairsSpec)

/-- ITS FALSE NEIGHBOUR: 'it returns false'. Refute it at one input. -/
def extentPairsWrong : ChangeSpec := { name := "extentPairs", fn := fun _ => fun
  | [d1, d2] => { results := [.lit (.bool false)], args := [d1, d2] }
  | _ => none }
def ExtentPairsWrongFalsely : Prop := extentPairsRow.holds Try.pinned (OpenSpec.ofChange extentPairsWrong)

/-- 'fettlelaw03.ExtentKeeps': WHATEVER THE INPUT: true; the input reads as it did. -/
def extentKeepsSpec : ChangeSpec := { name := "extentKeeps", fn := fun _ => fun
  | [d1, d2] => { results := [.lit (.bool true)], args := [d1, d2] }
  | _ => none }
def extentKeepsRow : OpenClaim := { program := "ytpmhlomilobgaaa", sum := "d7149a22921ab09d99209e2432583165afa41b84b9e4377c36403284e7926172", func := "fettle/fettlelaw03.ExtentKeeps", spec := "extentKeeps", unfollowed := true, recurses := true, apart := false }
def ExtentKeepsSaid : Prop := extentKeepsRow.holds Try.pinned (OpenSpec.ofChange extentKeepsSpec)

/-- ITS FALSE NEIGHBOUR: 'it returns false'. Refute it at one input. -/
def extentKeepsWrong : ChangeSpec := { name := "extentKeeps", fn := fun _ => fun
  | [d1, d2] => { results := [.lit (.bool false)], args := [d1, d2] }
  | _ => none }
def ExtentKeepsWrongFalsely : Prop := extentKeepsRow.holds Try.pinned (OpenSpec.ofChange extentKeepsWrong)

/-- 'fettlelaw03.ExtentSets': WHATEVER THE INPUT: true; the input reads as it did. -/
def extentSetsSpec : ChangeSpec := { name := "extentSets", fn := fun _ => fun
  | [d1, d2, d3] => { results := [.lit (.bool true)], args := [d1, d2, d3] }
  | _ => none }
def extentSetsRow : OpenClaim := { program := "ytpmhlomilobgaaa", sum := "d7149a22921ab09d99209e2432583165afa41b84b9e4377c36403284e7926172", func := "fettle/fettlelaw03.ExtentSets", spec := "extentSets", unfollowed := true, recurses := true, apart := false }
def ExtentSetsSaid : Prop := extentSetsRow.holds Try.pinned (OpenSpec.ofChange extentSetsSpec)

/-- ITS FALSE NEIGHBOUR: 'it returns false'. Refute it at one input. -/
def extentSetsWrong : ChangeSpec := { name := "extentSets", fn := fun _ => fun
  | [d1, d2, d3] => { results := [.lit (.bool false)], args := [d1, d2, d3] }
  | _ => none }
def ExtentSetsWrongFalsely : Prop := extentSetsRow.holds Try.pinned (OpenSpec.ofChange extentSetsWrong)

/- THE SECOND FORM. 'bulk': how many values and letters a reading holds, each counted each time it is reached (what is shared counts as often as it is met; a slice's spare places count too). A statement '..UptoSaid' is the law's where the arguments, and the package variables that the reading takes, are together of bulk at most 1048576: NARROWER than '..Said'. Prove '..Said' where nothing that the law and all that it calls make is longer than what came in: it says more and counts as full. Else prove '..UptoSaid'. A law counts once. -/
mutual
def uptoBulk {H : Type} : DataW H → Nat
  | .lit (.string bytes) => bytes.length + 1
  | .lit _ => 1
  | .nil => 1
  | .ptr d => uptoBulk d + 1
  | .slice elems spare => uptoBulkAll elems + uptoBulkAll spare + 1
  | .agg parts => uptoBulkAll parts + 1
  | .iface _ d => uptoBulk d + 1
  | .map entries => uptoBulkEntries entries + 1
  | .held _ => 1
def uptoBulkAll {H : Type} : List (DataW H) → Nat
  | [] => 0
  | d :: r => uptoBulk d + uptoBulkAll r
def uptoBulkEntries {H : Type} : List (Lit × DataW H) → Nat
  | [] => 0
  | x :: r => uptoBulkEntry x + uptoBulkEntries r
def uptoBulkEntry {H : Type} : Lit × DataW H → Nat
  | (.string bytes, d) => bytes.length + uptoBulk d + 1
  | (_, d) => uptoBulk d + 1
 end
def uptoSmall : (H : Type) → List (DataW H) → Bool := fun _ ds => decide (uptoBulkAll ds ≤ 1048576)
def OpenSpec.upto (s : _root_.Go.ChangeSpec) : _root_.Go.OpenSpec := { _root_.Go.OpenSpec.ofChange s with cond := some uptoSmall }

/-- 'fettlelaw07.HeaderDecodes', WHERE WHAT IT READS IS OF BULK AT MOST 1048576: true; the input reads as it did. -/
def headerDecodesUptoRow : OpenClaim := { program := "ytpmhlomilobgaaa", sum := "d7149a22921ab09d99209e2432583165afa41b84b9e4377c36403284e7926172", func := "fettle/fettlelaw07.HeaderDecodes", spec := "headerDecodes", apart := false, narrowed := true }
def HeaderDecodesUptoSaid : Prop := headerDecodesUptoRow.holds Try.pinned (OpenSpec.upto headerDecodesSpec)

/-- 'fettlelaw07.HeaderEncodes', WHERE WHAT IT READS IS OF BULK AT MOST 1048576: true; the input reads as it did. -/
def headerEncodesUptoRow : OpenClaim := { program := "ytpmhlomilobgaaa", sum := "d7149a22921ab09d99209e2432583165afa41b84b9e4377c36403284e7926172", func := "fettle/fettlelaw07.HeaderEncodes", spec := "headerEncodes", apart := false, narrowed := true }
def HeaderEncodesUptoSaid : Prop := headerEncodesUptoRow.holds Try.pinned (OpenSpec.upto headerEncodesSpec)

/-- 'fettlelaw07.HeaderOnes', WHERE WHAT IT READS IS OF BULK AT MOST 1048576: true; the input reads as it did. -/
def headerOnesUptoRow : OpenClaim := { program := "ytpmhlomilobgaaa", sum := "d7149a22921ab09d99209e2432583165afa41b84b9e4377c36403284e7926172", func := "fettle/fettlelaw07.HeaderOnes", spec := "headerOnes", apart := false, narrowed := true }
def HeaderOnesUptoSaid : Prop := headerOnesUptoRow.holds Try.pinned (OpenSpec.upto headerOnesSpec)

/-- 'fettletop.TopFrames', WHERE WHAT IT READS IS OF BULK AT MOST 1048576: true; the input reads as it did. -/
def topFramesUptoRow : OpenClaim := { program := "ytpmhlomilobgaaa", sum := "d7149a22921ab09d99209e2432583165afa41b84b9e4377c36403284e7926172", func := "fettle/fettletop.TopFrames", spec := "topFrames", apart := false, narrowed := true }
def TopFramesUptoSaid : Prop := topFramesUptoRow.holds Try.pinned (OpenSpec.upto topFramesSpec)

/-- 'fettlelaw03.ExtentWalks', WHERE WHAT IT READS IS OF BULK AT MOST 1048576: true; the input reads as it did. -/
def extentWalksUptoRow : OpenClaim := { program := "ytpmhlomilobgaaa", sum := "d7149a22921ab09d99209e2432583165afa41b84b9e4377c36403284e7926172", func := "fettle/fettlelaw03.ExtentWalks", spec := "extentWalks", unfollowed := true, recurses := true, apart := false, narrowed := true }
def ExtentWalksUptoSaid : Prop := extentWalksUptoRow.holds Try.pinned (OpenSpec.upto extentWalksSpec)

/-- 'fettlelaw03.ExtentNorms', WHERE WHAT IT READS IS OF BULK AT MOST 1048576: true; the input reads as it did. -/
def extentNormsUptoRow : OpenClaim := { program := "ytpmhlomilobgaaa", sum := "d7149a22921ab09d99209e2432583165afa41b84b9e4377c36403284e7926172", func := "fettle/fettlelaw03.ExtentNorms", spec := "extentNorms", unfollowed := true, recurses := true, apart := false, narrowed := true }
def ExtentNormsUptoSaid : Prop := extentNormsUptoRow.holds Try.pinned (OpenSpec.upto extentNormsSpec)

/-- 'fettlelaw03.ExtentAsks', WHERE WHAT IT READS IS OF BULK AT MOST 1048576: true; the input reads as it did. -/
def extentAsksUptoRow : OpenClaim := { program := "ytpmhlomilobgaaa", sum := "d7149a22921ab09d99209e2432583165afa41b84b9e4377c36403284e7926172", func := "fettle/fettlelaw03.ExtentAsks", spec := "extentAsks", unfollowed := true, recurses := true, apart := false, narrowed := true }
def ExtentAsksUptoSaid : Prop := extentAsksUptoRow.holds Try.pinned (OpenSpec.upto extentAsksSpec)

/-- 'fettlelaw03.ExtentHalves', WHERE WHAT IT READS IS OF BULK AT MOST 1048576: true; the input reads as it did. -/
def extentHalvesUptoRow : OpenClaim := { program := "ytpmhlomilobgaaa", sum := "d7149a22921ab09d99209e2432583165afa41b84b9e4377c36403284e7926172", func := "fettle/fettlelaw03.ExtentHalves", spec := "extentHalves", unfollowed := true, recurses := true, apart := false, narrowed := true }
def ExtentHalvesUptoSaid : Prop := extentHalvesUptoRow.holds Try.pinned (OpenSpec.upto extentHalvesSpec)

/-- 'fettlelaw03.ExtentPairs', WHERE WHAT IT READS IS OF BULK AT MOST 1048576: true; the input reads as it did. -/
def extentPairsUptoRow : OpenClaim := { program := "ytpmhlomilobgaaa", sum := "d7149a22921ab09d99209e2432583165afa41b84b9e4377c36403284e7926172", func := "fettle/fettlelaw03.ExtentPairs", spec := "extentPairs", unfollowed := true, recurses := true, apart := false, narrowed := true }
def ExtentPairsUptoSaid : Prop := extentPairsUptoRow.holds Try.pinned (OpenSpec.upto extentPairsSpec)

/-- 'fettlelaw03.ExtentKeeps', WHERE WHAT IT READS IS OF BULK AT MOST 1048576: true; the input reads as it did. -/
def extentKeepsUptoRow : OpenClaim := { program := "ytpmhlomilobgaaa", sum := "d7149a22921ab09d99209e2432583165afa41b84b9e4377c36403284e7926172", func := "fettle/fettlelaw03.ExtentKeeps", spec := "extentKeeps", unfollowed := true, recurses := true, apart := false, narrowed := true }
def ExtentKeepsUptoSaid : Prop := extentKeepsUptoRow.holds Try.pinned (OpenSpec.upto extentKeepsSpec)

/-- 'fettlelaw03.ExtentSets', WHERE WHAT IT READS IS OF BULK AT MOST 1048576: true; the input reads as it did. -/
def extentSetsUptoRow : OpenClaim := { program := "ytpmhlomilobgaaa", sum := "d7149a22921ab09d99209e2432583165afa41b84b9e4377c36403284e7926172", func := "fettle/fettlelaw03.ExtentSets", spec := "extentSets", unfollowed := true, recurses := true, apart := false, narrowed := true }
def ExtentSetsUptoSaid : Prop := extentSetsUptoRow.holds Try.pinned (OpenSpec.upto extentSetsSpec)

end Rows
end Go.Proofs.Ytpmhlomilobgaaa
