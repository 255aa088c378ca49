/-
  No cell of these rows narrows 'for every input' (looked for: loops, veiled, ifaces, maps, wideKeys, modest, calm, conditions, laid).
  DERIVED. THE GIVEN ROWS OF THIS SEAT. 5 by the template 'for every input the law returns true; each argument reads behind the call as it read before'; 0 by the template 'total and deterministic' (their statements: YtcfmlnddmpiemaaTotals.lean).
  GIVEN WITH THE SEED: the statements are not yours to turn. If you find one false, say at which input.
  Laid BY PROGRAM, IN A SANDBOX (cutbox-rows.mjs): the forced cells as the released guide's own fill.sh prints them over the translation 6ade66734ae568bf… (all of the seat's roots in one cut). By AI agents, Wed Nov 11 2026. No macro, syntax, notation, axiom, sorry.
-/
import Derived.Test.YtcfmlnddmpiemaaChecked
import GoSem.Claim
import GoSem.ClaimJoined
import GoSem.ClaimMapViews
import Derived.JoinedTies
import Derived.KernelRfl
namespace Go.Proofs.Ytcfmlnddmpiemaa
/- THE CELL 'sum', in the pinned program and in every row, IS THE sha256 OF THE DUMP (.gsa) THAT YtcfmlnddmpiemaaProg.lean LOADS. Nothing in Lean hashes anything: it is a label: what it is worth is what the hold of that sum in a sandbox is worth. -/
noncomputable def Try.pinned : Pinned := { name := "ytcfmlnddmpiemaa", sum := "6ade66734ae568bf5ec32a1f52efea8c90d30410ed1ff44d60055039bca9a006", checked := Try.checked }
namespace Rows
def none {H : Type} : Left H := { results := [], args := [] }

/-- 'fettletop.TopTables': WHATEVER THE INPUT: true; the input reads as it did. -/
def topTablesSpec : ChangeSpec := { name := "topTables", fn := fun _ => fun
  | [d1, d2, d3] => { results := [.lit (.bool true)], args := [d1, d2, d3] }
  | _ => none }
def topTablesRow : OpenClaim := { program := "ytcfmlnddmpiemaa", sum := "6ade66734ae568bf5ec32a1f52efea8c90d30410ed1ff44d60055039bca9a006", func := "fettle/fettletop.TopTables", spec := "topTables", recurses := true, apart := false }
def TopTablesSaid : Prop := topTablesRow.holds Try.pinned (OpenSpec.ofChange topTablesSpec)

/-- ITS FALSE NEIGHBOUR: 'it returns false'. Refute it at one input. -/
def topTablesWrong : ChangeSpec := { name := "topTables", fn := fun _ => fun
  | [d1, d2, d3] => { results := [.lit (.bool false)], args := [d1, d2, d3] }
  | _ => none }
def TopTablesWrongFalsely : Prop := topTablesRow.holds Try.pinned (OpenSpec.ofChange topTablesWrong)

/-- 'fettletop.TopAllOrNone': WHATEVER THE INPUT: true; the input reads as it did. -/
def topAllOrNoneSpec : ChangeSpec := { name := "topAllOrNone", fn := fun _ => fun
  | [d1, d2, d3] => { results := [.lit (.bool true)], args := [d1, d2, d3] }
  | _ => none }
def topAllOrNoneRow : OpenClaim := { program := "ytcfmlnddmpiemaa", sum := "6ade66734ae568bf5ec32a1f52efea8c90d30410ed1ff44d60055039bca9a006", func := "fettle/fettletop.TopAllOrNone", spec := "topAllOrNone", unfollowed := true, recurses := true, apart := false }
def TopAllOrNoneSaid : Prop := topAllOrNoneRow.holds Try.pinned (OpenSpec.ofChange topAllOrNoneSpec)

/-- ITS FALSE NEIGHBOUR: 'it returns false'. Refute it at one input. -/
def topAllOrNoneWrong : ChangeSpec := { name := "topAllOrNone", fn := fun _ => fun
  | [d1, d2, d3] => { results := [.lit (.bool false)], args := [d1, d2, d3] }
  | _ => none }
def TopAllOrNoneWrongFalsely : Prop := topAllOrNoneRow.holds Try.pinned (OpenSpec.ofChange topAllOrNoneWrong)

/-- 'fettlelaw06.TxCommits': WHATEVER THE INPUT: true; the input reads as it did. -/
def txCommitsSpec : ChangeSpec := { name := "txCommits", fn := fun _ => fun
  | [d1, d2, d3] => { results := [.lit (.bool true)], args := [d1, d2, d3] }
  | _ => none }
def txCommitsRow : OpenClaim := { program := "ytcfmlnddmpiemaa", sum := "6ade66734ae568bf5ec32a1f52efea8c90d30410ed1ff44d60055039bca9a006", func := "fettle/fettlelaw06.TxCommits", spec := "txCommits", recurses := true, apart := false }
def TxCommitsSaid : Prop := txCommitsRow.holds Try.pinned (OpenSpec.ofChange txCommitsSpec)

/-- ITS FALSE NEIGHBOUR: 'it returns false'. Refute it at one input. -/
def txCommitsWrong : ChangeSpec := { name := "txCommits", fn := fun _ => fun
  | [d1, d2, d3] => { results := [.lit (.bool false)], args := [d1, d2, d3] }
  | _ => none }
def TxCommitsWrongFalsely : Prop := txCommitsRow.holds Try.pinned (OpenSpec.ofChange txCommitsWrong)

/-- 'fettlelaw06.TxCrashes': WHATEVER THE INPUT: true; the input reads as it did. -/
def txCrashesSpec : ChangeSpec := { name := "txCrashes", fn := fun _ => fun
  | [d] => { results := [.lit (.bool true)], args := [d] }
  | _ => none }
def txCrashesRow : OpenClaim := { program := "ytcfmlnddmpiemaa", sum := "6ade66734ae568bf5ec32a1f52efea8c90d30410ed1ff44d60055039bca9a006", func := "fettle/fettlelaw06.TxCrashes", spec := "txCrashes", recurses := true, apart := false }
def TxCrashesSaid : Prop := txCrashesRow.holds Try.pinned (OpenSpec.ofChange txCrashesSpec)

/-- ITS FALSE NEIGHBOUR: 'it returns false'. Refute it at one input. -/
def txCrashesWrong : ChangeSpec := { name := "txCrashes", fn := fun _ => fun
  | [d] => { results := [.lit (.bool false)], args := [d] }
  | _ => none }
def TxCrashesWrongFalsely : Prop := txCrashesRow.holds Try.pinned (OpenSpec.ofChange txCrashesWrong)

/-- 'fettletop.TopFrames': WHATEVER THE INPUT: true; the input reads as it did. -/
def topFramesSpec : ChangeSpec := { name := "topFrames", fn := fun _ => fun
  | [d] => { results := [.lit (.bool true)], args := [d] }
  | _ => none }
def topFramesRow : OpenClaim := { program := "ytcfmlnddmpiemaa", sum := "6ade66734ae568bf5ec32a1f52efea8c90d30410ed1ff44d60055039bca9a006", func := "fettle/fettletop.TopFrames", spec := "topFrames", apart := false }
def TopFramesSaid : Prop := topFramesRow.holds Try.pinned (OpenSpec.ofChange topFramesSpec)

/-- ITS FALSE NEIGHBOUR: 'it returns false'. Refute it at one input. -/
def topFramesWrong : ChangeSpec := { name := "topFrames", fn := fun _ => fun
  | [d] => { results := [.lit (.bool false)], args := [d] }
  | _ => none }
def TopFramesWrongFalsely : Prop := topFramesRow.holds Try.pinned (OpenSpec.ofChange topFramesWrong)

/- THE SECOND FORM. 'bulk': how many values and letters a reading holds, each counted each time it is reached (what is shared counts as often as it is met; a slice's spare places count too). A statement '..UptoSaid' is the law's where the arguments, and the package variables that the reading takes, are together of bulk at most 1048576: NARROWER than '..Said'. Prove '..Said' where nothing that the law and all that it calls make is longer than what came in: it says more and counts as full. Else prove '..UptoSaid'. A law counts once. -/
mutual
def uptoBulk {H : Type} : DataW H → Nat
  | .lit (.string bytes) => bytes.length + 1
  | .lit _ => 1
  | .nil => 1
  | .ptr d => uptoBulk d + 1
  | .slice elems spare => uptoBulkAll elems + uptoBulkAll spare + 1
  | .agg parts => uptoBulkAll parts + 1
  | .iface _ d => uptoBulk d + 1
  | .map entries => uptoBulkEntries entries + 1
  | .held _ => 1
def uptoBulkAll {H : Type} : List (DataW H) → Nat
  | [] => 0
  | d :: r => uptoBulk d + uptoBulkAll r
def uptoBulkEntries {H : Type} : List (Lit × DataW H) → Nat
  | [] => 0
  | x :: r => uptoBulkEntry x + uptoBulkEntries r
def uptoBulkEntry {H : Type} : Lit × DataW H → Nat
  | (.string bytes, d) => bytes.length + uptoBulk d + 1
  | (_, d) => uptoBulk d + 1
 end
def uptoSmall : (H : Type) → List (DataW H) → Bool := fun _ ds => decide (uptoBulkAll ds ≤ 1048576)
def OpenSpec.upto (s : _root_.Go.ChangeSpec) : _root_.Go.OpenSpec := { _root_.Go.OpenSpec.ofChange s with cond := some uptoSmall }

/-- 'fettletop.TopTables', WHERE WHAT IT READS IS OF BULK AT MOST 1048576: true; the input reads as it did. -/
def topTablesUptoRow : OpenClaim := { program := "ytcfmlnddmpiemaa", sum := "6ade66734ae568bf5ec32a1f52efea8c90d30410ed1ff44d60055039bca9a006", func := "fettle/fettletop.TopTables", spec := "topTables", recurses := true, apart := false, narrowed := true }
def TopTablesUptoSaid : Prop := topTablesUptoRow.holds Try.pinned (OpenSpec.upto topTablesSpec)

/-- 'fettletop.TopAllOrNone', WHERE WHAT IT READS IS OF BULK AT MOST 1048576: true; the input reads as it did. -/
def topAllOrNoneUptoRow : OpenClaim := { program := "ytcfmlnddmpiemaa", sum := "6ade66734ae568bf5ec32a1f52efea8c90d30410ed1ff44d60055039bca9a006", func := "fettle/fettletop.TopAllOrNone", spec := "topAllOrNone", unfollowed := true, recurses := true, apart := false, narrowed := true }
def TopAllOrNoneUptoSaid : Prop := topAllOrNoneUptoRow.holds Try.pinned (OpenSpec.upto topAllOrNoneSpec)

/-- 'fettlelaw06.TxCommits', WHERE WHAT IT READS IS OF BULK AT MOST 1048576: true; the input reads as it did. -/
def txCommitsUptoRow : OpenClaim := { program := "ytcfmlnddmpiemaa", sum := "6ade66734ae568bf5ec32a1f52efea8c90d30410ed1ff44d60055039bca9a006", func := "fettle/fettlelaw06.TxCommits", spec := "txCommits", recurses := true, apart := false, narrowed := true }
def TxCommitsUptoSaid : Prop := txCommitsUptoRow.holds Try.pinned (OpenSpec.upto txCommitsSpec)

/-- 'fettlelaw06.TxCrashes', WHERE WHAT IT READS IS OF BULK AT MOST 1048576: true; the input reads as it did. -/
def txCrashesUptoRow : OpenClaim := { program := "ytcfmlnddmpiemaa", sum := "6ade66734ae568bf5ec32a1f52efea8c90d30410ed1ff44d60055039bca9a006", func := "fettle/fettlelaw06.TxCrashes", spec := "txCrashes", recurses := true, apart := false, narrowed := true }
def TxCrashesUptoSaid : Prop := txCrashesUptoRow.holds Try.pinned (OpenSpec.upto txCrashesSpec)

/-- 'fettletop.TopFrames', WHERE WHAT IT READS IS OF BULK AT MOST 1048576: true; the input reads as it did. -/
def topFramesUptoRow : OpenClaim := { program := "ytcfmlnddmpiemaa", sum := "6ade66734ae568bf5ec32a1f52efea8c90d30410ed1ff44d60055039bca9a006", func := "fettle/fettletop.TopFrames", spec := "topFrames", apart := false, narrowed := true }
def TopFramesUptoSaid : Prop := topFramesUptoRow.holds Try.pinned (OpenSpec.upto topFramesSpec)

end Rows
end Go.Proofs.Ytcfmlnddmpiemaa
