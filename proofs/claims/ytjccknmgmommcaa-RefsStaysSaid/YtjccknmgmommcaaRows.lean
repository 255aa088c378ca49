/-
  No cell of these rows narrows 'for every input' (looked for: loops, veiled, ifaces, maps, wideKeys, modest, calm, conditions, laid).
  DERIVED. THE GIVEN ROWS OF THIS SEAT. 12 by the template 'for every input the law returns true; each argument reads behind the call as it read before'; 0 by the template 'total and deterministic' (their statements: YtjccknmgmommcaaTotals.lean).
  GIVEN WITH THE SEED: the statements are not yours to turn. If you find one false, say at which input.
  Laid BY PROGRAM, IN A SANDBOX (cutbox-rows.mjs): the forced cells as the released guide's own fill.sh prints them over the translation 5fc7f74a7fc7239d… (all of the seat's roots in one cut). By AI agents, Wed Nov 11 2026. No macro, syntax, notation, axiom, sorry.
-/
import Derived.Test.YtjccknmgmommcaaChecked
import GoSem.Claim
import GoSem.ClaimJoined
import GoSem.ClaimMapViews
import Derived.JoinedTies
import Derived.KernelRfl
namespace Go.Proofs.Ytjccknmgmommcaa
/- THE CELL 'sum', in the pinned program and in every row, IS THE sha256 OF THE DUMP (.gsa) THAT YtjccknmgmommcaaProg.lean LOADS. Nothing in Lean hashes anything: it is a label: what it is worth is what the hold of that sum in a sandbox is worth. -/
noncomputable def Try.pinned : Pinned := { name := "ytjccknmgmommcaa", sum := "5fc7f74a7fc7239d7fd7ae29a67b203caf220de668e47177c422f802ba9ad356", checked := Try.checked }
namespace Rows
def none {H : Type} : Left H := { results := [], args := [] }

/-- 'fettlelaw04.DiskSectors': WHATEVER THE INPUT: true; the input reads as it did. -/
def diskSectorsSpec : ChangeSpec := { name := "diskSectors", fn := fun _ => fun
  | [d1, d2, d3] => { results := [.lit (.bool true)], args := [d1, d2, d3] }
  | _ => none }
def diskSectorsRow : OpenClaim := { program := "ytjccknmgmommcaa", sum := "5fc7f74a7fc7239d7fd7ae29a67b203caf220de668e47177c422f802ba9ad356", func := "fettle/fettlelaw04.DiskSectors", spec := "diskSectors", apart := false }
def DiskSectorsSaid : Prop := diskSectorsRow.holds Try.pinned (OpenSpec.ofChange diskSectorsSpec)

/-- ITS FALSE NEIGHBOUR: 'it returns false'. Refute it at one input. -/
def diskSectorsWrong : ChangeSpec := { name := "diskSectors", fn := fun _ => fun
  | [d1, d2, d3] => { results := [.lit (.bool false)], args := [d1, d2, d3] }
  | _ => none }
def DiskSectorsWrongFalsely : Prop := diskSectorsRow.holds Try.pinned (OpenSpec.ofChange diskSectorsWrong)

/-- 'fettlelaw04.DiskSafe': WHATEVER THE INPUT: true; the input reads as it did. -/
def diskSafeSpec : ChangeSpec := { name := "diskSafe", fn := fun _ => fun
  | [d1, d2, d3] => { results := [.lit (.bool true)], args := [d1, d2, d3] }
  | _ => none }
def diskSafeRow : OpenClaim := { program := "ytjccknmgmommcaa", sum := "5fc7f74a7fc7239d7fd7ae29a67b203caf220de668e47177c422f802ba9ad356", func := "fettle/fettlelaw04.DiskSafe", spec := "diskSafe", apart := false }
def DiskSafeSaid : Prop := diskSafeRow.holds Try.pinned (OpenSpec.ofChange diskSafeSpec)

/-- ITS FALSE NEIGHBOUR: 'it returns false'. Refute it at one input. -/
def diskSafeWrong : ChangeSpec := { name := "diskSafe", fn := fun _ => fun
  | [d1, d2, d3] => { results := [.lit (.bool false)], args := [d1, d2, d3] }
  | _ => none }
def DiskSafeWrongFalsely : Prop := diskSafeRow.holds Try.pinned (OpenSpec.ofChange diskSafeWrong)

/-- 'fettlelaw04.DiskRefuses': WHATEVER THE INPUT: true; the input reads as it did. -/
def diskRefusesSpec : ChangeSpec := { name := "diskRefuses", fn := fun _ => fun
  | [d1, d2, d3] => { results := [.lit (.bool true)], args := [d1, d2, d3] }
  | _ => none }
def diskRefusesRow : OpenClaim := { program := "ytjccknmgmommcaa", sum := "5fc7f74a7fc7239d7fd7ae29a67b203caf220de668e47177c422f802ba9ad356", func := "fettle/fettlelaw04.DiskRefuses", spec := "diskRefuses", apart := false }
def DiskRefusesSaid : Prop := diskRefusesRow.holds Try.pinned (OpenSpec.ofChange diskRefusesSpec)

/-- ITS FALSE NEIGHBOUR: 'it returns false'. Refute it at one input. -/
def diskRefusesWrong : ChangeSpec := { name := "diskRefuses", fn := fun _ => fun
  | [d1, d2, d3] => { results := [.lit (.bool false)], args := [d1, d2, d3] }
  | _ => none }
def DiskRefusesWrongFalsely : Prop := diskRefusesRow.holds Try.pinned (OpenSpec.ofChange diskRefusesWrong)

/-- 'fettlelaw04.DiskNils': WHATEVER THE INPUT: true; the input reads as it did. -/
def diskNilsSpec : ChangeSpec := { name := "diskNils", fn := fun _ => fun
  | [d1, d2, d3] => { results := [.lit (.bool true)], args := [d1, d2, d3] }
  | _ => none }
def diskNilsRow : OpenClaim := { program := "ytjccknmgmommcaa", sum := "5fc7f74a7fc7239d7fd7ae29a67b203caf220de668e47177c422f802ba9ad356", func := "fettle/fettlelaw04.DiskNils", spec := "diskNils", apart := false }
def DiskNilsSaid : Prop := diskNilsRow.holds Try.pinned (OpenSpec.ofChange diskNilsSpec)

/-- ITS FALSE NEIGHBOUR: 'it returns false'. Refute it at one input. -/
def diskNilsWrong : ChangeSpec := { name := "diskNils", fn := fun _ => fun
  | [d1, d2, d3] => { results := [.lit (.bool false)], args := [d1, d2, d3] }
  | _ => none }
def DiskNilsWrongFalsely : Prop := diskNilsRow.holds Try.pinned (OpenSpec.ofChange diskNilsWrong)

/-- 'fettlelaw09.MapsTables': WHATEVER THE INPUT: true; the input reads as it did. -/
def mapsTablesSpec : ChangeSpec := { name := "mapsTables", fn := fun _ => fun
  | [d1, d2, d3] => { results := [.lit (.bool true)], args := [d1, d2, d3] }
  | _ => none }
def mapsTablesRow : OpenClaim := { program := "ytjccknmgmommcaa", sum := "5fc7f74a7fc7239d7fd7ae29a67b203caf220de668e47177c422f802ba9ad356", func := "fettle/fettlelaw09.MapsTables", spec := "mapsTables", apart := false }
def MapsTablesSaid : Prop := mapsTablesRow.holds Try.pinned (OpenSpec.ofChange mapsTablesSpec)

/-- ITS FALSE NEIGHBOUR: 'it returns false'. Refute it at one input. -/
def mapsTablesWrong : ChangeSpec := { name := "mapsTables", fn := fun _ => fun
  | [d1, d2, d3] => { results := [.lit (.bool false)], args := [d1, d2, d3] }
  | _ => none }
def MapsTablesWrongFalsely : Prop := mapsTablesRow.holds Try.pinned (OpenSpec.ofChange mapsTablesWrong)

/-- 'fettlelaw09.MapsNils': WHATEVER THE INPUT: true; the input reads as it did. -/
def mapsNilsSpec : ChangeSpec := { name := "mapsNils", fn := fun _ => fun
  | [d1, d2] => { results := [.lit (.bool true)], args := [d1, d2] }
  | _ => none }
def mapsNilsRow : OpenClaim := { program := "ytjccknmgmommcaa", sum := "5fc7f74a7fc7239d7fd7ae29a67b203caf220de668e47177c422f802ba9ad356", func := "fettle/fettlelaw09.MapsNils", spec := "mapsNils", apart := false }
def MapsNilsSaid : Prop := mapsNilsRow.holds Try.pinned (OpenSpec.ofChange mapsNilsSpec)

/-- ITS FALSE NEIGHBOUR: 'it returns false'. Refute it at one input. -/
def mapsNilsWrong : ChangeSpec := { name := "mapsNils", fn := fun _ => fun
  | [d1, d2] => { results := [.lit (.bool false)], args := [d1, d2] }
  | _ => none }
def MapsNilsWrongFalsely : Prop := mapsNilsRow.holds Try.pinned (OpenSpec.ofChange mapsNilsWrong)

/-- 'fettlelaw08.RefsNils': WHATEVER THE INPUT: true; the input reads as it did. -/
def refsNilsSpec : ChangeSpec := { name := "refsNils", fn := fun _ => fun
  | [d1, d2] => { results := [.lit (.bool true)], args := [d1, d2] }
  | _ => none }
def refsNilsRow : OpenClaim := { program := "ytjccknmgmommcaa", sum := "5fc7f74a7fc7239d7fd7ae29a67b203caf220de668e47177c422f802ba9ad356", func := "fettle/fettlelaw08.RefsNils", spec := "refsNils", apart := false }
def RefsNilsSaid : Prop := refsNilsRow.holds Try.pinned (OpenSpec.ofChange refsNilsSpec)

/-- ITS FALSE NEIGHBOUR: 'it returns false'. Refute it at one input. -/
def refsNilsWrong : ChangeSpec := { name := "refsNils", fn := fun _ => fun
  | [d1, d2] => { results := [.lit (.bool false)], args := [d1, d2] }
  | _ => none }
def RefsNilsWrongFalsely : Prop := refsNilsRow.holds Try.pinned (OpenSpec.ofChange refsNilsWrong)

/-- 'fettlelaw08.RefsStays': WHATEVER THE INPUT: true; the input reads as it did. -/
def refsStaysSpec : ChangeSpec := { name := "refsStays", fn := fun _ => fun
  | [d1, d2] => { results := [.lit (.bool true)], args := [d1, d2] }
  | _ => none }
def refsStaysRow : OpenClaim := { program := "ytjccknmgmommcaa", sum := "5fc7f74a7fc7239d7fd7ae29a67b203caf220de668e47177c422f802ba9ad356", func := "fettle/fettlelaw08.RefsStays", spec := "refsStays", recurses := true, apart := false }
def RefsStaysSaid : Prop := refsStaysRow.holds Try.pinned (OpenSpec.ofChange refsStaysSpec)

/-- ITS FALSE NEIGHBOUR: 'it returns false'. Refute it at one input. -/
def refsStaysWrong : ChangeSpec := { name := "refsStays", fn := fun _ => fun
  | [d1, d2] => { results := [.lit (.bool false)], args := [d1, d2] }
  | _ => none }
def RefsStaysWrongFalsely : Prop := refsStaysRow.holds Try.pinned (OpenSpec.ofChange refsStaysWrong)

/-- 'fettlelaw05.JournalNils': WHATEVER THE INPUT: true; the input reads as it did. -/
def journalNilsSpec : ChangeSpec := { name := "journalNils", fn := fun _ => fun
  | [d1, d2, d3] => { results := [.lit (.bool true)], args := [d1, d2, d3] }
  | _ => none }
def journalNilsRow : OpenClaim := { program := "ytjccknmgmommcaa", sum := "5fc7f74a7fc7239d7fd7ae29a67b203caf220de668e47177c422f802ba9ad356", func := "fettle/fettlelaw05.JournalNils", spec := "journalNils", apart := false }
def JournalNilsSaid : Prop := journalNilsRow.holds Try.pinned (OpenSpec.ofChange journalNilsSpec)

/-- ITS FALSE NEIGHBOUR: 'it returns false'. Refute it at one input. -/
def journalNilsWrong : ChangeSpec := { name := "journalNils", fn := fun _ => fun
  | [d1, d2, d3] => { results := [.lit (.bool false)], args := [d1, d2, d3] }
  | _ => none }
def JournalNilsWrongFalsely : Prop := journalNilsRow.holds Try.pinned (OpenSpec.ofChange journalNilsWrong)

/-- 'fettlelaw05.JournalCrashes': WHATEVER THE INPUT: true; the input reads as it did. -/
def journalCrashesSpec : ChangeSpec := { name := "journalCrashes", fn := fun _ => fun
  | [d1, d2, d3] => { results := [.lit (.bool true)], args := [d1, d2, d3] }
  | _ => none }
def journalCrashesRow : OpenClaim := { program := "ytjccknmgmommcaa", sum := "5fc7f74a7fc7239d7fd7ae29a67b203caf220de668e47177c422f802ba9ad356", func := "fettle/fettlelaw05.JournalCrashes", spec := "journalCrashes", apart := false }
def JournalCrashesSaid : Prop := journalCrashesRow.holds Try.pinned (OpenSpec.ofChange journalCrashesSpec)

/-- ITS FALSE NEIGHBOUR: 'it returns false'. Refute it at one input. -/
def journalCrashesWrong : ChangeSpec := { name := "journalCrashes", fn := fun _ => fun
  | [d1, d2, d3] => { results := [.lit (.bool false)], args := [d1, d2, d3] }
  | _ => none }
def JournalCrashesWrongFalsely : Prop := journalCrashesRow.holds Try.pinned (OpenSpec.ofChange journalCrashesWrong)

/-- 'fettlelaw06.TxNils': WHATEVER THE INPUT: true; the input reads as it did. -/
def txNilsSpec : ChangeSpec := { name := "txNils", fn := fun _ => fun
  | [d1, d2, d3] => { results := [.lit (.bool true)], args := [d1, d2, d3] }
  | _ => none }
def txNilsRow : OpenClaim := { program := "ytjccknmgmommcaa", sum := "5fc7f74a7fc7239d7fd7ae29a67b203caf220de668e47177c422f802ba9ad356", func := "fettle/fettlelaw06.TxNils", spec := "txNils", recurses := true, apart := false }
def TxNilsSaid : Prop := txNilsRow.holds Try.pinned (OpenSpec.ofChange txNilsSpec)

/-- ITS FALSE NEIGHBOUR: 'it returns false'. Refute it at one input. -/
def txNilsWrong : ChangeSpec := { name := "txNils", fn := fun _ => fun
  | [d1, d2, d3] => { results := [.lit (.bool false)], args := [d1, d2, d3] }
  | _ => none }
def TxNilsWrongFalsely : Prop := txNilsRow.holds Try.pinned (OpenSpec.ofChange txNilsWrong)

/-- 'fettlelaw06.TxPlays': WHATEVER THE INPUT: true; the input reads as it did. -/
def txPlaysSpec : ChangeSpec := { name := "txPlays", fn := fun _ => fun
  | [d1, d2, d3] => { results := [.lit (.bool true)], args := [d1, d2, d3] }
  | _ => none }
def txPlaysRow : OpenClaim := { program := "ytjccknmgmommcaa", sum := "5fc7f74a7fc7239d7fd7ae29a67b203caf220de668e47177c422f802ba9ad356", func := "fettle/fettlelaw06.TxPlays", spec := "txPlays", recurses := true, apart := false }
def TxPlaysSaid : Prop := txPlaysRow.holds Try.pinned (OpenSpec.ofChange txPlaysSpec)

/-- ITS FALSE NEIGHBOUR: 'it returns false'. Refute it at one input. -/
def txPlaysWrong : ChangeSpec := { name := "txPlays", fn := fun _ => fun
  | [d1, d2, d3] => { results := [.lit (.bool false)], args := [d1, d2, d3] }
  | _ => none }
def TxPlaysWrongFalsely : Prop := txPlaysRow.holds Try.pinned (OpenSpec.ofChange txPlaysWrong)

/- THE SECOND FORM. 'bulk': how many values and letters a reading holds, each counted each time it is reached (what is shared counts as often as it is met; a slice's spare places count too). A statement '..UptoSaid' is the law's where the arguments, and the package variables that the reading takes, are together of bulk at most 1048576: NARROWER than '..Said'. Prove '..Said' where nothing that the law and all that it calls make is longer than what came in: it says more and counts as full. Else prove '..UptoSaid'. A law counts once. -/
mutual
def uptoBulk {H : Type} : DataW H → Nat
  | .lit (.string bytes) => bytes.length + 1
  | .lit _ => 1
  | .nil => 1
  | .ptr d => uptoBulk d + 1
  | .slice elems spare => uptoBulkAll elems + uptoBulkAll spare + 1
  | .agg parts => uptoBulkAll parts + 1
  | .iface _ d => uptoBulk d + 1
  | .map entries => uptoBulkEntries entries + 1
  | .held _ => 1
def uptoBulkAll {H : Type} : List (DataW H) → Nat
  | [] => 0
  | d :: r => uptoBulk d + uptoBulkAll r
def uptoBulkEntries {H : Type} : List (Lit × DataW H) → Nat
  | [] => 0
  | x :: r => uptoBulkEntry x + uptoBulkEntries r
def uptoBulkEntry {H : Type} : Lit × DataW H → Nat
  | (.string bytes, d) => bytes.length + uptoBulk d + 1
  | (_, d) => uptoBulk d + 1
 end
def uptoSmall : (H : Type) → List (DataW H) → Bool := fun _ ds => decide (uptoBulkAll ds ≤ 1048576)
def OpenSpec.upto (s : _root_.Go.ChangeSpec) : _root_.Go.OpenSpec := { _root_.Go.OpenSpec.ofChange s with cond := some uptoSmall }

/-- 'fettlelaw04.DiskSectors', WHERE WHAT IT READS IS OF BULK AT MOST 1048576: true; the input reads as it did. -/
def diskSectorsUptoRow : OpenClaim := { program := "ytjccknmgmommcaa", sum := "5fc7f74a7fc7239d7fd7ae29a67b203caf220de668e47177c422f802ba9ad356", func := "fettle/fettlelaw04.DiskSectors", spec := "diskSectors", apart := false, narrowed := true }
def DiskSectorsUptoSaid : Prop := diskSectorsUptoRow.holds Try.pinned (OpenSpec.upto diskSectorsSpec)

/-- 'fettlelaw04.DiskSafe', WHERE WHAT IT READS IS OF BULK AT MOST 1048576: true; the input reads as it did. -/
def diskSafeUptoRow : OpenClaim := { program := "ytjccknmgmommcaa", sum := "5fc7f74a7fc7239d7fd7ae29a67b203caf220de668e47177c422f802ba9ad356", func := "fettle/fettlelaw04.DiskSafe", spec := "diskSafe", apart := false, narrowed := true }
def DiskSafeUptoSaid : Prop := diskSafeUptoRow.holds Try.pinned (OpenSpec.upto diskSafeSpec)

/-- 'fettlelaw04.DiskRefuses', WHERE WHAT IT READS IS OF BULK AT MOST 1048576: true; the input reads as it did. -/
def diskRefusesUptoRow : OpenClaim := { program := "ytjccknmgmommcaa", sum := "5fc7f74a7fc7239d7fd7ae29a67b203caf220de668e47177c422f802ba9ad356", func := "fettle/fettlelaw04.DiskRefuses", spec := "diskRefuses", apart := false, narrowed := true }
def DiskRefusesUptoSaid : Prop := diskRefusesUptoRow.holds Try.pinned (OpenSpec.upto diskRefusesSpec)

/-- 'fettlelaw04.DiskNils', WHERE WHAT IT READS IS OF BULK AT MOST 1048576: true; the input reads as it did. -/
def diskNilsUptoRow : OpenClaim := { program := "ytjccknmgmommcaa", sum := "5fc7f74a7fc7239d7fd7ae29a67b203caf220de668e47177c422f802ba9ad356", func := "fettle/fettlelaw04.DiskNils", spec := "diskNils", apart := false, narrowed := true }
def DiskNilsUptoSaid : Prop := diskNilsUptoRow.holds Try.pinned (OpenSpec.upto diskNilsSpec)

/-- 'fettlelaw09.MapsTables', WHERE WHAT IT READS IS OF BULK AT MOST 1048576: true; the input reads as it did. -/
def mapsTablesUptoRow : OpenClaim := { program := "ytjccknmgmommcaa", sum := "5fc7f74a7fc7239d7fd7ae29a67b203caf220de668e47177c422f802ba9ad356", func := "fettle/fettlelaw09.MapsTables", spec := "mapsTables", apart := false, narrowed := true }
def MapsTablesUptoSaid : Prop := mapsTablesUptoRow.holds Try.pinned (OpenSpec.upto mapsTablesSpec)

/-- 'fettlelaw09.MapsNils', WHERE WHAT IT READS IS OF BULK AT MOST 1048576: true; the input reads as it did. -/
def mapsNilsUptoRow : OpenClaim := { program := "ytjccknmgmommcaa", sum := "5fc7f74a7fc7239d7fd7ae29a67b203caf220de668e47177c422f802ba9ad356", func := "fettle/fettlelaw09.MapsNils", spec := "mapsNils", apart := false, narrowed := true }
def MapsNilsUptoSaid : Prop := mapsNilsUptoRow.holds Try.pinned (OpenSpec.upto mapsNilsSpec)

/-- 'fettlelaw08.RefsNils', WHERE WHAT IT READS IS OF BULK AT MOST 1048576: true; the input reads as it did. -/
def refsNilsUptoRow : OpenClaim := { program := "ytjccknmgmommcaa", sum := "5fc7f74a7fc7239d7fd7ae29a67b203caf220de668e47177c422f802ba9ad356", func := "fettle/fettlelaw08.RefsNils", spec := "refsNils", apart := false, narrowed := true }
def RefsNilsUptoSaid : Prop := refsNilsUptoRow.holds Try.pinned (OpenSpec.upto refsNilsSpec)

/-- 'fettlelaw08.RefsStays', WHERE WHAT IT READS IS OF BULK AT MOST 1048576: true; the input reads as it did. -/
def refsStaysUptoRow : OpenClaim := { program := "ytjccknmgmommcaa", sum := "5fc7f74a7fc7239d7fd7ae29a67b203caf220de668e47177c422f802ba9ad356", func := "fettle/fettlelaw08.RefsStays", spec := "refsStays", recurses := true, apart := false, narrowed := true }
def RefsStaysUptoSaid : Prop := refsStaysUptoRow.holds Try.pinned (OpenSpec.upto refsStaysSpec)

/-- 'fettlelaw05.JournalNils', WHERE WHAT IT READS IS OF BULK AT MOST 1048576: true; the input reads as it did. -/
def journalNilsUptoRow : OpenClaim := { program := "ytjccknmgmommcaa", sum := "5fc7f74a7fc7239d7fd7ae29a67b203caf220de668e47177c422f802ba9ad356", func := "fettle/fettlelaw05.JournalNils", spec := "journalNils", apart := false, narrowed := true }
def JournalNilsUptoSaid : Prop := journalNilsUptoRow.holds Try.pinned (OpenSpec.upto journalNilsSpec)

/-- 'fettlelaw05.JournalCrashes', WHERE WHAT IT READS IS OF BULK AT MOST 1048576: true; the input reads as it did. -/
def journalCrashesUptoRow : OpenClaim := { program := "ytjccknmgmommcaa", sum := "5fc7f74a7fc7239d7fd7ae29a67b203caf220de668e47177c422f802ba9ad356", func := "fettle/fettlelaw05.JournalCrashes", spec := "journalCrashes", apart := false, narrowed := true }
def JournalCrashesUptoSaid : Prop := journalCrashesUptoRow.holds Try.pinned (OpenSpec.upto journalCrashesSpec)

/-- 'fettlelaw06.TxNils', WHERE WHAT IT READS IS OF BULK AT MOST 1048576: true; the input reads as it did. -/
def txNilsUptoRow : OpenClaim := { program := "ytjccknmgmommcaa", sum := "5fc7f74a7fc7239d7fd7ae29a67b203caf220de668e47177c422f802ba9ad356", func := "fettle/fettlelaw06.TxNils", spec := "txNils", recurses := true, apart := false, narrowed := true }
def TxNilsUptoSaid : Prop := txNilsUptoRow.holds Try.pinned (OpenSpec.upto txNilsSpec)

/-- 'fettlelaw06.TxPlays', WHERE WHAT IT READS IS OF BULK AT MOST 1048576: true; the input reads as it did. -/
def txPlaysUptoRow : OpenClaim := { program := "ytjccknmgmommcaa", sum := "5fc7f74a7fc7239d7fd7ae29a67b203caf220de668e47177c422f802ba9ad356", func := "fettle/fettlelaw06.TxPlays", spec := "txPlays", recurses := true, apart := false, narrowed := true }
def TxPlaysUptoSaid : Prop := txPlaysUptoRow.holds Try.pinned (OpenSpec.upto txPlaysSpec)

end Rows
end Go.Proofs.Ytjccknmgmommcaa
