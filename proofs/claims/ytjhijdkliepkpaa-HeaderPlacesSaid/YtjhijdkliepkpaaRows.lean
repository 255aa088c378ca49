/-
  No cell of these rows narrows 'for every input' (looked for: loops, veiled, ifaces, maps, wideKeys, modest, calm, conditions, laid).
  DERIVED. THE GIVEN ROWS OF THIS SEAT. 12 by the template 'for every input the law returns true; each argument reads behind the call as it read before'; 0 by the template 'total and deterministic' (their statements: YtjhijdkliepkpaaTotals.lean).
  GIVEN WITH THE SEED: the statements are not yours to turn. If you find one false, say at which input.
  Laid BY PROGRAM, IN A SANDBOX (cutbox-rows.mjs): the forced cells as the released guide's own fill.sh prints them over the translation 15ea14aafe944d1d… (all of the seat's roots in one cut). By AI agents, Wed Nov 11 2026. No macro, syntax, notation, axiom, sorry.
-/
import Derived.Test.YtjhijdkliepkpaaChecked
import GoSem.Claim
import GoSem.ClaimJoined
import GoSem.ClaimMapViews
import Derived.JoinedTies
import Derived.KernelRfl
namespace Go.Proofs.Ytjhijdkliepkpaa
/- THE CELL 'sum', in the pinned program and in every row, IS THE sha256 OF THE DUMP (.gsa) THAT YtjhijdkliepkpaaProg.lean LOADS. Nothing in Lean hashes anything: it is a label: what it is worth is what the hold of that sum in a sandbox is worth. -/
noncomputable def Try.pinned : Pinned := { name := "ytjhijdkliepkpaa", sum := "15ea14aafe944d1d6dd81e6636a5638d993cd089f40551b40d47d93cf3178379", checked := Try.checked }
namespace Rows
def none {H : Type} : Left H := { results := [], args := [] }

/-- 'fettlelaw01.OctetReads': WHATEVER THE INPUT: true; the input reads as it did. -/
def octetReadsSpec : ChangeSpec := { name := "octetReads", fn := fun _ => fun
  | [d1, d2] => { results := [.lit (.bool true)], args := [d1, d2] }
  | _ => none }
def octetReadsRow : OpenClaim := { program := "ytjhijdkliepkpaa", sum := "15ea14aafe944d1d6dd81e6636a5638d993cd089f40551b40d47d93cf3178379", func := "fettle/fettlelaw01.OctetReads", spec := "octetReads", apart := false }
def OctetReadsSaid : Prop := octetReadsRow.holds Try.pinned (OpenSpec.ofChange octetReadsSpec)

/-- ITS FALSE NEIGHBOUR: 'it returns false'. Refute it at one input. -/
def octetReadsWrong : ChangeSpec := { name := "octetReads", fn := fun _ => fun
  | [d1, d2] => { results := [.lit (.bool false)], args := [d1, d2] }
  | _ => none }
def OctetReadsWrongFalsely : Prop := octetReadsRow.holds Try.pinned (OpenSpec.ofChange octetReadsWrong)

/-- 'fettlelaw09.MapsEncodes': WHATEVER THE INPUT: true; the input reads as it did. -/
def mapsEncodesSpec : ChangeSpec := { name := "mapsEncodes", fn := fun _ => fun
  | [d] => { results := [.lit (.bool true)], args := [d] }
  | _ => none }
def mapsEncodesRow : OpenClaim := { program := "ytjhijdkliepkpaa", sum := "15ea14aafe944d1d6dd81e6636a5638d993cd089f40551b40d47d93cf3178379", func := "fettle/fettlelaw09.MapsEncodes", spec := "mapsEncodes", apart := false }
def MapsEncodesSaid : Prop := mapsEncodesRow.holds Try.pinned (OpenSpec.ofChange mapsEncodesSpec)

/-- ITS FALSE NEIGHBOUR: 'it returns false'. Refute it at one input. -/
def mapsEncodesWrong : ChangeSpec := { name := "mapsEncodes", fn := fun _ => fun
  | [d] => { results := [.lit (.bool false)], args := [d] }
  | _ => none }
def MapsEncodesWrongFalsely : Prop := mapsEncodesRow.holds Try.pinned (OpenSpec.ofChange mapsEncodesWrong)

/-- 'fettlelaw09.MapsDecodes': WHATEVER THE INPUT: true; the input reads as it did. -/
def mapsDecodesSpec : ChangeSpec := { name := "mapsDecodes", fn := fun _ => fun
  | [d] => { results := [.lit (.bool true)], args := [d] }
  | _ => none }
def mapsDecodesRow : OpenClaim := { program := "ytjhijdkliepkpaa", sum := "15ea14aafe944d1d6dd81e6636a5638d993cd089f40551b40d47d93cf3178379", func := "fettle/fettlelaw09.MapsDecodes", spec := "mapsDecodes", apart := false }
def MapsDecodesSaid : Prop := mapsDecodesRow.holds Try.pinned (OpenSpec.ofChange mapsDecodesSpec)

/-- ITS FALSE NEIGHBOUR: 'it returns false'. Refute it at one input. -/
def mapsDecodesWrong : ChangeSpec := { name := "mapsDecodes", fn := fun _ => fun
  | [d] => { results := [.lit (.bool false)], args := [d] }
  | _ => none }
def MapsDecodesWrongFalsely : Prop := mapsDecodesRow.holds Try.pinned (OpenSpec.ofChange mapsDecodesWrong)

/-- 'fettlelaw01.OctetSames': WHATEVER THE INPUT: true; the input reads as it did. -/
def octetSamesSpec : ChangeSpec := { name := "octetSames", fn := fun _ => fun
  | [d1, d2] => { results := [.lit (.bool true)], args := [d1, d2] }
  | _ => none }
def octetSamesRow : OpenClaim := { program := "ytjhijdkliepkpaa", sum := "15ea14aafe944d1d6dd81e6636a5638d993cd089f40551b40d47d93cf3178379", func := "fettle/fettlelaw01.OctetSames", spec := "octetSames", apart := false }
def OctetSamesSaid : Prop := octetSamesRow.holds Try.pinned (OpenSpec.ofChange octetSamesSpec)

/-- ITS FALSE NEIGHBOUR: 'it returns false'. Refute it at one input. -/
def octetSamesWrong : ChangeSpec := { name := "octetSames", fn := fun _ => fun
  | [d1, d2] => { results := [.lit (.bool false)], args := [d1, d2] }
  | _ => none }
def OctetSamesWrongFalsely : Prop := octetSamesRow.holds Try.pinned (OpenSpec.ofChange octetSamesWrong)

/-- 'fettlelaw01.OctetHalves': WHATEVER THE INPUT: true; the input reads as it did. -/
def octetHalvesSpec : ChangeSpec := { name := "octetHalves", fn := fun _ => fun
  | [d] => { results := [.lit (.bool true)], args := [d] }
  | _ => none }
def octetHalvesRow : OpenClaim := { program := "ytjhijdkliepkpaa", sum := "15ea14aafe944d1d6dd81e6636a5638d993cd089f40551b40d47d93cf3178379", func := "fettle/fettlelaw01.OctetHalves", spec := "octetHalves", apart := false }
def OctetHalvesSaid : Prop := octetHalvesRow.holds Try.pinned (OpenSpec.ofChange octetHalvesSpec)

/-- ITS FALSE NEIGHBOUR: 'it returns false'. Refute it at one input. -/
def octetHalvesWrong : ChangeSpec := { name := "octetHalves", fn := fun _ => fun
  | [d] => { results := [.lit (.bool false)], args := [d] }
  | _ => none }
def OctetHalvesWrongFalsely : Prop := octetHalvesRow.holds Try.pinned (OpenSpec.ofChange octetHalvesWrong)

/-- 'fettlelaw01.OctetWrites': WHATEVER THE INPUT: true; the input reads as it did. -/
def octetWritesSpec : ChangeSpec := { name := "octetWrites", fn := fun _ => fun
  | [d] => { results := [.lit (.bool true)], args := [d] }
  | _ => none }
def octetWritesRow : OpenClaim := { program := "ytjhijdkliepkpaa", sum := "15ea14aafe944d1d6dd81e6636a5638d993cd089f40551b40d47d93cf3178379", func := "fettle/fettlelaw01.OctetWrites", spec := "octetWrites", apart := false }
def OctetWritesSaid : Prop := octetWritesRow.holds Try.pinned (OpenSpec.ofChange octetWritesSpec)

/-- ITS FALSE NEIGHBOUR: 'it returns false'. Refute it at one input. -/
def octetWritesWrong : ChangeSpec := { name := "octetWrites", fn := fun _ => fun
  | [d] => { results := [.lit (.bool false)], args := [d] }
  | _ => none }
def OctetWritesWrongFalsely : Prop := octetWritesRow.holds Try.pinned (OpenSpec.ofChange octetWritesWrong)

/-- 'fettlelaw01.OctetBack': WHATEVER THE INPUT: true; the input reads as it did. -/
def octetBackSpec : ChangeSpec := { name := "octetBack", fn := fun _ => fun
  | [d1, d2, d3] => { results := [.lit (.bool true)], args := [d1, d2, d3] }
  | _ => none }
def octetBackRow : OpenClaim := { program := "ytjhijdkliepkpaa", sum := "15ea14aafe944d1d6dd81e6636a5638d993cd089f40551b40d47d93cf3178379", func := "fettle/fettlelaw01.OctetBack", spec := "octetBack", apart := false }
def OctetBackSaid : Prop := octetBackRow.holds Try.pinned (OpenSpec.ofChange octetBackSpec)

/-- ITS FALSE NEIGHBOUR: 'it returns false'. Refute it at one input. -/
def octetBackWrong : ChangeSpec := { name := "octetBack", fn := fun _ => fun
  | [d1, d2, d3] => { results := [.lit (.bool false)], args := [d1, d2, d3] }
  | _ => none }
def OctetBackWrongFalsely : Prop := octetBackRow.holds Try.pinned (OpenSpec.ofChange octetBackWrong)

/-- 'fettlelaw01.OctetJoins': WHATEVER THE INPUT: true; the input reads as it did. -/
def octetJoinsSpec : ChangeSpec := { name := "octetJoins", fn := fun _ => fun
  | [d1, d2] => { results := [.lit (.bool true)], args := [d1, d2] }
  | _ => none }
def octetJoinsRow : OpenClaim := { program := "ytjhijdkliepkpaa", sum := "15ea14aafe944d1d6dd81e6636a5638d993cd089f40551b40d47d93cf3178379", func := "fettle/fettlelaw01.OctetJoins", spec := "octetJoins", apart := false }
def OctetJoinsSaid : Prop := octetJoinsRow.holds Try.pinned (OpenSpec.ofChange octetJoinsSpec)

/-- ITS FALSE NEIGHBOUR: 'it returns false'. Refute it at one input. -/
def octetJoinsWrong : ChangeSpec := { name := "octetJoins", fn := fun _ => fun
  | [d1, d2] => { results := [.lit (.bool false)], args := [d1, d2] }
  | _ => none }
def OctetJoinsWrongFalsely : Prop := octetJoinsRow.holds Try.pinned (OpenSpec.ofChange octetJoinsWrong)

/-- 'fettlelaw07.HeaderPlaces': WHATEVER THE INPUT: true; the input reads as it did. -/
def headerPlacesSpec : ChangeSpec := { name := "headerPlaces", fn := fun _ => fun
  | [d] => { results := [.lit (.bool true)], args := [d] }
  | _ => none }
def headerPlacesRow : OpenClaim := { program := "ytjhijdkliepkpaa", sum := "15ea14aafe944d1d6dd81e6636a5638d993cd089f40551b40d47d93cf3178379", func := "fettle/fettlelaw07.HeaderPlaces", spec := "headerPlaces", apart := false }
def HeaderPlacesSaid : Prop := headerPlacesRow.holds Try.pinned (OpenSpec.ofChange headerPlacesSpec)

/-- ITS FALSE NEIGHBOUR: 'it returns false'. Refute it at one input. -/
def headerPlacesWrong : ChangeSpec := { name := "headerPlaces", fn := fun _ => fun
  | [d] => { results := [.lit (.bool false)], args := [d] }
  | _ => none }
def HeaderPlacesWrongFalsely : Prop := headerPlacesRow.holds Try.pinned (OpenSpec.ofChange headerPlacesWrong)

/-- 'fettlelaw07.HeaderChecks': WHATEVER THE INPUT: true; the input reads as it did. -/
def headerChecksSpec : ChangeSpec := { name := "headerChecks", fn := fun _ => fun
  | [d] => { results := [.lit (.bool true)], args := [d] }
  | _ => none }
def headerChecksRow : OpenClaim := { program := "ytjhijdkliepkpaa", sum := "15ea14aafe944d1d6dd81e6636a5638d993cd089f40551b40d47d93cf3178379", func := "fettle/fettlelaw07.HeaderChecks", spec := "headerChecks", apart := false }
def HeaderChecksSaid : Prop := headerChecksRow.holds Try.pinned (OpenSpec.ofChange headerChecksSpec)

/-- ITS FALSE NEIGHBOUR: 'it returns false'. Refute it at one input. -/
def headerChecksWrong : ChangeSpec := { name := "headerChecks", fn := fun _ => fun
  | [d] => { results := [.lit (.bool false)], args := [d] }
  | _ => none }
def HeaderChecksWrongFalsely : Prop := headerChecksRow.holds Try.pinned (OpenSpec.ofChange headerChecksWrong)

/-- 'fettlelaw07.HeaderLeasts': WHATEVER THE INPUT: true; the input reads as it did. -/
def headerLeastsSpec : ChangeSpec := { name := "headerLeasts", fn := fun _ => fun
  | [d1, d2, d3] => { results := [.lit (.bool true)], args := [d1, d2, d3] }
  | _ => none }
def headerLeastsRow : OpenClaim := { program := "ytjhijdkliepkpaa", sum := "15ea14aafe944d1d6dd81e6636a5638d993cd089f40551b40d47d93cf3178379", func := "fettle/fettlelaw07.HeaderLeasts", spec := "headerLeasts", apart := false }
def HeaderLeastsSaid : Prop := headerLeastsRow.holds Try.pinned (OpenSpec.ofChange headerLeastsSpec)

/-- ITS FALSE NEIGHBOUR: 'it returns false'. Refute it at one input. -/
def headerLeastsWrong : ChangeSpec := { name := "headerLeasts", fn := fun _ => fun
  | [d1, d2, d3] => { results := [.lit (.bool false)], args := [d1, d2, d3] }
  | _ => none }
def HeaderLeastsWrongFalsely : Prop := headerLeastsRow.holds Try.pinned (OpenSpec.ofChange headerLeastsWrong)

/-- 'fettlelaw09.MapsLists': WHATEVER THE INPUT: true; the input reads as it did. -/
def mapsListsSpec : ChangeSpec := { name := "mapsLists", fn := fun _ => fun
  | [d1, d2] => { results := [.lit (.bool true)], args := [d1, d2] }
  | _ => none }
def mapsListsRow : OpenClaim := { program := "ytjhijdkliepkpaa", sum := "15ea14aafe944d1d6dd81e6636a5638d993cd089f40551b40d47d93cf3178379", func := "fettle/fettlelaw09.MapsLists", spec := "mapsLists", apart := false }
def MapsListsSaid : Prop := mapsListsRow.holds Try.pinned (OpenSpec.ofChange mapsListsSpec)

/-- ITS FALSE NEIGHBOUR: 'it returns false'. Refute it at one input. -/
def mapsListsWrong : ChangeSpec := { name := "mapsLists", fn := fun _ => fun
  | [d1, d2] => { results := [.lit (.bool false)], args := [d1, d2] }
  | _ => none }
def MapsListsWrongFalsely : Prop := mapsListsRow.holds Try.pinned (OpenSpec.ofChange mapsListsWrong)

/- THE SECOND FORM. 'bulk': how many values and letters a reading holds, each counted each time it is reached (what is shared counts as often as it is met; a slice's spare places count too). A statement '..UptoSaid' is the law's where the arguments, and the package variables that the reading takes, are together of bulk at most 1048576: NARROWER than '..Said'. Prove '..Said' where nothing that the law and all that it calls make is longer than what came in: it says more and counts as full. Else prove '..UptoSaid'. A law counts once. -/
mutual
def uptoBulk {H : Type} : DataW H → Nat
  | .lit (.string bytes) => bytes.length + 1
  | .lit _ => 1
  | .nil => 1
  | .ptr d => uptoBulk d + 1
  | .slice elems spare => uptoBulkAll elems + uptoBulkAll spare + 1
  | .agg parts => uptoBulkAll parts + 1
  | .iface _ d => uptoBulk d + 1
  | .map entries => uptoBulkEntries entries + 1
  | .held _ => 1
def uptoBulkAll {H : Type} : List (DataW H) → Nat
  | [] => 0
  | d :: r => uptoBulk d + uptoBulkAll r
def uptoBulkEntries {H : Type} : List (Lit × DataW H) → Nat
  | [] => 0
  | x :: r => uptoBulkEntry x + uptoBulkEntries r
def uptoBulkEntry {H : Type} : Lit × DataW H → Nat
  | (.string bytes, d) => bytes.length + uptoBulk d + 1
  | (_, d) => uptoBulk d + 1
 end
def uptoSmall : (H : Type) → List (DataW H) → Bool := fun _ ds => decide (uptoBulkAll ds ≤ 1048576)
def OpenSpec.upto (s : _root_.Go.ChangeSpec) : _root_.Go.OpenSpec := { _root_.Go.OpenSpec.ofChange s with cond := some uptoSmall }

/-- 'fettlelaw01.OctetReads', WHERE WHAT IT READS IS OF BULK AT MOST 1048576: true; the input reads as it did. -/
def octetReadsUptoRow : OpenClaim := { program := "ytjhijdkliepkpaa", sum := "15ea14aafe944d1d6dd81e6636a5638d993cd089f40551b40d47d93cf3178379", func := "fettle/fettlelaw01.OctetReads", spec := "octetReads", apart := false, narrowed := true }
def OctetReadsUptoSaid : Prop := octetReadsUptoRow.holds Try.pinned (OpenSpec.upto octetReadsSpec)

/-- 'fettlelaw09.MapsEncodes', WHERE WHAT IT READS IS OF BULK AT MOST 1048576: true; the input reads as it did. -/
def mapsEncodesUptoRow : OpenClaim := { program := "ytjhijdkliepkpaa", sum := "15ea14aafe944d1d6dd81e6636a5638d993cd089f40551b40d47d93cf3178379", func := "fettle/fettlelaw09.MapsEncodes", spec := "mapsEncodes", apart := false, narrowed := true }
def MapsEncodesUptoSaid : Prop := mapsEncodesUptoRow.holds Try.pinned (OpenSpec.upto mapsEncodesSpec)

/-- 'fettlelaw09.MapsDecodes', WHERE WHAT IT READS IS OF BULK AT MOST 1048576: true; the input reads as it did. -/
def mapsDecodesUptoRow : OpenClaim := { program := "ytjhijdkliepkpaa", sum := "15ea14aafe944d1d6dd81e6636a5638d993cd089f40551b40d47d93cf3178379", func := "fettle/fettlelaw09.MapsDecodes", spec := "mapsDecodes", apart := false, narrowed := true }
def MapsDecodesUptoSaid : Prop := mapsDecodesUptoRow.holds Try.pinned (OpenSpec.upto mapsDecodesSpec)

/-- 'fettlelaw01.OctetSames', WHERE WHAT IT READS IS OF BULK AT MOST 1048576: true; the input reads as it did. -/
def octetSamesUptoRow : OpenClaim := { program := "ytjhijdkliepkpaa", sum := "15ea14aafe944d1d6dd81e6636a5638d993cd089f40551b40d47d93cf3178379", func := "fettle/fettlelaw01.OctetSames", spec := "octetSames", apart := false, narrowed := true }
def OctetSamesUptoSaid : Prop := octetSamesUptoRow.holds Try.pinned (OpenSpec.upto octetSamesSpec)

/-- 'fettlelaw01.OctetHalves', WHERE WHAT IT READS IS OF BULK AT MOST 1048576: true; the input reads as it did. -/
def octetHalvesUptoRow : OpenClaim := { program := "ytjhijdkliepkpaa", sum := "15ea14aafe944d1d6dd81e6636a5638d993cd089f40551b40d47d93cf3178379", func := "fettle/fettlelaw01.OctetHalves", spec := "octetHalves", apart := false, narrowed := true }
def OctetHalvesUptoSaid : Prop := octetHalvesUptoRow.holds Try.pinned (OpenSpec.upto octetHalvesSpec)

/-- 'fettlelaw01.OctetWrites', WHERE WHAT IT READS IS OF BULK AT MOST 1048576: true; the input reads as it did. -/
def octetWritesUptoRow : OpenClaim := { program := "ytjhijdkliepkpaa", sum := "15ea14aafe944d1d6dd81e6636a5638d993cd089f40551b40d47d93cf3178379", func := "fettle/fettlelaw01.OctetWrites", spec := "octetWrites", apart := false, narrowed := true }
def OctetWritesUptoSaid : Prop := octetWritesUptoRow.holds Try.pinned (OpenSpec.upto octetWritesSpec)

/-- 'fettlelaw01.OctetBack', WHERE WHAT IT READS IS OF BULK AT MOST 1048576: true; the input reads as it did. -/
def octetBackUptoRow : OpenClaim := { program := "ytjhijdkliepkpaa", sum := "15ea14aafe944d1d6dd81e6636a5638d993cd089f40551b40d47d93cf3178379", func := "fettle/fettlelaw01.OctetBack", spec := "octetBack", apart := false, narrowed := true }
def OctetBackUptoSaid : Prop := octetBackUptoRow.holds Try.pinned (OpenSpec.upto octetBackSpec)

/-- 'fettlelaw01.OctetJoins', WHERE WHAT IT READS IS OF BULK AT MOST 1048576: true; the input reads as it did. -/
def octetJoinsUptoRow : OpenClaim := { program := "ytjhijdkliepkpaa", sum := "15ea14aafe944d1d6dd81e6636a5638d993cd089f40551b40d47d93cf3178379", func := "fettle/fettlelaw01.OctetJoins", spec := "octetJoins", apart := false, narrowed := true }
def OctetJoinsUptoSaid : Prop := octetJoinsUptoRow.holds Try.pinned (OpenSpec.upto octetJoinsSpec)

/-- 'fettlelaw07.HeaderPlaces', WHERE WHAT IT READS IS OF BULK AT MOST 1048576: true; the input reads as it did. -/
def headerPlacesUptoRow : OpenClaim := { program := "ytjhijdkliepkpaa", sum := "15ea14aafe944d1d6dd81e6636a5638d993cd089f40551b40d47d93cf3178379", func := "fettle/fettlelaw07.HeaderPlaces", spec := "headerPlaces", apart := false, narrowed := true }
def HeaderPlacesUptoSaid : Prop := headerPlacesUptoRow.holds Try.pinned (OpenSpec.upto headerPlacesSpec)

/-- 'fettlelaw07.HeaderChecks', WHERE WHAT IT READS IS OF BULK AT MOST 1048576: true; the input reads as it did. -/
def headerChecksUptoRow : OpenClaim := { program := "ytjhijdkliepkpaa", sum := "15ea14aafe944d1d6dd81e6636a5638d993cd089f40551b40d47d93cf3178379", func := "fettle/fettlelaw07.HeaderChecks", spec := "headerChecks", apart := false, narrowed := true }
def HeaderChecksUptoSaid : Prop := headerChecksUptoRow.holds Try.pinned (OpenSpec.upto headerChecksSpec)

/-- 'fettlelaw07.HeaderLeasts', WHERE WHAT IT READS IS OF BULK AT MOST 1048576: true; the input reads as it did. -/
def headerLeastsUptoRow : OpenClaim := { program := "ytjhijdkliepkpaa", sum := "15ea14aafe944d1d6dd81e6636a5638d993cd089f40551b40d47d93cf3178379", func := "fettle/fettlelaw07.HeaderLeasts", spec := "headerLeasts", apart := false, narrowed := true }
def HeaderLeastsUptoSaid : Prop := headerLeastsUptoRow.holds Try.pinned (OpenSpec.upto headerLeastsSpec)

/-- 'fettlelaw09.MapsLists', WHERE WHAT IT READS IS OF BULK AT MOST 1048576: true; the input reads as it did. -/
def mapsListsUptoRow : OpenClaim := { program := "ytjhijdkliepkpaa", sum := "15ea14aafe944d1d6dd81e6636a5638d993cd089f40551b40d47d93cf3178379", func := "fettle/fettlelaw09.MapsLists", spec := "mapsLists", apart := false, narrowed := true }
def MapsListsUptoSaid : Prop := mapsListsUptoRow.holds Try.pinned (OpenSpec.upto mapsListsSpec)

end Rows
end Go.Proofs.Ytjhijdkliepkpaa
