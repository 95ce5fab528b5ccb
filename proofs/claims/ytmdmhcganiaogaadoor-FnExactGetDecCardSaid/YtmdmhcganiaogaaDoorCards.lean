/-
  DERIVED. GIVEN WITH THE SEED: THE CARDS: each row of YtmdmhcganiaogaaDoorRows.lean that lists a variable, with what it lists TIED to the program's text (the seventh form; the later family's looks); each row that meets fmt, with fmt's text TOLD by the authors' own Lean function (tested against real Go, not proved from fmt's source: count such statements apart). THE CARD IS WHAT COUNTS. Prove the row's statement (the work); the ties are given (YtmdmhcganiaogaaDoorTie.lean); close each card by the builder's one call (the guide's Derived/Test/ToyasCard.lean, 'card_holds'). Laid BY PROGRAM, IN A SANDBOX (cutbox-door.mjs). By AI agents, Wed Nov 11 2026. No macro, syntax, notation, axiom, sorry.
-/
import Derived.Test.YtmdmhcganiaogaaDoorRows
import GoSem.ClaimSeven
namespace Go.Proofs.YtmdmhcganiaogaaDoor
namespace Rows

/-- THE TIED CARD OF 'laws.FnExactPutOct'. -/
def fnExactPutOctCard : Claim7 := { stood := { row := fnExactPutOctRow, standIns := [], harness := (true, "4721cdb52f29381401a0274da12beaabb76c3c42d756471dc1ceaa7b60c98eeb"), looks := true }, kinds := [], alts := [], laidByText := true, laidKinds := [.data, .data, .data], laidTests := true, laidLooks := .later }
def FnExactPutOctCardSaid : Prop := Claim7.holds Tryd.pinned (.plain (OpenSpec.ofChange fnExactPutOctSpec)) fnExactPutOctCard

/-- THE TIED CARD OF 'laws.FnExactGetHex'. -/
def fnExactGetHexCard : Claim7 := { stood := { row := fnExactGetHexRow, standIns := [], harness := (true, "4721cdb52f29381401a0274da12beaabb76c3c42d756471dc1ceaa7b60c98eeb"), looks := true }, kinds := [], alts := [], laidByText := true, laidKinds := [.data, .data, .data, .sentinel, .sentinel], laidTests := true, laidLooks := .later }
def FnExactGetHexCardSaid : Prop := Claim7.holds Tryd.pinned (.plain (OpenSpec.ofChange fnExactGetHexSpec)) fnExactGetHexCard

/-- THE TIED CARD OF 'laws.FnExactGetOct'. -/
def fnExactGetOctCard : Claim7 := { stood := { row := fnExactGetOctRow, standIns := [], harness := (true, "4721cdb52f29381401a0274da12beaabb76c3c42d756471dc1ceaa7b60c98eeb"), looks := true }, kinds := [], alts := [], laidByText := true, laidKinds := [.data, .data, .data, .sentinel, .sentinel], laidTests := true, laidLooks := .later }
def FnExactGetOctCardSaid : Prop := Claim7.holds Tryd.pinned (.plain (OpenSpec.ofChange fnExactGetOctSpec)) fnExactGetOctCard

/-- THE TIED CARD OF 'laws.FnExactReadDec'. -/
def fnExactReadDecCard : Claim7 := { stood := { row := fnExactReadDecRow, standIns := [], harness := (true, "4721cdb52f29381401a0274da12beaabb76c3c42d756471dc1ceaa7b60c98eeb"), looks := true }, kinds := [], alts := [], laidByText := true, laidKinds := [.data, .data, .data, .sentinel, .sentinel], laidTests := true, laidLooks := .later }
def FnExactReadDecCardSaid : Prop := Claim7.holds Tryd.pinned (.plain (OpenSpec.ofChange fnExactReadDecSpec)) fnExactReadDecCard

/-- THE TIED CARD OF 'laws.FnExactMerge'. -/
def fnExactMergeCard : Claim7 := { stood := { row := fnExactMergeRow, standIns := [], harness := (true, "4721cdb52f29381401a0274da12beaabb76c3c42d756471dc1ceaa7b60c98eeb"), looks := true }, kinds := [], alts := [], laidByText := true, laidKinds := [.data, .pinned], laidTests := true, laidLooks := .later }
def FnExactMergeCardSaid : Prop := Claim7.holds Tryd.pinned (.plain (OpenSpec.ofChange fnExactMergeSpec)) fnExactMergeCard

/-- THE TIED CARD OF 'laws.FnExactEntryText'. -/
def fnExactEntryTextCard : Claim7 := { stood := { row := fnExactEntryTextRow, standIns := [], harness := (true, "4721cdb52f29381401a0274da12beaabb76c3c42d756471dc1ceaa7b60c98eeb"), looks := true }, kinds := [], alts := [], laidByText := true, laidKinds := [.data, .data, .data, .data, .pinned], laidTests := true, laidLooks := .later }
def FnExactEntryTextCardSaid : Prop := Claim7.holds Tryd.pinned (.plain (OpenSpec.ofChange fnExactEntryTextSpec)) fnExactEntryTextCard

/-- THE TIED CARD OF 'laws.FnExactPutHead'. -/
def fnExactPutHeadCard : Claim7 := { stood := { row := fnExactPutHeadRow, standIns := [], harness := (true, "4721cdb52f29381401a0274da12beaabb76c3c42d756471dc1ceaa7b60c98eeb"), looks := true }, kinds := [], alts := [], laidByText := true, laidKinds := [.data, .data, .data, .data, .pinned], laidTests := true, laidLooks := .later }
def FnExactPutHeadCardSaid : Prop := Claim7.holds Tryd.pinned (.plain (OpenSpec.ofChange fnExactPutHeadSpec)) fnExactPutHeadCard

/-- THE TIED CARD OF 'laws.FnExactNeed'. -/
def fnExactNeedCard : Claim7 := { stood := { row := fnExactNeedRow, standIns := [], harness := (true, "4721cdb52f29381401a0274da12beaabb76c3c42d756471dc1ceaa7b60c98eeb"), looks := true }, kinds := [], alts := [], laidByText := true, laidKinds := [.data, .pinned], laidTests := true, laidLooks := .later }
def FnExactNeedCardSaid : Prop := Claim7.holds Tryd.pinned (.plain (OpenSpec.ofChange fnExactNeedSpec)) fnExactNeedCard

/-- THE TIED CARD OF 'laws.FnExactListText'. -/
def fnExactListTextCard : Claim7 := { stood := { row := fnExactListTextRow, standIns := [], harness := (true, "4721cdb52f29381401a0274da12beaabb76c3c42d756471dc1ceaa7b60c98eeb"), looks := true }, kinds := [], alts := [], laidByText := true, laidKinds := [.data, .data, .data, .data, .pinned], laidTests := true, laidLooks := .later }
def FnExactListTextCardSaid : Prop := Claim7.holds Tryd.pinned (.plain (OpenSpec.ofChange fnExactListTextSpec)) fnExactListTextCard

/-- THE TIED CARD OF 'laws.FnExactGetDec'. -/
def fnExactGetDecCard : Claim7 := { stood := { row := fnExactGetDecRow, standIns := [], harness := (true, "4721cdb52f29381401a0274da12beaabb76c3c42d756471dc1ceaa7b60c98eeb"), looks := true }, kinds := [], alts := [], laidByText := true, laidKinds := [.data, .data, .data, .data, .sentinel, .sentinel, .pinned], laidTests := true, laidLooks := .later }
def FnExactGetDecCardSaid : Prop := Claim7.holds Tryd.pinned (.plain (OpenSpec.ofChange fnExactGetDecSpec)) fnExactGetDecCard

/-- THE TIED CARD OF 'laws.FnExactWithNeed'. -/
def fnExactWithNeedCard : Claim7 := { stood := { row := fnExactWithNeedRow, standIns := [], harness := (true, "4721cdb52f29381401a0274da12beaabb76c3c42d756471dc1ceaa7b60c98eeb"), looks := true }, kinds := [], alts := [], laidByText := true, laidKinds := [.data, .pinned], laidTests := true, laidLooks := .later }
def FnExactWithNeedCardSaid : Prop := Claim7.holds Tryd.pinned (.plain (OpenSpec.ofChange fnExactWithNeedSpec)) fnExactWithNeedCard

/-- THE SECOND FORM's CARD OF 'laws.FnExactPutOct'. -/
def fnExactPutOctUptoCard : Claim7 := { stood := { row := fnExactPutOctUptoRow, standIns := [], harness := (true, "4721cdb52f29381401a0274da12beaabb76c3c42d756471dc1ceaa7b60c98eeb"), looks := true }, kinds := [], alts := [], laidByText := true, laidKinds := [.data, .data, .data], laidTests := true, laidLooks := .later }
def FnExactPutOctUptoCardSaid : Prop := Claim7.holds Tryd.pinned (.plain (OpenSpec.upto fnExactPutOctSpec)) fnExactPutOctUptoCard

/-- THE SECOND FORM's CARD OF 'laws.FnExactGetHex'. -/
def fnExactGetHexUptoCard : Claim7 := { stood := { row := fnExactGetHexUptoRow, standIns := [], harness := (true, "4721cdb52f29381401a0274da12beaabb76c3c42d756471dc1ceaa7b60c98eeb"), looks := true }, kinds := [], alts := [], laidByText := true, laidKinds := [.data, .data, .data, .sentinel, .sentinel], laidTests := true, laidLooks := .later }
def FnExactGetHexUptoCardSaid : Prop := Claim7.holds Tryd.pinned (.plain (OpenSpec.upto fnExactGetHexSpec)) fnExactGetHexUptoCard

/-- THE SECOND FORM's CARD OF 'laws.FnExactGetOct'. -/
def fnExactGetOctUptoCard : Claim7 := { stood := { row := fnExactGetOctUptoRow, standIns := [], harness := (true, "4721cdb52f29381401a0274da12beaabb76c3c42d756471dc1ceaa7b60c98eeb"), looks := true }, kinds := [], alts := [], laidByText := true, laidKinds := [.data, .data, .data, .sentinel, .sentinel], laidTests := true, laidLooks := .later }
def FnExactGetOctUptoCardSaid : Prop := Claim7.holds Tryd.pinned (.plain (OpenSpec.upto fnExactGetOctSpec)) fnExactGetOctUptoCard

/-- THE SECOND FORM's CARD OF 'laws.FnExactReadDec'. -/
def fnExactReadDecUptoCard : Claim7 := { stood := { row := fnExactReadDecUptoRow, standIns := [], harness := (true, "4721cdb52f29381401a0274da12beaabb76c3c42d756471dc1ceaa7b60c98eeb"), looks := true }, kinds := [], alts := [], laidByText := true, laidKinds := [.data, .data, .data, .sentinel, .sentinel], laidTests := true, laidLooks := .later }
def FnExactReadDecUptoCardSaid : Prop := Claim7.holds Tryd.pinned (.plain (OpenSpec.upto fnExactReadDecSpec)) fnExactReadDecUptoCard

/-- THE SECOND FORM's CARD OF 'laws.FnExactMerge'. -/
def fnExactMergeUptoCard : Claim7 := { stood := { row := fnExactMergeUptoRow, standIns := [], harness := (true, "4721cdb52f29381401a0274da12beaabb76c3c42d756471dc1ceaa7b60c98eeb"), looks := true }, kinds := [], alts := [], laidByText := true, laidKinds := [.data, .pinned], laidTests := true, laidLooks := .later }
def FnExactMergeUptoCardSaid : Prop := Claim7.holds Tryd.pinned (.plain (OpenSpec.upto fnExactMergeSpec)) fnExactMergeUptoCard

/-- THE SECOND FORM's CARD OF 'laws.FnExactEntryText'. -/
def fnExactEntryTextUptoCard : Claim7 := { stood := { row := fnExactEntryTextUptoRow, standIns := [], harness := (true, "4721cdb52f29381401a0274da12beaabb76c3c42d756471dc1ceaa7b60c98eeb"), looks := true }, kinds := [], alts := [], laidByText := true, laidKinds := [.data, .data, .data, .data, .pinned], laidTests := true, laidLooks := .later }
def FnExactEntryTextUptoCardSaid : Prop := Claim7.holds Tryd.pinned (.plain (OpenSpec.upto fnExactEntryTextSpec)) fnExactEntryTextUptoCard

/-- THE SECOND FORM's CARD OF 'laws.FnExactPutHead'. -/
def fnExactPutHeadUptoCard : Claim7 := { stood := { row := fnExactPutHeadUptoRow, standIns := [], harness := (true, "4721cdb52f29381401a0274da12beaabb76c3c42d756471dc1ceaa7b60c98eeb"), looks := true }, kinds := [], alts := [], laidByText := true, laidKinds := [.data, .data, .data, .data, .pinned], laidTests := true, laidLooks := .later }
def FnExactPutHeadUptoCardSaid : Prop := Claim7.holds Tryd.pinned (.plain (OpenSpec.upto fnExactPutHeadSpec)) fnExactPutHeadUptoCard

/-- THE SECOND FORM's CARD OF 'laws.FnExactNeed'. -/
def fnExactNeedUptoCard : Claim7 := { stood := { row := fnExactNeedUptoRow, standIns := [], harness := (true, "4721cdb52f29381401a0274da12beaabb76c3c42d756471dc1ceaa7b60c98eeb"), looks := true }, kinds := [], alts := [], laidByText := true, laidKinds := [.data, .pinned], laidTests := true, laidLooks := .later }
def FnExactNeedUptoCardSaid : Prop := Claim7.holds Tryd.pinned (.plain (OpenSpec.upto fnExactNeedSpec)) fnExactNeedUptoCard

/-- THE SECOND FORM's CARD OF 'laws.FnExactListText'. -/
def fnExactListTextUptoCard : Claim7 := { stood := { row := fnExactListTextUptoRow, standIns := [], harness := (true, "4721cdb52f29381401a0274da12beaabb76c3c42d756471dc1ceaa7b60c98eeb"), looks := true }, kinds := [], alts := [], laidByText := true, laidKinds := [.data, .data, .data, .data, .pinned], laidTests := true, laidLooks := .later }
def FnExactListTextUptoCardSaid : Prop := Claim7.holds Tryd.pinned (.plain (OpenSpec.upto fnExactListTextSpec)) fnExactListTextUptoCard

/-- THE SECOND FORM's CARD OF 'laws.FnExactGetDec'. -/
def fnExactGetDecUptoCard : Claim7 := { stood := { row := fnExactGetDecUptoRow, standIns := [], harness := (true, "4721cdb52f29381401a0274da12beaabb76c3c42d756471dc1ceaa7b60c98eeb"), looks := true }, kinds := [], alts := [], laidByText := true, laidKinds := [.data, .data, .data, .data, .sentinel, .sentinel, .pinned], laidTests := true, laidLooks := .later }
def FnExactGetDecUptoCardSaid : Prop := Claim7.holds Tryd.pinned (.plain (OpenSpec.upto fnExactGetDecSpec)) fnExactGetDecUptoCard

/-- THE SECOND FORM's CARD OF 'laws.FnExactWithNeed'. -/
def fnExactWithNeedUptoCard : Claim7 := { stood := { row := fnExactWithNeedUptoRow, standIns := [], harness := (true, "4721cdb52f29381401a0274da12beaabb76c3c42d756471dc1ceaa7b60c98eeb"), looks := true }, kinds := [], alts := [], laidByText := true, laidKinds := [.data, .pinned], laidTests := true, laidLooks := .later }
def FnExactWithNeedUptoCardSaid : Prop := Claim7.holds Tryd.pinned (.plain (OpenSpec.upto fnExactWithNeedSpec)) fnExactWithNeedUptoCard
end Rows
end Go.Proofs.YtmdmhcganiaogaaDoor
