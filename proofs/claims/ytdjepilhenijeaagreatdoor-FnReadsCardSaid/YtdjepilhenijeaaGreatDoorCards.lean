/-
  DERIVED. GIVEN WITH THE SEED: THE CARDS: each row of YtdjepilhenijeaaGreatDoorRows.lean that lists a variable, with what it lists TIED to the program's text (the seventh form; the later family's looks); each row that meets fmt, with fmt's text TOLD by the authors' own Lean function (tested against real Go, not proved from fmt's source: count such statements apart). THE CARD IS WHAT COUNTS. Prove the row's statement (the work); the ties are given (YtdjepilhenijeaaGreatDoorTie.lean); close each card by the builder's one call (the guide's Derived/Test/ToyasCard.lean, 'card_holds'). Laid BY PROGRAM, IN A SANDBOX (cutbox-door.mjs). By AI agents, Wed Nov 11 2026. No macro, syntax, notation, axiom, sorry.
-/
import Derived.Test.YtdjepilhenijeaaGreatDoorRows
import GoSem.ClaimSeven
namespace Go.Proofs.YtdjepilhenijeaaGreatDoor
namespace Rows

/-- THE TIED CARD OF 'laws.FnReads'. -/
def fnReadsCard : Claim7 := { stood := { row := fnReadsRow, standIns := [], harness := (true, "66974386e67ab50a0370185766d7f262db05c1bae56a9dc340f7b6420dd0a392"), looks := true }, kinds := [], alts := [], laidByText := true, laidKinds := [.data, .data, .data, .data, .sentinel, .sentinel, .pinned], laidTests := true, laidLooks := .later }
def FnReadsCardSaid : Prop := Claim7.holds Tryz.pinned (.plain (OpenSpec.ofChange fnReadsSpec)) fnReadsCard

/-- THE TIED CARD OF 'laws.FnBodies'. -/
def fnBodiesCard : Claim7 := { stood := { row := fnBodiesRow, standIns := [], harness := (true, "66974386e67ab50a0370185766d7f262db05c1bae56a9dc340f7b6420dd0a392"), looks := true }, kinds := [], alts := [], laidByText := true, laidKinds := [.data, .pinned], laidTests := true, laidLooks := .later }
def FnBodiesCardSaid : Prop := Claim7.holds Tryz.pinned (.plain (OpenSpec.ofChange fnBodiesSpec)) fnBodiesCard

/-- THE TIED CARD OF 'laws.FnEntries'. -/
def fnEntriesCard : Claim7 := { stood := { row := fnEntriesRow, standIns := [], harness := (true, "66974386e67ab50a0370185766d7f262db05c1bae56a9dc340f7b6420dd0a392"), looks := true }, kinds := [], alts := [], laidByText := true, laidKinds := [.data, .data, .data, .data, .pinned], laidTests := true, laidLooks := .later }
def FnEntriesCardSaid : Prop := Claim7.holds Tryz.pinned (.plain (OpenSpec.ofChange fnEntriesSpec)) fnEntriesCard

/-- THE TIED CARD OF 'laws.FnNums'. -/
def fnNumsCard : Claim7 := { stood := { row := fnNumsRow, standIns := [], harness := (true, "66974386e67ab50a0370185766d7f262db05c1bae56a9dc340f7b6420dd0a392"), looks := true }, kinds := [], alts := [], laidByText := true, laidKinds := [.data, .data, .data, .data, .sentinel, .sentinel, .pinned], laidTests := true, laidLooks := .later }
def FnNumsCardSaid : Prop := Claim7.holds Tryz.pinned (.plain (OpenSpec.ofChange fnNumsSpec)) fnNumsCard

/-- THE SECOND FORM's CARD OF 'laws.FnReads'. -/
def fnReadsUptoCard : Claim7 := { stood := { row := fnReadsUptoRow, standIns := [], harness := (true, "66974386e67ab50a0370185766d7f262db05c1bae56a9dc340f7b6420dd0a392"), looks := true }, kinds := [], alts := [], laidByText := true, laidKinds := [.data, .data, .data, .data, .sentinel, .sentinel, .pinned], laidTests := true, laidLooks := .later }
def FnReadsUptoCardSaid : Prop := Claim7.holds Tryz.pinned (.plain (OpenSpec.upto fnReadsSpec)) fnReadsUptoCard

/-- THE SECOND FORM's CARD OF 'laws.FnBodies'. -/
def fnBodiesUptoCard : Claim7 := { stood := { row := fnBodiesUptoRow, standIns := [], harness := (true, "66974386e67ab50a0370185766d7f262db05c1bae56a9dc340f7b6420dd0a392"), looks := true }, kinds := [], alts := [], laidByText := true, laidKinds := [.data, .pinned], laidTests := true, laidLooks := .later }
def FnBodiesUptoCardSaid : Prop := Claim7.holds Tryz.pinned (.plain (OpenSpec.upto fnBodiesSpec)) fnBodiesUptoCard

/-- THE SECOND FORM's CARD OF 'laws.FnEntries'. -/
def fnEntriesUptoCard : Claim7 := { stood := { row := fnEntriesUptoRow, standIns := [], harness := (true, "66974386e67ab50a0370185766d7f262db05c1bae56a9dc340f7b6420dd0a392"), looks := true }, kinds := [], alts := [], laidByText := true, laidKinds := [.data, .data, .data, .data, .pinned], laidTests := true, laidLooks := .later }
def FnEntriesUptoCardSaid : Prop := Claim7.holds Tryz.pinned (.plain (OpenSpec.upto fnEntriesSpec)) fnEntriesUptoCard

/-- THE SECOND FORM's CARD OF 'laws.FnNums'. -/
def fnNumsUptoCard : Claim7 := { stood := { row := fnNumsUptoRow, standIns := [], harness := (true, "66974386e67ab50a0370185766d7f262db05c1bae56a9dc340f7b6420dd0a392"), looks := true }, kinds := [], alts := [], laidByText := true, laidKinds := [.data, .data, .data, .data, .sentinel, .sentinel, .pinned], laidTests := true, laidLooks := .later }
def FnNumsUptoCardSaid : Prop := Claim7.holds Tryz.pinned (.plain (OpenSpec.upto fnNumsSpec)) fnNumsUptoCard
end Rows
end Go.Proofs.YtdjepilhenijeaaGreatDoor
