/-
  DERIVED. GIVEN WITH THE SEED: THE CARDS: each row of YtgmggpgcfonmgaaDoorRows.lean that lists a variable, with what it lists TIED to the program's text (the seventh form; the later family's looks); each row that meets fmt, with fmt's text TOLD by the authors' own Lean function (tested against real Go, not proved from fmt's source: count such statements apart). THE CARD IS WHAT COUNTS. Prove the row's statement (the work); the ties are given (YtgmggpgcfonmgaaDoorTie.lean); close each card by the builder's one call (the guide's Derived/Test/ToyasCard.lean, 'card_holds'). Laid BY PROGRAM, IN A SANDBOX (cutbox-door.mjs). By AI agents, Wed Nov 11 2026. No macro, syntax, notation, axiom, sorry.
-/
import Derived.Test.YtgmggpgcfonmgaaDoorRows
import GoSem.ClaimSeven
namespace Go.Proofs.YtgmggpgcfonmgaaDoor
namespace Rows

/-- THE TIED CARD OF 'laws.FnExactListOk'. -/
def fnExactListOkCard : Claim7 := { stood := { row := fnExactListOkRow, standIns := [], harness := (true, "6f7d6ee7c1ff737060f9ef6691add9a29f45202b7d91c3c6f32161658acfa44d"), looks := false }, kinds := [], alts := [], laidByText := true, laidKinds := [.data, .pinned], laidTests := true, laidLooks := .later }
def FnExactListOkCardSaid : Prop := Claim7.holds Tryd.pinned (.plain (OpenSpec.ofChange fnExactListOkSpec)) fnExactListOkCard

/-- THE TIED CARD OF 'laws.FnExactMerge'. -/
def fnExactMergeCard : Claim7 := { stood := { row := fnExactMergeRow, standIns := [], harness := (true, "6f7d6ee7c1ff737060f9ef6691add9a29f45202b7d91c3c6f32161658acfa44d"), looks := false }, kinds := [], alts := [], laidByText := true, laidKinds := [.data, .pinned], laidTests := true, laidLooks := .later }
def FnExactMergeCardSaid : Prop := Claim7.holds Tryd.pinned (.plain (OpenSpec.ofChange fnExactMergeSpec)) fnExactMergeCard

/-- THE TIED CARD OF 'laws.FnExactEntryText'. -/
def fnExactEntryTextCard : Claim7 := { stood := { row := fnExactEntryTextRow, standIns := [], harness := (true, "6f7d6ee7c1ff737060f9ef6691add9a29f45202b7d91c3c6f32161658acfa44d"), looks := false }, kinds := [], alts := [], laidByText := true, laidKinds := [.data, .data, .data, .data, .pinned], laidTests := true, laidLooks := .later }
def FnExactEntryTextCardSaid : Prop := Claim7.holds Tryd.pinned (.plain (OpenSpec.ofChange fnExactEntryTextSpec)) fnExactEntryTextCard

/-- THE TIED CARD OF 'laws.FnExactPutHead'. -/
def fnExactPutHeadCard : Claim7 := { stood := { row := fnExactPutHeadRow, standIns := [], harness := (true, "6f7d6ee7c1ff737060f9ef6691add9a29f45202b7d91c3c6f32161658acfa44d"), looks := false }, kinds := [], alts := [], laidByText := true, laidKinds := [.data, .data, .data, .data, .pinned], laidTests := true, laidLooks := .later }
def FnExactPutHeadCardSaid : Prop := Claim7.holds Tryd.pinned (.plain (OpenSpec.ofChange fnExactPutHeadSpec)) fnExactPutHeadCard

/-- THE TIED CARD OF 'laws.FnExactNeed'. -/
def fnExactNeedCard : Claim7 := { stood := { row := fnExactNeedRow, standIns := [], harness := (true, "6f7d6ee7c1ff737060f9ef6691add9a29f45202b7d91c3c6f32161658acfa44d"), looks := false }, kinds := [], alts := [], laidByText := true, laidKinds := [.data, .pinned], laidTests := true, laidLooks := .later }
def FnExactNeedCardSaid : Prop := Claim7.holds Tryd.pinned (.plain (OpenSpec.ofChange fnExactNeedSpec)) fnExactNeedCard

/-- THE TIED CARD OF 'laws.FnExactListText'. -/
def fnExactListTextCard : Claim7 := { stood := { row := fnExactListTextRow, standIns := [], harness := (true, "6f7d6ee7c1ff737060f9ef6691add9a29f45202b7d91c3c6f32161658acfa44d"), looks := false }, kinds := [], alts := [], laidByText := true, laidKinds := [.data, .data, .data, .data, .pinned], laidTests := true, laidLooks := .later }
def FnExactListTextCardSaid : Prop := Claim7.holds Tryd.pinned (.plain (OpenSpec.ofChange fnExactListTextSpec)) fnExactListTextCard

/-- THE TIED CARD OF 'laws.FnExactWithNeed'. -/
def fnExactWithNeedCard : Claim7 := { stood := { row := fnExactWithNeedRow, standIns := [], harness := (true, "6f7d6ee7c1ff737060f9ef6691add9a29f45202b7d91c3c6f32161658acfa44d"), looks := false }, kinds := [], alts := [], laidByText := true, laidKinds := [.data, .pinned], laidTests := true, laidLooks := .later }
def FnExactWithNeedCardSaid : Prop := Claim7.holds Tryd.pinned (.plain (OpenSpec.ofChange fnExactWithNeedSpec)) fnExactWithNeedCard

/-- THE SECOND FORM's CARD OF 'laws.FnExactListOk'. -/
def fnExactListOkUptoCard : Claim7 := { stood := { row := fnExactListOkUptoRow, standIns := [], harness := (true, "6f7d6ee7c1ff737060f9ef6691add9a29f45202b7d91c3c6f32161658acfa44d"), looks := false }, kinds := [], alts := [], laidByText := true, laidKinds := [.data, .pinned], laidTests := true, laidLooks := .later }
def FnExactListOkUptoCardSaid : Prop := Claim7.holds Tryd.pinned (.plain (OpenSpec.upto fnExactListOkSpec)) fnExactListOkUptoCard

/-- THE SECOND FORM's CARD OF 'laws.FnExactMerge'. -/
def fnExactMergeUptoCard : Claim7 := { stood := { row := fnExactMergeUptoRow, standIns := [], harness := (true, "6f7d6ee7c1ff737060f9ef6691add9a29f45202b7d91c3c6f32161658acfa44d"), looks := false }, kinds := [], alts := [], laidByText := true, laidKinds := [.data, .pinned], laidTests := true, laidLooks := .later }
def FnExactMergeUptoCardSaid : Prop := Claim7.holds Tryd.pinned (.plain (OpenSpec.upto fnExactMergeSpec)) fnExactMergeUptoCard

/-- THE SECOND FORM's CARD OF 'laws.FnExactEntryText'. -/
def fnExactEntryTextUptoCard : Claim7 := { stood := { row := fnExactEntryTextUptoRow, standIns := [], harness := (true, "6f7d6ee7c1ff737060f9ef6691add9a29f45202b7d91c3c6f32161658acfa44d"), looks := false }, kinds := [], alts := [], laidByText := true, laidKinds := [.data, .data, .data, .data, .pinned], laidTests := true, laidLooks := .later }
def FnExactEntryTextUptoCardSaid : Prop := Claim7.holds Tryd.pinned (.plain (OpenSpec.upto fnExactEntryTextSpec)) fnExactEntryTextUptoCard

/-- THE SECOND FORM's CARD OF 'laws.FnExactPutHead'. -/
def fnExactPutHeadUptoCard : Claim7 := { stood := { row := fnExactPutHeadUptoRow, standIns := [], harness := (true, "6f7d6ee7c1ff737060f9ef6691add9a29f45202b7d91c3c6f32161658acfa44d"), looks := false }, kinds := [], alts := [], laidByText := true, laidKinds := [.data, .data, .data, .data, .pinned], laidTests := true, laidLooks := .later }
def FnExactPutHeadUptoCardSaid : Prop := Claim7.holds Tryd.pinned (.plain (OpenSpec.upto fnExactPutHeadSpec)) fnExactPutHeadUptoCard

/-- THE SECOND FORM's CARD OF 'laws.FnExactNeed'. -/
def fnExactNeedUptoCard : Claim7 := { stood := { row := fnExactNeedUptoRow, standIns := [], harness := (true, "6f7d6ee7c1ff737060f9ef6691add9a29f45202b7d91c3c6f32161658acfa44d"), looks := false }, kinds := [], alts := [], laidByText := true, laidKinds := [.data, .pinned], laidTests := true, laidLooks := .later }
def FnExactNeedUptoCardSaid : Prop := Claim7.holds Tryd.pinned (.plain (OpenSpec.upto fnExactNeedSpec)) fnExactNeedUptoCard

/-- THE SECOND FORM's CARD OF 'laws.FnExactListText'. -/
def fnExactListTextUptoCard : Claim7 := { stood := { row := fnExactListTextUptoRow, standIns := [], harness := (true, "6f7d6ee7c1ff737060f9ef6691add9a29f45202b7d91c3c6f32161658acfa44d"), looks := false }, kinds := [], alts := [], laidByText := true, laidKinds := [.data, .data, .data, .data, .pinned], laidTests := true, laidLooks := .later }
def FnExactListTextUptoCardSaid : Prop := Claim7.holds Tryd.pinned (.plain (OpenSpec.upto fnExactListTextSpec)) fnExactListTextUptoCard

/-- THE SECOND FORM's CARD OF 'laws.FnExactWithNeed'. -/
def fnExactWithNeedUptoCard : Claim7 := { stood := { row := fnExactWithNeedUptoRow, standIns := [], harness := (true, "6f7d6ee7c1ff737060f9ef6691add9a29f45202b7d91c3c6f32161658acfa44d"), looks := false }, kinds := [], alts := [], laidByText := true, laidKinds := [.data, .pinned], laidTests := true, laidLooks := .later }
def FnExactWithNeedUptoCardSaid : Prop := Claim7.holds Tryd.pinned (.plain (OpenSpec.upto fnExactWithNeedSpec)) fnExactWithNeedUptoCard
end Rows
end Go.Proofs.YtgmggpgcfonmgaaDoor
