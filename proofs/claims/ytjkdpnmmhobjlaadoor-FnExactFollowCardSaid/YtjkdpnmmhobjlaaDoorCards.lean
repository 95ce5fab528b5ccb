/-
  DERIVED. GIVEN WITH THE SEED: THE CARDS: each row of YtjkdpnmmhobjlaaDoorRows.lean that lists a variable, with what it lists TIED to the program's text (the seventh form; the later family's looks); each row that meets fmt, with fmt's text TOLD by the authors' own Lean function (tested against real Go, not proved from fmt's source: count such statements apart). THE CARD IS WHAT COUNTS. Prove the row's statement (the work); the ties are given (YtjkdpnmmhobjlaaDoorTie.lean); close each card by the builder's one call (the guide's Derived/Test/ToyasCard.lean, 'card_holds'). Laid BY PROGRAM, IN A SANDBOX (cutbox-door.mjs). By AI agents, Wed Nov 11 2026. No macro, syntax, notation, axiom, sorry.
-/
import Derived.Test.YtjkdpnmmhobjlaaDoorRows
import GoSem.ClaimSeven
namespace Go.Proofs.YtjkdpnmmhobjlaaDoor
namespace Rows

/-- THE TIED CARD OF 'laws.FnExactPathOk'. -/
def fnExactPathOkCard : Claim7 := { stood := { row := fnExactPathOkRow, standIns := [], harness := (true, "61c10e9af5c7bbe8f287f6e58a0077cbfc28a0ef63f9b601a4212a3d1dc2067b"), looks := false }, kinds := [], alts := [], laidByText := true, laidKinds := [.data, .pinned], laidTests := true, laidLooks := .later }
def FnExactPathOkCardSaid : Prop := Claim7.holds Tryd.pinned (.plain (OpenSpec.ofChange fnExactPathOkSpec)) fnExactPathOkCard

/-- THE TIED CARD OF 'laws.FnExactDepth'. -/
def fnExactDepthCard : Claim7 := { stood := { row := fnExactDepthRow, standIns := [], harness := (true, "61c10e9af5c7bbe8f287f6e58a0077cbfc28a0ef63f9b601a4212a3d1dc2067b"), looks := false }, kinds := [], alts := [], laidByText := true, laidKinds := [.data, .pinned], laidTests := true, laidLooks := .later }
def FnExactDepthCardSaid : Prop := Claim7.holds Tryd.pinned (.plain (OpenSpec.ofChange fnExactDepthSpec)) fnExactDepthCard

/-- THE TIED CARD OF 'laws.FnExactUnder'. -/
def fnExactUnderCard : Claim7 := { stood := { row := fnExactUnderRow, standIns := [], harness := (true, "61c10e9af5c7bbe8f287f6e58a0077cbfc28a0ef63f9b601a4212a3d1dc2067b"), looks := false }, kinds := [], alts := [], laidByText := true, laidKinds := [.data, .pinned], laidTests := true, laidLooks := .later }
def FnExactUnderCardSaid : Prop := Claim7.holds Tryd.pinned (.plain (OpenSpec.ofChange fnExactUnderSpec)) fnExactUnderCard

/-- THE TIED CARD OF 'laws.FnExactSwap'. -/
def fnExactSwapCard : Claim7 := { stood := { row := fnExactSwapRow, standIns := [], harness := (true, "61c10e9af5c7bbe8f287f6e58a0077cbfc28a0ef63f9b601a4212a3d1dc2067b"), looks := false }, kinds := [], alts := [], laidByText := true, laidKinds := [.data, .pinned], laidTests := true, laidLooks := .later }
def FnExactSwapCardSaid : Prop := Claim7.holds Tryd.pinned (.plain (OpenSpec.ofChange fnExactSwapSpec)) fnExactSwapCard

/-- THE TIED CARD OF 'laws.FnExactParents'. -/
def fnExactParentsCard : Claim7 := { stood := { row := fnExactParentsRow, standIns := [], harness := (true, "61c10e9af5c7bbe8f287f6e58a0077cbfc28a0ef63f9b601a4212a3d1dc2067b"), looks := false }, kinds := [], alts := [], laidByText := true, laidKinds := [.data, .pinned], laidTests := true, laidLooks := .later }
def FnExactParentsCardSaid : Prop := Claim7.holds Tryd.pinned (.plain (OpenSpec.ofChange fnExactParentsSpec)) fnExactParentsCard

/-- THE TIED CARD OF 'laws.FnExactEntryOk'. -/
def fnExactEntryOkCard : Claim7 := { stood := { row := fnExactEntryOkRow, standIns := [], harness := (true, "61c10e9af5c7bbe8f287f6e58a0077cbfc28a0ef63f9b601a4212a3d1dc2067b"), looks := false }, kinds := [], alts := [], laidByText := true, laidKinds := [.data, .pinned], laidTests := true, laidLooks := .later }
def FnExactEntryOkCardSaid : Prop := Claim7.holds Tryd.pinned (.plain (OpenSpec.ofChange fnExactEntryOkSpec)) fnExactEntryOkCard

/-- THE TIED CARD OF 'laws.FnExactStrip'. -/
def fnExactStripCard : Claim7 := { stood := { row := fnExactStripRow, standIns := [], harness := (true, "61c10e9af5c7bbe8f287f6e58a0077cbfc28a0ef63f9b601a4212a3d1dc2067b"), looks := false }, kinds := [], alts := [], laidByText := true, laidKinds := [.data, .pinned], laidTests := true, laidLooks := .later }
def FnExactStripCardSaid : Prop := Claim7.holds Tryd.pinned (.plain (OpenSpec.ofChange fnExactStripSpec)) fnExactStripCard

/-- THE TIED CARD OF 'laws.FnExactClean'. -/
def fnExactCleanCard : Claim7 := { stood := { row := fnExactCleanRow, standIns := [], harness := (true, "61c10e9af5c7bbe8f287f6e58a0077cbfc28a0ef63f9b601a4212a3d1dc2067b"), looks := false }, kinds := [], alts := [], laidByText := true, laidKinds := [.data, .pinned], laidTests := true, laidLooks := .later }
def FnExactCleanCardSaid : Prop := Claim7.holds Tryd.pinned (.plain (OpenSpec.ofChange fnExactCleanSpec)) fnExactCleanCard

/-- THE TIED CARD OF 'laws.FnExactUstarFits'. -/
def fnExactUstarFitsCard : Claim7 := { stood := { row := fnExactUstarFitsRow, standIns := [], harness := (true, "61c10e9af5c7bbe8f287f6e58a0077cbfc28a0ef63f9b601a4212a3d1dc2067b"), looks := false }, kinds := [], alts := [], laidByText := true, laidKinds := [.data, .pinned], laidTests := true, laidLooks := .later }
def FnExactUstarFitsCardSaid : Prop := Claim7.holds Tryd.pinned (.plain (OpenSpec.ofChange fnExactUstarFitsSpec)) fnExactUstarFitsCard

/-- THE TIED CARD OF 'laws.FnExactFollow'. -/
def fnExactFollowCard : Claim7 := { stood := { row := fnExactFollowRow, standIns := [], harness := (true, "61c10e9af5c7bbe8f287f6e58a0077cbfc28a0ef63f9b601a4212a3d1dc2067b"), looks := false }, kinds := [], alts := [], laidByText := true, laidKinds := [.data, .pinned], laidTests := true, laidLooks := .later }
def FnExactFollowCardSaid : Prop := Claim7.holds Tryd.pinned (.plain (OpenSpec.ofChange fnExactFollowSpec)) fnExactFollowCard

/-- THE TIED CARD OF 'laws.FnExactListOk'. -/
def fnExactListOkCard : Claim7 := { stood := { row := fnExactListOkRow, standIns := [], harness := (true, "61c10e9af5c7bbe8f287f6e58a0077cbfc28a0ef63f9b601a4212a3d1dc2067b"), looks := false }, kinds := [], alts := [], laidByText := true, laidKinds := [.data, .pinned], laidTests := true, laidLooks := .later }
def FnExactListOkCardSaid : Prop := Claim7.holds Tryd.pinned (.plain (OpenSpec.ofChange fnExactListOkSpec)) fnExactListOkCard

/-- THE SECOND FORM's CARD OF 'laws.FnExactPathOk'. -/
def fnExactPathOkUptoCard : Claim7 := { stood := { row := fnExactPathOkUptoRow, standIns := [], harness := (true, "61c10e9af5c7bbe8f287f6e58a0077cbfc28a0ef63f9b601a4212a3d1dc2067b"), looks := false }, kinds := [], alts := [], laidByText := true, laidKinds := [.data, .pinned], laidTests := true, laidLooks := .later }
def FnExactPathOkUptoCardSaid : Prop := Claim7.holds Tryd.pinned (.plain (OpenSpec.upto fnExactPathOkSpec)) fnExactPathOkUptoCard

/-- THE SECOND FORM's CARD OF 'laws.FnExactDepth'. -/
def fnExactDepthUptoCard : Claim7 := { stood := { row := fnExactDepthUptoRow, standIns := [], harness := (true, "61c10e9af5c7bbe8f287f6e58a0077cbfc28a0ef63f9b601a4212a3d1dc2067b"), looks := false }, kinds := [], alts := [], laidByText := true, laidKinds := [.data, .pinned], laidTests := true, laidLooks := .later }
def FnExactDepthUptoCardSaid : Prop := Claim7.holds Tryd.pinned (.plain (OpenSpec.upto fnExactDepthSpec)) fnExactDepthUptoCard

/-- THE SECOND FORM's CARD OF 'laws.FnExactUnder'. -/
def fnExactUnderUptoCard : Claim7 := { stood := { row := fnExactUnderUptoRow, standIns := [], harness := (true, "61c10e9af5c7bbe8f287f6e58a0077cbfc28a0ef63f9b601a4212a3d1dc2067b"), looks := false }, kinds := [], alts := [], laidByText := true, laidKinds := [.data, .pinned], laidTests := true, laidLooks := .later }
def FnExactUnderUptoCardSaid : Prop := Claim7.holds Tryd.pinned (.plain (OpenSpec.upto fnExactUnderSpec)) fnExactUnderUptoCard

/-- THE SECOND FORM's CARD OF 'laws.FnExactSwap'. -/
def fnExactSwapUptoCard : Claim7 := { stood := { row := fnExactSwapUptoRow, standIns := [], harness := (true, "61c10e9af5c7bbe8f287f6e58a0077cbfc28a0ef63f9b601a4212a3d1dc2067b"), looks := false }, kinds := [], alts := [], laidByText := true, laidKinds := [.data, .pinned], laidTests := true, laidLooks := .later }
def FnExactSwapUptoCardSaid : Prop := Claim7.holds Tryd.pinned (.plain (OpenSpec.upto fnExactSwapSpec)) fnExactSwapUptoCard

/-- THE SECOND FORM's CARD OF 'laws.FnExactParents'. -/
def fnExactParentsUptoCard : Claim7 := { stood := { row := fnExactParentsUptoRow, standIns := [], harness := (true, "61c10e9af5c7bbe8f287f6e58a0077cbfc28a0ef63f9b601a4212a3d1dc2067b"), looks := false }, kinds := [], alts := [], laidByText := true, laidKinds := [.data, .pinned], laidTests := true, laidLooks := .later }
def FnExactParentsUptoCardSaid : Prop := Claim7.holds Tryd.pinned (.plain (OpenSpec.upto fnExactParentsSpec)) fnExactParentsUptoCard

/-- THE SECOND FORM's CARD OF 'laws.FnExactEntryOk'. -/
def fnExactEntryOkUptoCard : Claim7 := { stood := { row := fnExactEntryOkUptoRow, standIns := [], harness := (true, "61c10e9af5c7bbe8f287f6e58a0077cbfc28a0ef63f9b601a4212a3d1dc2067b"), looks := false }, kinds := [], alts := [], laidByText := true, laidKinds := [.data, .pinned], laidTests := true, laidLooks := .later }
def FnExactEntryOkUptoCardSaid : Prop := Claim7.holds Tryd.pinned (.plain (OpenSpec.upto fnExactEntryOkSpec)) fnExactEntryOkUptoCard

/-- THE SECOND FORM's CARD OF 'laws.FnExactStrip'. -/
def fnExactStripUptoCard : Claim7 := { stood := { row := fnExactStripUptoRow, standIns := [], harness := (true, "61c10e9af5c7bbe8f287f6e58a0077cbfc28a0ef63f9b601a4212a3d1dc2067b"), looks := false }, kinds := [], alts := [], laidByText := true, laidKinds := [.data, .pinned], laidTests := true, laidLooks := .later }
def FnExactStripUptoCardSaid : Prop := Claim7.holds Tryd.pinned (.plain (OpenSpec.upto fnExactStripSpec)) fnExactStripUptoCard

/-- THE SECOND FORM's CARD OF 'laws.FnExactClean'. -/
def fnExactCleanUptoCard : Claim7 := { stood := { row := fnExactCleanUptoRow, standIns := [], harness := (true, "61c10e9af5c7bbe8f287f6e58a0077cbfc28a0ef63f9b601a4212a3d1dc2067b"), looks := false }, kinds := [], alts := [], laidByText := true, laidKinds := [.data, .pinned], laidTests := true, laidLooks := .later }
def FnExactCleanUptoCardSaid : Prop := Claim7.holds Tryd.pinned (.plain (OpenSpec.upto fnExactCleanSpec)) fnExactCleanUptoCard

/-- THE SECOND FORM's CARD OF 'laws.FnExactUstarFits'. -/
def fnExactUstarFitsUptoCard : Claim7 := { stood := { row := fnExactUstarFitsUptoRow, standIns := [], harness := (true, "61c10e9af5c7bbe8f287f6e58a0077cbfc28a0ef63f9b601a4212a3d1dc2067b"), looks := false }, kinds := [], alts := [], laidByText := true, laidKinds := [.data, .pinned], laidTests := true, laidLooks := .later }
def FnExactUstarFitsUptoCardSaid : Prop := Claim7.holds Tryd.pinned (.plain (OpenSpec.upto fnExactUstarFitsSpec)) fnExactUstarFitsUptoCard

/-- THE SECOND FORM's CARD OF 'laws.FnExactFollow'. -/
def fnExactFollowUptoCard : Claim7 := { stood := { row := fnExactFollowUptoRow, standIns := [], harness := (true, "61c10e9af5c7bbe8f287f6e58a0077cbfc28a0ef63f9b601a4212a3d1dc2067b"), looks := false }, kinds := [], alts := [], laidByText := true, laidKinds := [.data, .pinned], laidTests := true, laidLooks := .later }
def FnExactFollowUptoCardSaid : Prop := Claim7.holds Tryd.pinned (.plain (OpenSpec.upto fnExactFollowSpec)) fnExactFollowUptoCard

/-- THE SECOND FORM's CARD OF 'laws.FnExactListOk'. -/
def fnExactListOkUptoCard : Claim7 := { stood := { row := fnExactListOkUptoRow, standIns := [], harness := (true, "61c10e9af5c7bbe8f287f6e58a0077cbfc28a0ef63f9b601a4212a3d1dc2067b"), looks := false }, kinds := [], alts := [], laidByText := true, laidKinds := [.data, .pinned], laidTests := true, laidLooks := .later }
def FnExactListOkUptoCardSaid : Prop := Claim7.holds Tryd.pinned (.plain (OpenSpec.upto fnExactListOkSpec)) fnExactListOkUptoCard
end Rows
end Go.Proofs.YtjkdpnmmhobjlaaDoor
