/-
  DERIVED. GIVEN WITH THE SEED: THE CARDS: each row of YtdjepilhenijeaaDoorRows.lean that lists a variable, with what it lists TIED to the program's text (the seventh form; the later family's looks); each row that meets fmt, with fmt's text TOLD by the authors' own Lean function (tested against real Go, not proved from fmt's source: count such statements apart). THE CARD IS WHAT COUNTS. Prove the row's statement (the work); the ties are given (YtdjepilhenijeaaDoorTie.lean); close each card by the builder's one call (the guide's Derived/Test/ToyasCard.lean, 'card_holds'). Laid BY PROGRAM, IN A SANDBOX (cutbox-door.mjs). By AI agents, Wed Nov 11 2026. No macro, syntax, notation, axiom, sorry.
-/
import Derived.Test.YtdjepilhenijeaaDoorRows
import GoSem.ClaimSeven
namespace Go.Proofs.YtdjepilhenijeaaDoor
namespace Rows

/-- THE TIED CARD OF 'laws.FnClean'. -/
def fnCleanCard : Claim7 := { stood := { row := fnCleanRow, standIns := [], harness := (true, "6e8bfee30ad233f131b23335f3a951131defa7c6288ea4d6db6c8ed5b4811a2d"), looks := true }, kinds := [], alts := [], laidByText := true, laidKinds := [.data, .pinned], laidTests := true, laidLooks := .later }
def FnCleanCardSaid : Prop := Claim7.holds Tryd.pinned (.plain (OpenSpec.ofChange fnCleanSpec)) fnCleanCard

/-- THE TIED CARD OF 'laws.FnPaths'. -/
def fnPathsCard : Claim7 := { stood := { row := fnPathsRow, standIns := [], harness := (true, "6e8bfee30ad233f131b23335f3a951131defa7c6288ea4d6db6c8ed5b4811a2d"), looks := true }, kinds := [], alts := [], laidByText := true, laidKinds := [.data, .pinned], laidTests := true, laidLooks := .later }
def FnPathsCardSaid : Prop := Claim7.holds Tryd.pinned (.plain (OpenSpec.ofChange fnPathsSpec)) fnPathsCard

/-- THE TIED CARD OF 'laws.FnGlob'. -/
def fnGlobCard : Claim7 := { stood := { row := fnGlobRow, standIns := [], harness := (true, "6e8bfee30ad233f131b23335f3a951131defa7c6288ea4d6db6c8ed5b4811a2d"), looks := true }, kinds := [], alts := [], laidByText := true, laidKinds := [.data, .pinned], laidTests := true, laidLooks := .later }
def FnGlobCardSaid : Prop := Claim7.holds Tryd.pinned (.plain (OpenSpec.ofChange fnGlobSpec)) fnGlobCard

/-- THE TIED CARD OF 'laws.FnFields'. -/
def fnFieldsCard : Claim7 := { stood := { row := fnFieldsRow, standIns := [], harness := (true, "6e8bfee30ad233f131b23335f3a951131defa7c6288ea4d6db6c8ed5b4811a2d"), looks := true }, kinds := [], alts := [], laidByText := true, laidKinds := [.data, .data, .data, .data, .sentinel, .sentinel, .pinned], laidTests := true, laidLooks := .later }
def FnFieldsCardSaid : Prop := Claim7.holds Tryd.pinned (.plain (OpenSpec.ofChange fnFieldsSpec)) fnFieldsCard

/-- THE SECOND FORM's CARD OF 'laws.FnClean'. -/
def fnCleanUptoCard : Claim7 := { stood := { row := fnCleanUptoRow, standIns := [], harness := (true, "6e8bfee30ad233f131b23335f3a951131defa7c6288ea4d6db6c8ed5b4811a2d"), looks := true }, kinds := [], alts := [], laidByText := true, laidKinds := [.data, .pinned], laidTests := true, laidLooks := .later }
def FnCleanUptoCardSaid : Prop := Claim7.holds Tryd.pinned (.plain (OpenSpec.upto fnCleanSpec)) fnCleanUptoCard

/-- THE SECOND FORM's CARD OF 'laws.FnPaths'. -/
def fnPathsUptoCard : Claim7 := { stood := { row := fnPathsUptoRow, standIns := [], harness := (true, "6e8bfee30ad233f131b23335f3a951131defa7c6288ea4d6db6c8ed5b4811a2d"), looks := true }, kinds := [], alts := [], laidByText := true, laidKinds := [.data, .pinned], laidTests := true, laidLooks := .later }
def FnPathsUptoCardSaid : Prop := Claim7.holds Tryd.pinned (.plain (OpenSpec.upto fnPathsSpec)) fnPathsUptoCard

/-- THE SECOND FORM's CARD OF 'laws.FnGlob'. -/
def fnGlobUptoCard : Claim7 := { stood := { row := fnGlobUptoRow, standIns := [], harness := (true, "6e8bfee30ad233f131b23335f3a951131defa7c6288ea4d6db6c8ed5b4811a2d"), looks := true }, kinds := [], alts := [], laidByText := true, laidKinds := [.data, .pinned], laidTests := true, laidLooks := .later }
def FnGlobUptoCardSaid : Prop := Claim7.holds Tryd.pinned (.plain (OpenSpec.upto fnGlobSpec)) fnGlobUptoCard

/-- THE SECOND FORM's CARD OF 'laws.FnFields'. -/
def fnFieldsUptoCard : Claim7 := { stood := { row := fnFieldsUptoRow, standIns := [], harness := (true, "6e8bfee30ad233f131b23335f3a951131defa7c6288ea4d6db6c8ed5b4811a2d"), looks := true }, kinds := [], alts := [], laidByText := true, laidKinds := [.data, .data, .data, .data, .sentinel, .sentinel, .pinned], laidTests := true, laidLooks := .later }
def FnFieldsUptoCardSaid : Prop := Claim7.holds Tryd.pinned (.plain (OpenSpec.upto fnFieldsSpec)) fnFieldsUptoCard
end Rows
end Go.Proofs.YtdjepilhenijeaaDoor
