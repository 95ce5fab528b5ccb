/-
  DERIVED. GIVEN WITH THE SEED: THE CARDS: each row of YtlaoljbanflcgaaDoorRows.lean that lists a variable, with what it lists TIED to the program's text (the seventh form; the later family's looks); each row that meets fmt, with fmt's text TOLD by the authors' own Lean function (tested against real Go, not proved from fmt's source: count such statements apart). THE CARD IS WHAT COUNTS. Prove the row's statement (the work); the ties are given (YtlaoljbanflcgaaDoorTie.lean); close each card by the builder's one call (the guide's Derived/Test/ToyasCard.lean, 'card_holds'). Laid BY PROGRAM, IN A SANDBOX (cutbox-door.mjs). By AI agents, Wed Nov 11 2026. No macro, syntax, notation, axiom, sorry.
-/
import Derived.Test.YtlaoljbanflcgaaDoorRows
import GoSem.ClaimSeven
namespace Go.Proofs.YtlaoljbanflcgaaDoor
namespace Rows

/-- THE TIED CARD OF 'laws.FnExactDecText'. -/
def fnExactDecTextCard : Claim7 := { stood := { row := fnExactDecTextRow, standIns := [], harness := (true, "307e32eca8f76e33eabe750c703a322558b473700629886f2306931b089e6dfe"), looks := false }, kinds := [], alts := [], laidByText := true, laidKinds := [.data, .data, .data], laidTests := true, laidLooks := .later }
def FnExactDecTextCardSaid : Prop := Claim7.holds Tryd.pinned (.plain (OpenSpec.ofChange fnExactDecTextSpec)) fnExactDecTextCard

/-- THE TIED CARD OF 'laws.FnExactParts'. -/
def fnExactPartsCard : Claim7 := { stood := { row := fnExactPartsRow, standIns := [], harness := (true, "307e32eca8f76e33eabe750c703a322558b473700629886f2306931b089e6dfe"), looks := false }, kinds := [], alts := [], laidByText := true, laidKinds := [.data, .pinned], laidTests := true, laidLooks := .later }
def FnExactPartsCardSaid : Prop := Claim7.holds Tryd.pinned (.plain (OpenSpec.ofChange fnExactPartsSpec)) fnExactPartsCard

/-- THE TIED CARD OF 'laws.FnExactWords'. -/
def fnExactWordsCard : Claim7 := { stood := { row := fnExactWordsRow, standIns := [], harness := (true, "307e32eca8f76e33eabe750c703a322558b473700629886f2306931b089e6dfe"), looks := false }, kinds := [], alts := [], laidByText := true, laidKinds := [.data, .pinned], laidTests := true, laidLooks := .later }
def FnExactWordsCardSaid : Prop := Claim7.holds Tryd.pinned (.plain (OpenSpec.ofChange fnExactWordsSpec)) fnExactWordsCard

/-- THE TIED CARD OF 'laws.FnExactPutHex'. -/
def fnExactPutHexCard : Claim7 := { stood := { row := fnExactPutHexRow, standIns := [], harness := (true, "307e32eca8f76e33eabe750c703a322558b473700629886f2306931b089e6dfe"), looks := false }, kinds := [], alts := [], laidByText := true, laidKinds := [.data, .data, .data], laidTests := true, laidLooks := .later }
def FnExactPutHexCardSaid : Prop := Claim7.holds Tryd.pinned (.plain (OpenSpec.ofChange fnExactPutHexSpec)) fnExactPutHexCard

/-- THE TIED CARD OF 'laws.FnExactPutDec'. -/
def fnExactPutDecCard : Claim7 := { stood := { row := fnExactPutDecRow, standIns := [], harness := (true, "307e32eca8f76e33eabe750c703a322558b473700629886f2306931b089e6dfe"), looks := false }, kinds := [], alts := [], laidByText := true, laidKinds := [.data, .data, .data], laidTests := true, laidLooks := .later }
def FnExactPutDecCardSaid : Prop := Claim7.holds Tryd.pinned (.plain (OpenSpec.ofChange fnExactPutDecSpec)) fnExactPutDecCard

/-- THE SECOND FORM's CARD OF 'laws.FnExactDecText'. -/
def fnExactDecTextUptoCard : Claim7 := { stood := { row := fnExactDecTextUptoRow, standIns := [], harness := (true, "307e32eca8f76e33eabe750c703a322558b473700629886f2306931b089e6dfe"), looks := false }, kinds := [], alts := [], laidByText := true, laidKinds := [.data, .data, .data], laidTests := true, laidLooks := .later }
def FnExactDecTextUptoCardSaid : Prop := Claim7.holds Tryd.pinned (.plain (OpenSpec.upto fnExactDecTextSpec)) fnExactDecTextUptoCard

/-- THE SECOND FORM's CARD OF 'laws.FnExactParts'. -/
def fnExactPartsUptoCard : Claim7 := { stood := { row := fnExactPartsUptoRow, standIns := [], harness := (true, "307e32eca8f76e33eabe750c703a322558b473700629886f2306931b089e6dfe"), looks := false }, kinds := [], alts := [], laidByText := true, laidKinds := [.data, .pinned], laidTests := true, laidLooks := .later }
def FnExactPartsUptoCardSaid : Prop := Claim7.holds Tryd.pinned (.plain (OpenSpec.upto fnExactPartsSpec)) fnExactPartsUptoCard

/-- THE SECOND FORM's CARD OF 'laws.FnExactWords'. -/
def fnExactWordsUptoCard : Claim7 := { stood := { row := fnExactWordsUptoRow, standIns := [], harness := (true, "307e32eca8f76e33eabe750c703a322558b473700629886f2306931b089e6dfe"), looks := false }, kinds := [], alts := [], laidByText := true, laidKinds := [.data, .pinned], laidTests := true, laidLooks := .later }
def FnExactWordsUptoCardSaid : Prop := Claim7.holds Tryd.pinned (.plain (OpenSpec.upto fnExactWordsSpec)) fnExactWordsUptoCard

/-- THE SECOND FORM's CARD OF 'laws.FnExactPutHex'. -/
def fnExactPutHexUptoCard : Claim7 := { stood := { row := fnExactPutHexUptoRow, standIns := [], harness := (true, "307e32eca8f76e33eabe750c703a322558b473700629886f2306931b089e6dfe"), looks := false }, kinds := [], alts := [], laidByText := true, laidKinds := [.data, .data, .data], laidTests := true, laidLooks := .later }
def FnExactPutHexUptoCardSaid : Prop := Claim7.holds Tryd.pinned (.plain (OpenSpec.upto fnExactPutHexSpec)) fnExactPutHexUptoCard

/-- THE SECOND FORM's CARD OF 'laws.FnExactPutDec'. -/
def fnExactPutDecUptoCard : Claim7 := { stood := { row := fnExactPutDecUptoRow, standIns := [], harness := (true, "307e32eca8f76e33eabe750c703a322558b473700629886f2306931b089e6dfe"), looks := false }, kinds := [], alts := [], laidByText := true, laidKinds := [.data, .data, .data], laidTests := true, laidLooks := .later }
def FnExactPutDecUptoCardSaid : Prop := Claim7.holds Tryd.pinned (.plain (OpenSpec.upto fnExactPutDecSpec)) fnExactPutDecUptoCard
end Rows
end Go.Proofs.YtlaoljbanflcgaaDoor
