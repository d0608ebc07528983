/-
  DERIVED. GIVEN WITH THE SEED: THE CARDS: each row of YtkanddmihmdagaaGreatDoorRows.lean that lists a variable, with what it lists TIED to the program's text (the seventh form; the later family's looks); each row that meets fmt, with fmt's text TOLD by the authors' own Lean function (tested against real Go, not proved from fmt's source: count such statements apart). THE CARD IS WHAT COUNTS. Prove the row's statement (the work); the ties are given (YtkanddmihmdagaaGreatDoorTie.lean); close each card by the builder's one call (the guide's Derived/Test/ToyasCard.lean, 'card_holds'). Laid BY PROGRAM, IN A SANDBOX (cutbox-door.mjs). By AI agents, Wed Nov 11 2026. No macro, syntax, notation, axiom, sorry.
-/
import Derived.Test.YtkanddmihmdagaaGreatDoorRows
import GoSem.ClaimSeven
namespace Go.Proofs.YtkanddmihmdagaaGreatDoor
namespace Rows

/-- THE TIED CARD OF 'quipulaw05.DecForms'. -/
def decFormsCard : Claim7 := { stood := { row := decFormsRow, standIns := [], harness := (true, "79fe1fbed837c76ef4ba16c5938a66c0564bc76b97c66e8203a86d4716206ce8"), looks := true }, kinds := [], alts := [], laidByText := true, laidKinds := [.data, .data, .data, .data, .sentinel, .sentinel, .pinned], laidTests := true, laidLooks := .later }
def DecFormsCardSaid : Prop := Claim7.holds Tryz.pinned (.plain (OpenSpec.ofChange decFormsSpec)) decFormsCard

/-- THE TIED CARD OF 'quipulaw05.DecReads'. -/
def decReadsCard : Claim7 := { stood := { row := decReadsRow, standIns := [], harness := (true, "79fe1fbed837c76ef4ba16c5938a66c0564bc76b97c66e8203a86d4716206ce8"), looks := true }, kinds := [], alts := [], laidByText := true, laidKinds := [.data, .data, .data, .data, .sentinel, .sentinel, .pinned], laidTests := true, laidLooks := .later }
def DecReadsCardSaid : Prop := Claim7.holds Tryz.pinned (.plain (OpenSpec.ofChange decReadsSpec)) decReadsCard

/-- THE TIED CARD OF 'quipulaw05.DecPrints'. -/
def decPrintsCard : Claim7 := { stood := { row := decPrintsRow, standIns := [], harness := (true, "79fe1fbed837c76ef4ba16c5938a66c0564bc76b97c66e8203a86d4716206ce8"), looks := true }, kinds := [], alts := [], laidByText := true, laidKinds := [.data, .data, .data, .data, .sentinel, .sentinel, .pinned], laidTests := true, laidLooks := .later }
def DecPrintsCardSaid : Prop := Claim7.holds Tryz.pinned (.plain (OpenSpec.ofChange decPrintsSpec)) decPrintsCard

/-- THE TIED CARD OF 'quipulaw05.DecStands'. -/
def decStandsCard : Claim7 := { stood := { row := decStandsRow, standIns := [], harness := (true, "79fe1fbed837c76ef4ba16c5938a66c0564bc76b97c66e8203a86d4716206ce8"), looks := true }, kinds := [], alts := [], laidByText := true, laidKinds := [.data, .data, .data, .data, .sentinel, .sentinel, .pinned], laidTests := true, laidLooks := .later }
def DecStandsCardSaid : Prop := Claim7.holds Tryz.pinned (.plain (OpenSpec.ofChange decStandsSpec)) decStandsCard

/-- THE TIED CARD OF 'quipulaw05.DecScales'. -/
def decScalesCard : Claim7 := { stood := { row := decScalesRow, standIns := [], harness := (true, "79fe1fbed837c76ef4ba16c5938a66c0564bc76b97c66e8203a86d4716206ce8"), looks := true }, kinds := [], alts := [], laidByText := true, laidKinds := [.data, .data, .data, .data, .sentinel, .sentinel, .pinned], laidTests := true, laidLooks := .later }
def DecScalesCardSaid : Prop := Claim7.holds Tryz.pinned (.plain (OpenSpec.ofChange decScalesSpec)) decScalesCard

/-- THE TIED CARD OF 'quipulaw05.DecReckons'. -/
def decReckonsCard : Claim7 := { stood := { row := decReckonsRow, standIns := [], harness := (true, "79fe1fbed837c76ef4ba16c5938a66c0564bc76b97c66e8203a86d4716206ce8"), looks := true }, kinds := [], alts := [], laidByText := true, laidKinds := [.data, .data, .data, .data, .sentinel, .sentinel, .pinned], laidTests := true, laidLooks := .later }
def DecReckonsCardSaid : Prop := Claim7.holds Tryz.pinned (.plain (OpenSpec.ofChange decReckonsSpec)) decReckonsCard

/-- THE TIED CARD OF 'quipulaw05.DecBack'. -/
def decBackCard : Claim7 := { stood := { row := decBackRow, standIns := [], harness := (true, "79fe1fbed837c76ef4ba16c5938a66c0564bc76b97c66e8203a86d4716206ce8"), looks := true }, kinds := [], alts := [], laidByText := true, laidKinds := [.data, .data, .data, .data, .sentinel, .sentinel, .pinned], laidTests := true, laidLooks := .later }
def DecBackCardSaid : Prop := Claim7.holds Tryz.pinned (.plain (OpenSpec.ofChange decBackSpec)) decBackCard

/-- THE TIED CARD OF 'quipulaw05.DecRing'. -/
def decRingCard : Claim7 := { stood := { row := decRingRow, standIns := [], harness := (true, "79fe1fbed837c76ef4ba16c5938a66c0564bc76b97c66e8203a86d4716206ce8"), looks := true }, kinds := [], alts := [], laidByText := true, laidKinds := [.data, .data, .data, .data, .sentinel, .sentinel, .pinned], laidTests := true, laidLooks := .later }
def DecRingCardSaid : Prop := Claim7.holds Tryz.pinned (.plain (OpenSpec.ofChange decRingSpec)) decRingCard

/-- THE TIED CARD OF 'quipulaw05.DecOrder'. -/
def decOrderCard : Claim7 := { stood := { row := decOrderRow, standIns := [], harness := (true, "79fe1fbed837c76ef4ba16c5938a66c0564bc76b97c66e8203a86d4716206ce8"), looks := true }, kinds := [], alts := [], laidByText := true, laidKinds := [.data, .data, .data, .data, .sentinel, .sentinel, .pinned], laidTests := true, laidLooks := .later }
def DecOrderCardSaid : Prop := Claim7.holds Tryz.pinned (.plain (OpenSpec.ofChange decOrderSpec)) decOrderCard

/-- THE TIED CARD OF 'quipulaw05.DecPlaces'. -/
def decPlacesCard : Claim7 := { stood := { row := decPlacesRow, standIns := [], harness := (true, "79fe1fbed837c76ef4ba16c5938a66c0564bc76b97c66e8203a86d4716206ce8"), looks := true }, kinds := [], alts := [], laidByText := true, laidKinds := [.data, .data, .data, .data, .sentinel, .sentinel, .pinned], laidTests := true, laidLooks := .later }
def DecPlacesCardSaid : Prop := Claim7.holds Tryz.pinned (.plain (OpenSpec.ofChange decPlacesSpec)) decPlacesCard

/-- THE SECOND FORM's CARD OF 'quipulaw05.DecForms'. -/
def decFormsUptoCard : Claim7 := { stood := { row := decFormsUptoRow, standIns := [], harness := (true, "79fe1fbed837c76ef4ba16c5938a66c0564bc76b97c66e8203a86d4716206ce8"), looks := true }, kinds := [], alts := [], laidByText := true, laidKinds := [.data, .data, .data, .data, .sentinel, .sentinel, .pinned], laidTests := true, laidLooks := .later }
def DecFormsUptoCardSaid : Prop := Claim7.holds Tryz.pinned (.plain (OpenSpec.upto decFormsSpec)) decFormsUptoCard

/-- THE SECOND FORM's CARD OF 'quipulaw05.DecReads'. -/
def decReadsUptoCard : Claim7 := { stood := { row := decReadsUptoRow, standIns := [], harness := (true, "79fe1fbed837c76ef4ba16c5938a66c0564bc76b97c66e8203a86d4716206ce8"), looks := true }, kinds := [], alts := [], laidByText := true, laidKinds := [.data, .data, .data, .data, .sentinel, .sentinel, .pinned], laidTests := true, laidLooks := .later }
def DecReadsUptoCardSaid : Prop := Claim7.holds Tryz.pinned (.plain (OpenSpec.upto decReadsSpec)) decReadsUptoCard

/-- THE SECOND FORM's CARD OF 'quipulaw05.DecPrints'. -/
def decPrintsUptoCard : Claim7 := { stood := { row := decPrintsUptoRow, standIns := [], harness := (true, "79fe1fbed837c76ef4ba16c5938a66c0564bc76b97c66e8203a86d4716206ce8"), looks := true }, kinds := [], alts := [], laidByText := true, laidKinds := [.data, .data, .data, .data, .sentinel, .sentinel, .pinned], laidTests := true, laidLooks := .later }
def DecPrintsUptoCardSaid : Prop := Claim7.holds Tryz.pinned (.plain (OpenSpec.upto decPrintsSpec)) decPrintsUptoCard

/-- THE SECOND FORM's CARD OF 'quipulaw05.DecStands'. -/
def decStandsUptoCard : Claim7 := { stood := { row := decStandsUptoRow, standIns := [], harness := (true, "79fe1fbed837c76ef4ba16c5938a66c0564bc76b97c66e8203a86d4716206ce8"), looks := true }, kinds := [], alts := [], laidByText := true, laidKinds := [.data, .data, .data, .data, .sentinel, .sentinel, .pinned], laidTests := true, laidLooks := .later }
def DecStandsUptoCardSaid : Prop := Claim7.holds Tryz.pinned (.plain (OpenSpec.upto decStandsSpec)) decStandsUptoCard

/-- THE SECOND FORM's CARD OF 'quipulaw05.DecScales'. -/
def decScalesUptoCard : Claim7 := { stood := { row := decScalesUptoRow, standIns := [], harness := (true, "79fe1fbed837c76ef4ba16c5938a66c0564bc76b97c66e8203a86d4716206ce8"), looks := true }, kinds := [], alts := [], laidByText := true, laidKinds := [.data, .data, .data, .data, .sentinel, .sentinel, .pinned], laidTests := true, laidLooks := .later }
def DecScalesUptoCardSaid : Prop := Claim7.holds Tryz.pinned (.plain (OpenSpec.upto decScalesSpec)) decScalesUptoCard

/-- THE SECOND FORM's CARD OF 'quipulaw05.DecReckons'. -/
def decReckonsUptoCard : Claim7 := { stood := { row := decReckonsUptoRow, standIns := [], harness := (true, "79fe1fbed837c76ef4ba16c5938a66c0564bc76b97c66e8203a86d4716206ce8"), looks := true }, kinds := [], alts := [], laidByText := true, laidKinds := [.data, .data, .data, .data, .sentinel, .sentinel, .pinned], laidTests := true, laidLooks := .later }
def DecReckonsUptoCardSaid : Prop := Claim7.holds Tryz.pinned (.plain (OpenSpec.upto decReckonsSpec)) decReckonsUptoCard

/-- THE SECOND FORM's CARD OF 'quipulaw05.DecBack'. -/
def decBackUptoCard : Claim7 := { stood := { row := decBackUptoRow, standIns := [], harness := (true, "79fe1fbed837c76ef4ba16c5938a66c0564bc76b97c66e8203a86d4716206ce8"), looks := true }, kinds := [], alts := [], laidByText := true, laidKinds := [.data, .data, .data, .data, .sentinel, .sentinel, .pinned], laidTests := true, laidLooks := .later }
def DecBackUptoCardSaid : Prop := Claim7.holds Tryz.pinned (.plain (OpenSpec.upto decBackSpec)) decBackUptoCard

/-- THE SECOND FORM's CARD OF 'quipulaw05.DecRing'. -/
def decRingUptoCard : Claim7 := { stood := { row := decRingUptoRow, standIns := [], harness := (true, "79fe1fbed837c76ef4ba16c5938a66c0564bc76b97c66e8203a86d4716206ce8"), looks := true }, kinds := [], alts := [], laidByText := true, laidKinds := [.data, .data, .data, .data, .sentinel, .sentinel, .pinned], laidTests := true, laidLooks := .later }
def DecRingUptoCardSaid : Prop := Claim7.holds Tryz.pinned (.plain (OpenSpec.upto decRingSpec)) decRingUptoCard

/-- THE SECOND FORM's CARD OF 'quipulaw05.DecOrder'. -/
def decOrderUptoCard : Claim7 := { stood := { row := decOrderUptoRow, standIns := [], harness := (true, "79fe1fbed837c76ef4ba16c5938a66c0564bc76b97c66e8203a86d4716206ce8"), looks := true }, kinds := [], alts := [], laidByText := true, laidKinds := [.data, .data, .data, .data, .sentinel, .sentinel, .pinned], laidTests := true, laidLooks := .later }
def DecOrderUptoCardSaid : Prop := Claim7.holds Tryz.pinned (.plain (OpenSpec.upto decOrderSpec)) decOrderUptoCard

/-- THE SECOND FORM's CARD OF 'quipulaw05.DecPlaces'. -/
def decPlacesUptoCard : Claim7 := { stood := { row := decPlacesUptoRow, standIns := [], harness := (true, "79fe1fbed837c76ef4ba16c5938a66c0564bc76b97c66e8203a86d4716206ce8"), looks := true }, kinds := [], alts := [], laidByText := true, laidKinds := [.data, .data, .data, .data, .sentinel, .sentinel, .pinned], laidTests := true, laidLooks := .later }
def DecPlacesUptoCardSaid : Prop := Claim7.holds Tryz.pinned (.plain (OpenSpec.upto decPlacesSpec)) decPlacesUptoCard
end Rows
end Go.Proofs.YtkanddmihmdagaaGreatDoor
