/-
  DERIVED. GIVEN WITH THE SEED: THE CARDS: each row of YtllpggdmkdgggaaGreatDoorRows.lean that lists a variable, with what it lists TIED to the program's text (the seventh form; the later family's looks); each row that meets fmt, with fmt's text TOLD by the authors' own Lean function (tested against real Go, not proved from fmt's source: count such statements apart). THE CARD IS WHAT COUNTS. Prove the row's statement (the work); the ties are given (YtllpggdmkdgggaaGreatDoorTie.lean); close each card by the builder's one call (the guide's Derived/Test/ToyasCard.lean, 'card_holds'). Laid BY PROGRAM, IN A SANDBOX (cutbox-door.mjs). By AI agents, Wed Nov 11 2026. No macro, syntax, notation, axiom, sorry.
-/
import Derived.Test.YtllpggdmkdgggaaGreatDoorRows
import GoSem.ClaimSeven
namespace Go.Proofs.YtllpggdmkdgggaaGreatDoor
namespace Rows

/-- THE TIED CARD OF 'quipulaw06.RoundPlaces'. -/
def roundPlacesCard : Claim7 := { stood := { row := roundPlacesRow, standIns := [], harness := (true, "90a59ae3f9f16cdeea479c9fe4239345b4684930acb9d611f5a4ae9ab4d73f3c"), looks := true }, kinds := [], alts := [], laidByText := true, laidKinds := [.data, .data, .data, .data, .sentinel, .sentinel, .pinned], laidTests := true, laidLooks := .later }
def RoundPlacesCardSaid : Prop := Claim7.holds Tryz.pinned (.plain (OpenSpec.ofChange roundPlacesSpec)) roundPlacesCard

/-- THE TIED CARD OF 'quipulaw06.RoundDigits'. -/
def roundDigitsCard : Claim7 := { stood := { row := roundDigitsRow, standIns := [], harness := (true, "90a59ae3f9f16cdeea479c9fe4239345b4684930acb9d611f5a4ae9ab4d73f3c"), looks := true }, kinds := [], alts := [], laidByText := true, laidKinds := [.data, .data, .data, .data, .sentinel, .sentinel, .pinned], laidTests := true, laidLooks := .later }
def RoundDigitsCardSaid : Prop := Claim7.holds Tryz.pinned (.plain (OpenSpec.ofChange roundDigitsSpec)) roundDigitsCard

/-- THE TIED CARD OF 'quipulaw06.RoundSteps'. -/
def roundStepsCard : Claim7 := { stood := { row := roundStepsRow, standIns := [], harness := (true, "90a59ae3f9f16cdeea479c9fe4239345b4684930acb9d611f5a4ae9ab4d73f3c"), looks := true }, kinds := [], alts := [], laidByText := true, laidKinds := [.data, .data, .data, .data, .sentinel, .sentinel, .pinned], laidTests := true, laidLooks := .later }
def RoundStepsCardSaid : Prop := Claim7.holds Tryz.pinned (.plain (OpenSpec.ofChange roundStepsSpec)) roundStepsCard

/-- THE TIED CARD OF 'quipulaw06.RoundWays'. -/
def roundWaysCard : Claim7 := { stood := { row := roundWaysRow, standIns := [], harness := (true, "90a59ae3f9f16cdeea479c9fe4239345b4684930acb9d611f5a4ae9ab4d73f3c"), looks := true }, kinds := [], alts := [], laidByText := true, laidKinds := [.data, .data, .data, .data, .sentinel, .sentinel, .pinned], laidTests := true, laidLooks := .later }
def RoundWaysCardSaid : Prop := Claim7.holds Tryz.pinned (.plain (OpenSpec.ofChange roundWaysSpec)) roundWaysCard

/-- THE TIED CARD OF 'quipulaw06.RoundSigns'. -/
def roundSignsCard : Claim7 := { stood := { row := roundSignsRow, standIns := [], harness := (true, "90a59ae3f9f16cdeea479c9fe4239345b4684930acb9d611f5a4ae9ab4d73f3c"), looks := true }, kinds := [], alts := [], laidByText := true, laidKinds := [.data, .data, .data, .data, .sentinel, .sentinel, .pinned], laidTests := true, laidLooks := .later }
def RoundSignsCardSaid : Prop := Claim7.holds Tryz.pinned (.plain (OpenSpec.ofChange roundSignsSpec)) roundSignsCard

/-- THE TIED CARD OF 'quipulaw06.RoundRises'. -/
def roundRisesCard : Claim7 := { stood := { row := roundRisesRow, standIns := [], harness := (true, "90a59ae3f9f16cdeea479c9fe4239345b4684930acb9d611f5a4ae9ab4d73f3c"), looks := true }, kinds := [], alts := [], laidByText := true, laidKinds := [.data, .data, .data, .data, .sentinel, .sentinel, .pinned], laidTests := true, laidLooks := .later }
def RoundRisesCardSaid : Prop := Claim7.holds Tryz.pinned (.plain (OpenSpec.ofChange roundRisesSpec)) roundRisesCard

/-- THE TIED CARD OF 'quipulaw06.RoundOrder'. -/
def roundOrderCard : Claim7 := { stood := { row := roundOrderRow, standIns := [], harness := (true, "90a59ae3f9f16cdeea479c9fe4239345b4684930acb9d611f5a4ae9ab4d73f3c"), looks := true }, kinds := [], alts := [], laidByText := true, laidKinds := [.data, .data, .data, .data, .sentinel, .sentinel, .pinned], laidTests := true, laidLooks := .later }
def RoundOrderCardSaid : Prop := Claim7.holds Tryz.pinned (.plain (OpenSpec.ofChange roundOrderSpec)) roundOrderCard

/-- THE TIED CARD OF 'quipulaw06.RoundNear'. -/
def roundNearCard : Claim7 := { stood := { row := roundNearRow, standIns := [], harness := (true, "90a59ae3f9f16cdeea479c9fe4239345b4684930acb9d611f5a4ae9ab4d73f3c"), looks := true }, kinds := [], alts := [], laidByText := true, laidKinds := [.data, .data, .data, .data, .sentinel, .sentinel, .pinned], laidTests := true, laidLooks := .later }
def RoundNearCardSaid : Prop := Claim7.holds Tryz.pinned (.plain (OpenSpec.ofChange roundNearSpec)) roundNearCard

/-- THE SECOND FORM's CARD OF 'quipulaw06.RoundPlaces'. -/
def roundPlacesUptoCard : Claim7 := { stood := { row := roundPlacesUptoRow, standIns := [], harness := (true, "90a59ae3f9f16cdeea479c9fe4239345b4684930acb9d611f5a4ae9ab4d73f3c"), looks := true }, kinds := [], alts := [], laidByText := true, laidKinds := [.data, .data, .data, .data, .sentinel, .sentinel, .pinned], laidTests := true, laidLooks := .later }
def RoundPlacesUptoCardSaid : Prop := Claim7.holds Tryz.pinned (.plain (OpenSpec.upto roundPlacesSpec)) roundPlacesUptoCard

/-- THE SECOND FORM's CARD OF 'quipulaw06.RoundDigits'. -/
def roundDigitsUptoCard : Claim7 := { stood := { row := roundDigitsUptoRow, standIns := [], harness := (true, "90a59ae3f9f16cdeea479c9fe4239345b4684930acb9d611f5a4ae9ab4d73f3c"), looks := true }, kinds := [], alts := [], laidByText := true, laidKinds := [.data, .data, .data, .data, .sentinel, .sentinel, .pinned], laidTests := true, laidLooks := .later }
def RoundDigitsUptoCardSaid : Prop := Claim7.holds Tryz.pinned (.plain (OpenSpec.upto roundDigitsSpec)) roundDigitsUptoCard

/-- THE SECOND FORM's CARD OF 'quipulaw06.RoundSteps'. -/
def roundStepsUptoCard : Claim7 := { stood := { row := roundStepsUptoRow, standIns := [], harness := (true, "90a59ae3f9f16cdeea479c9fe4239345b4684930acb9d611f5a4ae9ab4d73f3c"), looks := true }, kinds := [], alts := [], laidByText := true, laidKinds := [.data, .data, .data, .data, .sentinel, .sentinel, .pinned], laidTests := true, laidLooks := .later }
def RoundStepsUptoCardSaid : Prop := Claim7.holds Tryz.pinned (.plain (OpenSpec.upto roundStepsSpec)) roundStepsUptoCard

/-- THE SECOND FORM's CARD OF 'quipulaw06.RoundWays'. -/
def roundWaysUptoCard : Claim7 := { stood := { row := roundWaysUptoRow, standIns := [], harness := (true, "90a59ae3f9f16cdeea479c9fe4239345b4684930acb9d611f5a4ae9ab4d73f3c"), looks := true }, kinds := [], alts := [], laidByText := true, laidKinds := [.data, .data, .data, .data, .sentinel, .sentinel, .pinned], laidTests := true, laidLooks := .later }
def RoundWaysUptoCardSaid : Prop := Claim7.holds Tryz.pinned (.plain (OpenSpec.upto roundWaysSpec)) roundWaysUptoCard

/-- THE SECOND FORM's CARD OF 'quipulaw06.RoundSigns'. -/
def roundSignsUptoCard : Claim7 := { stood := { row := roundSignsUptoRow, standIns := [], harness := (true, "90a59ae3f9f16cdeea479c9fe4239345b4684930acb9d611f5a4ae9ab4d73f3c"), looks := true }, kinds := [], alts := [], laidByText := true, laidKinds := [.data, .data, .data, .data, .sentinel, .sentinel, .pinned], laidTests := true, laidLooks := .later }
def RoundSignsUptoCardSaid : Prop := Claim7.holds Tryz.pinned (.plain (OpenSpec.upto roundSignsSpec)) roundSignsUptoCard

/-- THE SECOND FORM's CARD OF 'quipulaw06.RoundRises'. -/
def roundRisesUptoCard : Claim7 := { stood := { row := roundRisesUptoRow, standIns := [], harness := (true, "90a59ae3f9f16cdeea479c9fe4239345b4684930acb9d611f5a4ae9ab4d73f3c"), looks := true }, kinds := [], alts := [], laidByText := true, laidKinds := [.data, .data, .data, .data, .sentinel, .sentinel, .pinned], laidTests := true, laidLooks := .later }
def RoundRisesUptoCardSaid : Prop := Claim7.holds Tryz.pinned (.plain (OpenSpec.upto roundRisesSpec)) roundRisesUptoCard

/-- THE SECOND FORM's CARD OF 'quipulaw06.RoundOrder'. -/
def roundOrderUptoCard : Claim7 := { stood := { row := roundOrderUptoRow, standIns := [], harness := (true, "90a59ae3f9f16cdeea479c9fe4239345b4684930acb9d611f5a4ae9ab4d73f3c"), looks := true }, kinds := [], alts := [], laidByText := true, laidKinds := [.data, .data, .data, .data, .sentinel, .sentinel, .pinned], laidTests := true, laidLooks := .later }
def RoundOrderUptoCardSaid : Prop := Claim7.holds Tryz.pinned (.plain (OpenSpec.upto roundOrderSpec)) roundOrderUptoCard

/-- THE SECOND FORM's CARD OF 'quipulaw06.RoundNear'. -/
def roundNearUptoCard : Claim7 := { stood := { row := roundNearUptoRow, standIns := [], harness := (true, "90a59ae3f9f16cdeea479c9fe4239345b4684930acb9d611f5a4ae9ab4d73f3c"), looks := true }, kinds := [], alts := [], laidByText := true, laidKinds := [.data, .data, .data, .data, .sentinel, .sentinel, .pinned], laidTests := true, laidLooks := .later }
def RoundNearUptoCardSaid : Prop := Claim7.holds Tryz.pinned (.plain (OpenSpec.upto roundNearSpec)) roundNearUptoCard
end Rows
end Go.Proofs.YtllpggdmkdgggaaGreatDoor
