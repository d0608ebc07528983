/-
  DERIVED. GIVEN WITH THE SEED: THE CARDS: each row of YtfddokfnplehkaaGreatDoorRows.lean that lists a variable, with what it lists TIED to the program's text (the seventh form; the later family's looks); each row that meets fmt, with fmt's text TOLD by the authors' own Lean function (tested against real Go, not proved from fmt's source: count such statements apart). THE CARD IS WHAT COUNTS. Prove the row's statement (the work); the ties are given (YtfddokfnplehkaaGreatDoorTie.lean); close each card by the builder's one call (the guide's Derived/Test/ToyasCard.lean, 'card_holds'). Laid BY PROGRAM, IN A SANDBOX (cutbox-door.mjs). By AI agents, Wed Nov 11 2026. No macro, syntax, notation, axiom, sorry.
-/
import Derived.Test.YtfddokfnplehkaaGreatDoorRows
import GoSem.ClaimSeven
namespace Go.Proofs.YtfddokfnplehkaaGreatDoor
namespace Rows

/-- THE TIED CARD OF 'quipulaw04.NearestWide'. -/
def nearestWideCard : Claim7 := { stood := { row := nearestWideRow, standIns := [], harness := (true, "a13e86d30688c5e218bd8e2eb12cead79bc0a07ab3779b7d99fb3424d57f6b28"), looks := true }, kinds := [], alts := [], laidByText := true, laidKinds := [.data, .data, .data, .data, .sentinel, .sentinel, .pinned], laidTests := true, laidLooks := .later }
def NearestWideCardSaid : Prop := Claim7.holds Tryz.pinned (.plain (OpenSpec.ofChange nearestWideSpec)) nearestWideCard

/-- THE TIED CARD OF 'quipulaw04.NearestNarrow'. -/
def nearestNarrowCard : Claim7 := { stood := { row := nearestNarrowRow, standIns := [], harness := (true, "a13e86d30688c5e218bd8e2eb12cead79bc0a07ab3779b7d99fb3424d57f6b28"), looks := true }, kinds := [], alts := [], laidByText := true, laidKinds := [.data, .data, .data, .data, .sentinel, .sentinel, .pinned], laidTests := true, laidLooks := .later }
def NearestNarrowCardSaid : Prop := Claim7.holds Tryz.pinned (.plain (OpenSpec.ofChange nearestNarrowSpec)) nearestNarrowCard

/-- THE TIED CARD OF 'quipulaw04.NearestTurns'. -/
def nearestTurnsCard : Claim7 := { stood := { row := nearestTurnsRow, standIns := [], harness := (true, "a13e86d30688c5e218bd8e2eb12cead79bc0a07ab3779b7d99fb3424d57f6b28"), looks := true }, kinds := [], alts := [], laidByText := true, laidKinds := [.data, .data, .data, .data, .sentinel, .sentinel, .pinned], laidTests := true, laidLooks := .later }
def NearestTurnsCardSaid : Prop := Claim7.holds Tryz.pinned (.plain (OpenSpec.ofChange nearestTurnsSpec)) nearestTurnsCard

/-- THE TIED CARD OF 'quipulaw04.NearestRises'. -/
def nearestRisesCard : Claim7 := { stood := { row := nearestRisesRow, standIns := [], harness := (true, "a13e86d30688c5e218bd8e2eb12cead79bc0a07ab3779b7d99fb3424d57f6b28"), looks := true }, kinds := [], alts := [], laidByText := true, laidKinds := [.data, .data, .data, .data, .sentinel, .sentinel, .pinned], laidTests := true, laidLooks := .later }
def NearestRisesCardSaid : Prop := Claim7.holds Tryz.pinned (.plain (OpenSpec.ofChange nearestRisesSpec)) nearestRisesCard

/-- THE TIED CARD OF 'quipulaw04.NearestBetween'. -/
def nearestBetweenCard : Claim7 := { stood := { row := nearestBetweenRow, standIns := [], harness := (true, "a13e86d30688c5e218bd8e2eb12cead79bc0a07ab3779b7d99fb3424d57f6b28"), looks := true }, kinds := [], alts := [], laidByText := true, laidKinds := [.data, .data, .data, .data, .sentinel, .sentinel, .pinned], laidTests := true, laidLooks := .later }
def NearestBetweenCardSaid : Prop := Claim7.holds Tryz.pinned (.plain (OpenSpec.ofChange nearestBetweenSpec)) nearestBetweenCard

/-- THE TIED CARD OF 'quipulaw04.NearestFewest'. -/
def nearestFewestCard : Claim7 := { stood := { row := nearestFewestRow, standIns := [], harness := (true, "a13e86d30688c5e218bd8e2eb12cead79bc0a07ab3779b7d99fb3424d57f6b28"), looks := true }, kinds := [], alts := [], laidByText := true, laidKinds := [.data, .data, .data, .data, .sentinel, .sentinel, .pinned], laidTests := true, laidLooks := .later }
def NearestFewestCardSaid : Prop := Claim7.holds Tryz.pinned (.plain (OpenSpec.ofChange nearestFewestSpec)) nearestFewestCard

/-- THE TIED CARD OF 'quipulaw04.NearestBack'. -/
def nearestBackCard : Claim7 := { stood := { row := nearestBackRow, standIns := [], harness := (true, "a13e86d30688c5e218bd8e2eb12cead79bc0a07ab3779b7d99fb3424d57f6b28"), looks := true }, kinds := [], alts := [], laidByText := true, laidKinds := [.data, .data, .data, .data, .sentinel, .sentinel, .pinned], laidTests := true, laidLooks := .later }
def NearestBackCardSaid : Prop := Claim7.holds Tryz.pinned (.plain (OpenSpec.ofChange nearestBackSpec)) nearestBackCard

/-- THE TIED CARD OF 'quipulaw06.RoundNear'. -/
def roundNearCard : Claim7 := { stood := { row := roundNearRow, standIns := [], harness := (true, "a13e86d30688c5e218bd8e2eb12cead79bc0a07ab3779b7d99fb3424d57f6b28"), looks := true }, kinds := [], alts := [], laidByText := true, laidKinds := [.data, .data, .data, .data, .sentinel, .sentinel, .pinned], laidTests := true, laidLooks := .later }
def RoundNearCardSaid : Prop := Claim7.holds Tryz.pinned (.plain (OpenSpec.ofChange roundNearSpec)) roundNearCard

/-- THE SECOND FORM's CARD OF 'quipulaw04.NearestWide'. -/
def nearestWideUptoCard : Claim7 := { stood := { row := nearestWideUptoRow, standIns := [], harness := (true, "a13e86d30688c5e218bd8e2eb12cead79bc0a07ab3779b7d99fb3424d57f6b28"), looks := true }, kinds := [], alts := [], laidByText := true, laidKinds := [.data, .data, .data, .data, .sentinel, .sentinel, .pinned], laidTests := true, laidLooks := .later }
def NearestWideUptoCardSaid : Prop := Claim7.holds Tryz.pinned (.plain (OpenSpec.upto nearestWideSpec)) nearestWideUptoCard

/-- THE SECOND FORM's CARD OF 'quipulaw04.NearestNarrow'. -/
def nearestNarrowUptoCard : Claim7 := { stood := { row := nearestNarrowUptoRow, standIns := [], harness := (true, "a13e86d30688c5e218bd8e2eb12cead79bc0a07ab3779b7d99fb3424d57f6b28"), looks := true }, kinds := [], alts := [], laidByText := true, laidKinds := [.data, .data, .data, .data, .sentinel, .sentinel, .pinned], laidTests := true, laidLooks := .later }
def NearestNarrowUptoCardSaid : Prop := Claim7.holds Tryz.pinned (.plain (OpenSpec.upto nearestNarrowSpec)) nearestNarrowUptoCard

/-- THE SECOND FORM's CARD OF 'quipulaw04.NearestTurns'. -/
def nearestTurnsUptoCard : Claim7 := { stood := { row := nearestTurnsUptoRow, standIns := [], harness := (true, "a13e86d30688c5e218bd8e2eb12cead79bc0a07ab3779b7d99fb3424d57f6b28"), looks := true }, kinds := [], alts := [], laidByText := true, laidKinds := [.data, .data, .data, .data, .sentinel, .sentinel, .pinned], laidTests := true, laidLooks := .later }
def NearestTurnsUptoCardSaid : Prop := Claim7.holds Tryz.pinned (.plain (OpenSpec.upto nearestTurnsSpec)) nearestTurnsUptoCard

/-- THE SECOND FORM's CARD OF 'quipulaw04.NearestRises'. -/
def nearestRisesUptoCard : Claim7 := { stood := { row := nearestRisesUptoRow, standIns := [], harness := (true, "a13e86d30688c5e218bd8e2eb12cead79bc0a07ab3779b7d99fb3424d57f6b28"), looks := true }, kinds := [], alts := [], laidByText := true, laidKinds := [.data, .data, .data, .data, .sentinel, .sentinel, .pinned], laidTests := true, laidLooks := .later }
def NearestRisesUptoCardSaid : Prop := Claim7.holds Tryz.pinned (.plain (OpenSpec.upto nearestRisesSpec)) nearestRisesUptoCard

/-- THE SECOND FORM's CARD OF 'quipulaw04.NearestBetween'. -/
def nearestBetweenUptoCard : Claim7 := { stood := { row := nearestBetweenUptoRow, standIns := [], harness := (true, "a13e86d30688c5e218bd8e2eb12cead79bc0a07ab3779b7d99fb3424d57f6b28"), looks := true }, kinds := [], alts := [], laidByText := true, laidKinds := [.data, .data, .data, .data, .sentinel, .sentinel, .pinned], laidTests := true, laidLooks := .later }
def NearestBetweenUptoCardSaid : Prop := Claim7.holds Tryz.pinned (.plain (OpenSpec.upto nearestBetweenSpec)) nearestBetweenUptoCard

/-- THE SECOND FORM's CARD OF 'quipulaw04.NearestFewest'. -/
def nearestFewestUptoCard : Claim7 := { stood := { row := nearestFewestUptoRow, standIns := [], harness := (true, "a13e86d30688c5e218bd8e2eb12cead79bc0a07ab3779b7d99fb3424d57f6b28"), looks := true }, kinds := [], alts := [], laidByText := true, laidKinds := [.data, .data, .data, .data, .sentinel, .sentinel, .pinned], laidTests := true, laidLooks := .later }
def NearestFewestUptoCardSaid : Prop := Claim7.holds Tryz.pinned (.plain (OpenSpec.upto nearestFewestSpec)) nearestFewestUptoCard

/-- THE SECOND FORM's CARD OF 'quipulaw04.NearestBack'. -/
def nearestBackUptoCard : Claim7 := { stood := { row := nearestBackUptoRow, standIns := [], harness := (true, "a13e86d30688c5e218bd8e2eb12cead79bc0a07ab3779b7d99fb3424d57f6b28"), looks := true }, kinds := [], alts := [], laidByText := true, laidKinds := [.data, .data, .data, .data, .sentinel, .sentinel, .pinned], laidTests := true, laidLooks := .later }
def NearestBackUptoCardSaid : Prop := Claim7.holds Tryz.pinned (.plain (OpenSpec.upto nearestBackSpec)) nearestBackUptoCard

/-- THE SECOND FORM's CARD OF 'quipulaw06.RoundNear'. -/
def roundNearUptoCard : Claim7 := { stood := { row := roundNearUptoRow, standIns := [], harness := (true, "a13e86d30688c5e218bd8e2eb12cead79bc0a07ab3779b7d99fb3424d57f6b28"), looks := true }, kinds := [], alts := [], laidByText := true, laidKinds := [.data, .data, .data, .data, .sentinel, .sentinel, .pinned], laidTests := true, laidLooks := .later }
def RoundNearUptoCardSaid : Prop := Claim7.holds Tryz.pinned (.plain (OpenSpec.upto roundNearSpec)) roundNearUptoCard
end Rows
end Go.Proofs.YtfddokfnplehkaaGreatDoor
