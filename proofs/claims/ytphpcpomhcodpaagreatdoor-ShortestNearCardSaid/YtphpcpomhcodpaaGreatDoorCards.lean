/-
  DERIVED. GIVEN WITH THE SEED: THE CARDS: each row of YtphpcpomhcodpaaGreatDoorRows.lean that lists a variable, with what it lists TIED to the program's text (the seventh form; the later family's looks); each row that meets fmt, with fmt's text TOLD by the authors' own Lean function (tested against real Go, not proved from fmt's source: count such statements apart). THE CARD IS WHAT COUNTS. Prove the row's statement (the work); the ties are given (YtphpcpomhcodpaaGreatDoorTie.lean); close each card by the builder's one call (the guide's Derived/Test/ToyasCard.lean, 'card_holds'). Laid BY PROGRAM, IN A SANDBOX (cutbox-door.mjs). By AI agents, Wed Nov 11 2026. No macro, syntax, notation, axiom, sorry.
-/
import Derived.Test.YtphpcpomhcodpaaGreatDoorRows
import GoSem.ClaimSeven
namespace Go.Proofs.YtphpcpomhcodpaaGreatDoor
namespace Rows

/-- THE TIED CARD OF 'quipulaw03.ShortestWide'. -/
def shortestWideCard : Claim7 := { stood := { row := shortestWideRow, standIns := [], harness := (true, "f39b401327da9240001a95c475d471502c5a03b241af93ec71f00f60e4d3dc12"), looks := false }, kinds := [], alts := [], laidByText := true, laidKinds := [.data, .data, .data, .data, .pinned], laidTests := true, laidLooks := .later }
def ShortestWideCardSaid : Prop := Claim7.holds Tryz.pinned (.plain (OpenSpec.ofChange shortestWideSpec)) shortestWideCard

/-- THE TIED CARD OF 'quipulaw03.ShortestNarrow'. -/
def shortestNarrowCard : Claim7 := { stood := { row := shortestNarrowRow, standIns := [], harness := (true, "f39b401327da9240001a95c475d471502c5a03b241af93ec71f00f60e4d3dc12"), looks := false }, kinds := [], alts := [], laidByText := true, laidKinds := [.data, .data, .data, .data, .pinned], laidTests := true, laidLooks := .later }
def ShortestNarrowCardSaid : Prop := Claim7.holds Tryz.pinned (.plain (OpenSpec.ofChange shortestNarrowSpec)) shortestNarrowCard

/-- THE TIED CARD OF 'quipulaw03.ShortestExact'. -/
def shortestExactCard : Claim7 := { stood := { row := shortestExactRow, standIns := [], harness := (true, "f39b401327da9240001a95c475d471502c5a03b241af93ec71f00f60e4d3dc12"), looks := false }, kinds := [], alts := [], laidByText := true, laidKinds := [.data, .data, .data, .data, .pinned], laidTests := true, laidLooks := .later }
def ShortestExactCardSaid : Prop := Claim7.holds Tryz.pinned (.plain (OpenSpec.ofChange shortestExactSpec)) shortestExactCard

/-- THE TIED CARD OF 'quipulaw03.ShortestStands'. -/
def shortestStandsCard : Claim7 := { stood := { row := shortestStandsRow, standIns := [], harness := (true, "f39b401327da9240001a95c475d471502c5a03b241af93ec71f00f60e4d3dc12"), looks := false }, kinds := [], alts := [], laidByText := true, laidKinds := [.data, .data, .data, .data, .pinned], laidTests := true, laidLooks := .later }
def ShortestStandsCardSaid : Prop := Claim7.holds Tryz.pinned (.plain (OpenSpec.ofChange shortestStandsSpec)) shortestStandsCard

/-- THE TIED CARD OF 'quipulaw03.ShortestNear'. -/
def shortestNearCard : Claim7 := { stood := { row := shortestNearRow, standIns := [], harness := (true, "f39b401327da9240001a95c475d471502c5a03b241af93ec71f00f60e4d3dc12"), looks := false }, kinds := [], alts := [], laidByText := true, laidKinds := [.data, .data, .data, .data, .pinned], laidTests := true, laidLooks := .later }
def ShortestNearCardSaid : Prop := Claim7.holds Tryz.pinned (.plain (OpenSpec.ofChange shortestNearSpec)) shortestNearCard

/-- THE SECOND FORM's CARD OF 'quipulaw03.ShortestWide'. -/
def shortestWideUptoCard : Claim7 := { stood := { row := shortestWideUptoRow, standIns := [], harness := (true, "f39b401327da9240001a95c475d471502c5a03b241af93ec71f00f60e4d3dc12"), looks := false }, kinds := [], alts := [], laidByText := true, laidKinds := [.data, .data, .data, .data, .pinned], laidTests := true, laidLooks := .later }
def ShortestWideUptoCardSaid : Prop := Claim7.holds Tryz.pinned (.plain (OpenSpec.upto shortestWideSpec)) shortestWideUptoCard

/-- THE SECOND FORM's CARD OF 'quipulaw03.ShortestNarrow'. -/
def shortestNarrowUptoCard : Claim7 := { stood := { row := shortestNarrowUptoRow, standIns := [], harness := (true, "f39b401327da9240001a95c475d471502c5a03b241af93ec71f00f60e4d3dc12"), looks := false }, kinds := [], alts := [], laidByText := true, laidKinds := [.data, .data, .data, .data, .pinned], laidTests := true, laidLooks := .later }
def ShortestNarrowUptoCardSaid : Prop := Claim7.holds Tryz.pinned (.plain (OpenSpec.upto shortestNarrowSpec)) shortestNarrowUptoCard

/-- THE SECOND FORM's CARD OF 'quipulaw03.ShortestExact'. -/
def shortestExactUptoCard : Claim7 := { stood := { row := shortestExactUptoRow, standIns := [], harness := (true, "f39b401327da9240001a95c475d471502c5a03b241af93ec71f00f60e4d3dc12"), looks := false }, kinds := [], alts := [], laidByText := true, laidKinds := [.data, .data, .data, .data, .pinned], laidTests := true, laidLooks := .later }
def ShortestExactUptoCardSaid : Prop := Claim7.holds Tryz.pinned (.plain (OpenSpec.upto shortestExactSpec)) shortestExactUptoCard

/-- THE SECOND FORM's CARD OF 'quipulaw03.ShortestStands'. -/
def shortestStandsUptoCard : Claim7 := { stood := { row := shortestStandsUptoRow, standIns := [], harness := (true, "f39b401327da9240001a95c475d471502c5a03b241af93ec71f00f60e4d3dc12"), looks := false }, kinds := [], alts := [], laidByText := true, laidKinds := [.data, .data, .data, .data, .pinned], laidTests := true, laidLooks := .later }
def ShortestStandsUptoCardSaid : Prop := Claim7.holds Tryz.pinned (.plain (OpenSpec.upto shortestStandsSpec)) shortestStandsUptoCard

/-- THE SECOND FORM's CARD OF 'quipulaw03.ShortestNear'. -/
def shortestNearUptoCard : Claim7 := { stood := { row := shortestNearUptoRow, standIns := [], harness := (true, "f39b401327da9240001a95c475d471502c5a03b241af93ec71f00f60e4d3dc12"), looks := false }, kinds := [], alts := [], laidByText := true, laidKinds := [.data, .data, .data, .data, .pinned], laidTests := true, laidLooks := .later }
def ShortestNearUptoCardSaid : Prop := Claim7.holds Tryz.pinned (.plain (OpenSpec.upto shortestNearSpec)) shortestNearUptoCard
end Rows
end Go.Proofs.YtphpcpomhcodpaaGreatDoor
