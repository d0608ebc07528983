/-
  DERIVED. GIVEN WITH THE SEED: THE CARDS: each row of YtoplpoofbefjcaaDoorRows.lean that lists a variable, with what it lists TIED to the program's text (the seventh form; the later family's looks); each row that meets fmt, with fmt's text TOLD by the authors' own Lean function (tested against real Go, not proved from fmt's source: count such statements apart). THE CARD IS WHAT COUNTS. Prove the row's statement (the work); the ties are given (YtoplpoofbefjcaaDoorTie.lean); close each card by the builder's one call (the guide's Derived/Test/ToyasCard.lean, 'card_holds'). Laid BY PROGRAM, IN A SANDBOX (cutbox-door.mjs). By AI agents, Wed Nov 11 2026. No macro, syntax, notation, axiom, sorry.
-/
import Derived.Test.YtoplpoofbefjcaaDoorRows
import GoSem.ClaimSeven
namespace Go.Proofs.YtoplpoofbefjcaaDoor
namespace Rows

/-- THE TIED CARD OF 'quipulaw19.SignAffixes'. -/
def signAffixesCard : Claim7 := { stood := { row := signAffixesRow, standIns := [], harness := (true, "bff6708c96cd0726e8cbb6958f5a5b8b0d7d41bc0ef030d265a7e7e9c7a0b998"), looks := false }, kinds := [], alts := [], laidByText := true, laidKinds := [.data, .pinned], laidTests := true, laidLooks := .later }
def SignAffixesCardSaid : Prop := Claim7.holds Tryd.pinned (.plain (OpenSpec.ofChange signAffixesSpec)) signAffixesCard

/-- THE TIED CARD OF 'quipulaw19.SignPieces'. -/
def signPiecesCard : Claim7 := { stood := { row := signPiecesRow, standIns := [], harness := (true, "bff6708c96cd0726e8cbb6958f5a5b8b0d7d41bc0ef030d265a7e7e9c7a0b998"), looks := false }, kinds := [], alts := [], laidByText := true, laidKinds := [.data, .pinned], laidTests := true, laidLooks := .later }
def SignPiecesCardSaid : Prop := Claim7.holds Tryd.pinned (.plain (OpenSpec.ofChange signPiecesSpec)) signPiecesCard

/-- THE TIED CARD OF 'quipulaw19.SignTurns'. -/
def signTurnsCard : Claim7 := { stood := { row := signTurnsRow, standIns := [], harness := (true, "bff6708c96cd0726e8cbb6958f5a5b8b0d7d41bc0ef030d265a7e7e9c7a0b998"), looks := false }, kinds := [], alts := [], laidByText := true, laidKinds := [.data, .pinned], laidTests := true, laidLooks := .later }
def SignTurnsCardSaid : Prop := Claim7.holds Tryd.pinned (.plain (OpenSpec.ofChange signTurnsSpec)) signTurnsCard

/-- THE TIED CARD OF 'quipulaw19.SignApart'. -/
def signApartCard : Claim7 := { stood := { row := signApartRow, standIns := [], harness := (true, "bff6708c96cd0726e8cbb6958f5a5b8b0d7d41bc0ef030d265a7e7e9c7a0b998"), looks := false }, kinds := [], alts := [], laidByText := true, laidKinds := [.data, .pinned], laidTests := true, laidLooks := .later }
def SignApartCardSaid : Prop := Claim7.holds Tryd.pinned (.plain (OpenSpec.ofChange signApartSpec)) signApartCard

/-- THE SECOND FORM's CARD OF 'quipulaw19.SignAffixes'. -/
def signAffixesUptoCard : Claim7 := { stood := { row := signAffixesUptoRow, standIns := [], harness := (true, "bff6708c96cd0726e8cbb6958f5a5b8b0d7d41bc0ef030d265a7e7e9c7a0b998"), looks := false }, kinds := [], alts := [], laidByText := true, laidKinds := [.data, .pinned], laidTests := true, laidLooks := .later }
def SignAffixesUptoCardSaid : Prop := Claim7.holds Tryd.pinned (.plain (OpenSpec.upto signAffixesSpec)) signAffixesUptoCard

/-- THE SECOND FORM's CARD OF 'quipulaw19.SignPieces'. -/
def signPiecesUptoCard : Claim7 := { stood := { row := signPiecesUptoRow, standIns := [], harness := (true, "bff6708c96cd0726e8cbb6958f5a5b8b0d7d41bc0ef030d265a7e7e9c7a0b998"), looks := false }, kinds := [], alts := [], laidByText := true, laidKinds := [.data, .pinned], laidTests := true, laidLooks := .later }
def SignPiecesUptoCardSaid : Prop := Claim7.holds Tryd.pinned (.plain (OpenSpec.upto signPiecesSpec)) signPiecesUptoCard

/-- THE SECOND FORM's CARD OF 'quipulaw19.SignTurns'. -/
def signTurnsUptoCard : Claim7 := { stood := { row := signTurnsUptoRow, standIns := [], harness := (true, "bff6708c96cd0726e8cbb6958f5a5b8b0d7d41bc0ef030d265a7e7e9c7a0b998"), looks := false }, kinds := [], alts := [], laidByText := true, laidKinds := [.data, .pinned], laidTests := true, laidLooks := .later }
def SignTurnsUptoCardSaid : Prop := Claim7.holds Tryd.pinned (.plain (OpenSpec.upto signTurnsSpec)) signTurnsUptoCard

/-- THE SECOND FORM's CARD OF 'quipulaw19.SignApart'. -/
def signApartUptoCard : Claim7 := { stood := { row := signApartUptoRow, standIns := [], harness := (true, "bff6708c96cd0726e8cbb6958f5a5b8b0d7d41bc0ef030d265a7e7e9c7a0b998"), looks := false }, kinds := [], alts := [], laidByText := true, laidKinds := [.data, .pinned], laidTests := true, laidLooks := .later }
def SignApartUptoCardSaid : Prop := Claim7.holds Tryd.pinned (.plain (OpenSpec.upto signApartSpec)) signApartUptoCard
end Rows
end Go.Proofs.YtoplpoofbefjcaaDoor
