/-
  DERIVED. GIVEN WITH THE SEED: THE CARDS: each row of YtphpcpomhcodpaaDoorRows.lean that lists a variable, with what it lists TIED to the program's text (the seventh form; the later family's looks); each row that meets fmt, with fmt's text TOLD by the authors' own Lean function (tested against real Go, not proved from fmt's source: count such statements apart). THE CARD IS WHAT COUNTS. Prove the row's statement (the work); the ties are given (YtphpcpomhcodpaaDoorTie.lean); close each card by the builder's one call (the guide's Derived/Test/ToyasCard.lean, 'card_holds'). Laid BY PROGRAM, IN A SANDBOX (cutbox-door.mjs). By AI agents, Wed Nov 11 2026. No macro, syntax, notation, axiom, sorry.
-/
import Derived.Test.YtphpcpomhcodpaaDoorRows
import GoSem.ClaimSeven
namespace Go.Proofs.YtphpcpomhcodpaaDoor
namespace Rows

/-- THE TIED CARD OF 'quipulaw03.ShortestForms'. -/
def shortestFormsCard : Claim7 := { stood := { row := shortestFormsRow, standIns := [], harness := (true, "968a777897a3768e7e2bf39181ebb3f3284d42970f6b98035e596255ec6c0bc8"), looks := false }, kinds := [], alts := [], laidByText := true, laidKinds := [.data, .data, .data, .data, .pinned], laidTests := true, laidLooks := .later }
def ShortestFormsCardSaid : Prop := Claim7.holds Tryd.pinned (.plain (OpenSpec.ofChange shortestFormsSpec)) shortestFormsCard

/-- THE TIED CARD OF 'quipulaw03.ShortestWidens'. -/
def shortestWidensCard : Claim7 := { stood := { row := shortestWidensRow, standIns := [], harness := (true, "968a777897a3768e7e2bf39181ebb3f3284d42970f6b98035e596255ec6c0bc8"), looks := false }, kinds := [], alts := [], laidByText := true, laidKinds := [.data, .data, .data, .data, .pinned], laidTests := true, laidLooks := .later }
def ShortestWidensCardSaid : Prop := Claim7.holds Tryd.pinned (.plain (OpenSpec.ofChange shortestWidensSpec)) shortestWidensCard

/-- THE SECOND FORM's CARD OF 'quipulaw03.ShortestForms'. -/
def shortestFormsUptoCard : Claim7 := { stood := { row := shortestFormsUptoRow, standIns := [], harness := (true, "968a777897a3768e7e2bf39181ebb3f3284d42970f6b98035e596255ec6c0bc8"), looks := false }, kinds := [], alts := [], laidByText := true, laidKinds := [.data, .data, .data, .data, .pinned], laidTests := true, laidLooks := .later }
def ShortestFormsUptoCardSaid : Prop := Claim7.holds Tryd.pinned (.plain (OpenSpec.upto shortestFormsSpec)) shortestFormsUptoCard

/-- THE SECOND FORM's CARD OF 'quipulaw03.ShortestWidens'. -/
def shortestWidensUptoCard : Claim7 := { stood := { row := shortestWidensUptoRow, standIns := [], harness := (true, "968a777897a3768e7e2bf39181ebb3f3284d42970f6b98035e596255ec6c0bc8"), looks := false }, kinds := [], alts := [], laidByText := true, laidKinds := [.data, .data, .data, .data, .pinned], laidTests := true, laidLooks := .later }
def ShortestWidensUptoCardSaid : Prop := Claim7.holds Tryd.pinned (.plain (OpenSpec.upto shortestWidensSpec)) shortestWidensUptoCard
end Rows
end Go.Proofs.YtphpcpomhcodpaaDoor
