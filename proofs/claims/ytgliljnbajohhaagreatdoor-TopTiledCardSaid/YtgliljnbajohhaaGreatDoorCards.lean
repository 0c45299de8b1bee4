/-
  DERIVED. GIVEN WITH THE SEED: THE CARDS: each row of YtgliljnbajohhaaGreatDoorRows.lean that lists a variable, with what it lists TIED to the program's text (the seventh form; the later family's looks); each row that meets fmt, with fmt's text TOLD by the authors' own Lean function (tested against real Go, not proved from fmt's source: count such statements apart). THE CARD IS WHAT COUNTS. Prove the row's statement (the work); the ties are given (YtgliljnbajohhaaGreatDoorTie.lean); close each card by the builder's one call (the guide's Derived/Test/ToyasCard.lean, 'card_holds'). Laid BY PROGRAM, IN A SANDBOX (cutbox-door.mjs). By AI agents, Wed Nov 11 2026. No macro, syntax, notation, axiom, sorry.
-/
import Derived.Test.YtgliljnbajohhaaGreatDoorRows
import GoSem.ClaimSeven
namespace Go.Proofs.YtgliljnbajohhaaGreatDoor
namespace Rows

/-- THE TIED CARD OF 'apportiontop.TopTiled'. -/
def topTiledCard : Claim7 := { stood := { row := topTiledRow, standIns := [], harness := (true, "b06dcec28eef7b925afa27aa9d293887dca01cd46ba931b7a98e0525c39772a4"), looks := true }, kinds := [], alts := [], laidByText := true, laidKinds := [.pinned, .data, .data, .listed], laidTests := true, laidLooks := .later }
def TopTiledCardSaid : Prop := Claim7.holds Tryz.pinned (.plain (OpenSpec.ofChange topTiledSpec)) topTiledCard

/-- THE SECOND FORM's CARD OF 'apportiontop.TopTiled'. -/
def topTiledUptoCard : Claim7 := { stood := { row := topTiledUptoRow, standIns := [], harness := (true, "b06dcec28eef7b925afa27aa9d293887dca01cd46ba931b7a98e0525c39772a4"), looks := true }, kinds := [], alts := [], laidByText := true, laidKinds := [.pinned, .data, .data, .listed], laidTests := true, laidLooks := .later }
def TopTiledUptoCardSaid : Prop := Claim7.holds Tryz.pinned (.plain (OpenSpec.upto topTiledSpec)) topTiledUptoCard
end Rows
end Go.Proofs.YtgliljnbajohhaaGreatDoor
