/-
  DERIVED. GIVEN WITH THE SEED: THE CARDS: each row of YtcmijedhjebpkaaDoorRows.lean that lists a variable, with what it lists TIED to the program's text (the seventh form; the later family's looks); each row that meets fmt, with fmt's text TOLD by the authors' own Lean function (tested against real Go, not proved from fmt's source: count such statements apart). THE CARD IS WHAT COUNTS. Prove the row's statement (the work); the ties are given (YtcmijedhjebpkaaDoorTie.lean); close each card by the builder's one call (the guide's Derived/Test/ToyasCard.lean, 'card_holds'). Laid BY PROGRAM, IN A SANDBOX (cutbox-door.mjs). By AI agents, Wed Nov 11 2026. No macro, syntax, notation, axiom, sorry.
-/
import Derived.Test.YtcmijedhjebpkaaDoorRows
import GoSem.ClaimSeven
namespace Go.Proofs.YtcmijedhjebpkaaDoor
namespace Rows

/-- THE TIED CARD OF 'apportionlaw02.MoneyBack'. -/
def moneyBackCard : Claim7 := { stood := { row := moneyBackRow, standIns := [], harness := (true, "6c9cc00199fec1f3e3722b0989a410e7916c0c5104b0c62b7648d183ddc6c649"), looks := false }, kinds := [], alts := [], laidByText := true, laidKinds := [.data, .data, .data], laidTests := true, laidLooks := .later }
def MoneyBackCardSaid : Prop := Claim7.holds Tryd.pinned (.plain (OpenSpec.ofChange moneyBackSpec)) moneyBackCard

/-- THE TIED CARD OF 'apportionlaw02.MoneyKnown'. -/
def moneyKnownCard : Claim7 := { stood := { row := moneyKnownRow, standIns := [], harness := (true, "6c9cc00199fec1f3e3722b0989a410e7916c0c5104b0c62b7648d183ddc6c649"), looks := false }, kinds := [], alts := [], laidByText := true, laidKinds := [.data, .data, .data], laidTests := true, laidLooks := .later }
def MoneyKnownCardSaid : Prop := Claim7.holds Tryd.pinned (.plain (OpenSpec.ofChange moneyKnownSpec)) moneyKnownCard

/-- THE TIED CARD OF 'apportionlaw02.MoneyBounds'. -/
def moneyBoundsCard : Claim7 := { stood := { row := moneyBoundsRow, standIns := [], harness := (true, "6c9cc00199fec1f3e3722b0989a410e7916c0c5104b0c62b7648d183ddc6c649"), looks := false }, kinds := [], alts := [], laidByText := true, laidKinds := [.data, .data, .data], laidTests := true, laidLooks := .later }
def MoneyBoundsCardSaid : Prop := Claim7.holds Tryd.pinned (.plain (OpenSpec.ofChange moneyBoundsSpec)) moneyBoundsCard

/-- THE TIED CARD OF 'apportionlaw02.MoneyTexts'. -/
def moneyTextsCard : Claim7 := { stood := { row := moneyTextsRow, standIns := [], harness := (true, "6c9cc00199fec1f3e3722b0989a410e7916c0c5104b0c62b7648d183ddc6c649"), looks := false }, kinds := [], alts := [], laidByText := true, laidKinds := [.data, .data, .data], laidTests := true, laidLooks := .later }
def MoneyTextsCardSaid : Prop := Claim7.holds Tryd.pinned (.plain (OpenSpec.ofChange moneyTextsSpec)) moneyTextsCard

/-- THE SECOND FORM's CARD OF 'apportionlaw02.MoneyBack'. -/
def moneyBackUptoCard : Claim7 := { stood := { row := moneyBackUptoRow, standIns := [], harness := (true, "6c9cc00199fec1f3e3722b0989a410e7916c0c5104b0c62b7648d183ddc6c649"), looks := false }, kinds := [], alts := [], laidByText := true, laidKinds := [.data, .data, .data], laidTests := true, laidLooks := .later }
def MoneyBackUptoCardSaid : Prop := Claim7.holds Tryd.pinned (.plain (OpenSpec.upto moneyBackSpec)) moneyBackUptoCard

/-- THE SECOND FORM's CARD OF 'apportionlaw02.MoneyKnown'. -/
def moneyKnownUptoCard : Claim7 := { stood := { row := moneyKnownUptoRow, standIns := [], harness := (true, "6c9cc00199fec1f3e3722b0989a410e7916c0c5104b0c62b7648d183ddc6c649"), looks := false }, kinds := [], alts := [], laidByText := true, laidKinds := [.data, .data, .data], laidTests := true, laidLooks := .later }
def MoneyKnownUptoCardSaid : Prop := Claim7.holds Tryd.pinned (.plain (OpenSpec.upto moneyKnownSpec)) moneyKnownUptoCard

/-- THE SECOND FORM's CARD OF 'apportionlaw02.MoneyBounds'. -/
def moneyBoundsUptoCard : Claim7 := { stood := { row := moneyBoundsUptoRow, standIns := [], harness := (true, "6c9cc00199fec1f3e3722b0989a410e7916c0c5104b0c62b7648d183ddc6c649"), looks := false }, kinds := [], alts := [], laidByText := true, laidKinds := [.data, .data, .data], laidTests := true, laidLooks := .later }
def MoneyBoundsUptoCardSaid : Prop := Claim7.holds Tryd.pinned (.plain (OpenSpec.upto moneyBoundsSpec)) moneyBoundsUptoCard

/-- THE SECOND FORM's CARD OF 'apportionlaw02.MoneyTexts'. -/
def moneyTextsUptoCard : Claim7 := { stood := { row := moneyTextsUptoRow, standIns := [], harness := (true, "6c9cc00199fec1f3e3722b0989a410e7916c0c5104b0c62b7648d183ddc6c649"), looks := false }, kinds := [], alts := [], laidByText := true, laidKinds := [.data, .data, .data], laidTests := true, laidLooks := .later }
def MoneyTextsUptoCardSaid : Prop := Claim7.holds Tryd.pinned (.plain (OpenSpec.upto moneyTextsSpec)) moneyTextsUptoCard
end Rows
end Go.Proofs.YtcmijedhjebpkaaDoor
