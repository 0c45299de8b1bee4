/-
  No cell of these rows narrows 'for every input' (looked for: loops, veiled, ifaces, maps, wideKeys, modest, calm, conditions, laid).
  DERIVED. THE GIVEN ROWS OF THIS SEAT. 4 by the template 'for every input the law returns true; each argument reads behind the call as it read before'; 0 by the template 'total and deterministic' (their statements: YtcmijedhjebpkaaTotals.lean).
  GIVEN WITH THE SEED: the statements are not yours to turn. If you find one false, say at which input.
  Laid BY PROGRAM, IN A SANDBOX (cutbox-rows.mjs): the forced cells as the released guide's own fill.sh prints them over the translation 9adaa4f526dccf16… (all of the seat's roots in one cut). By AI agents, Wed Nov 11 2026. No macro, syntax, notation, axiom, sorry.
-/
import Derived.Test.YtcmijedhjebpkaaChecked
import GoSem.Claim
import GoSem.ClaimJoined
import GoSem.ClaimMapViews
import Derived.JoinedTies
import Derived.KernelRfl
namespace Go.Proofs.Ytcmijedhjebpkaa
/- THE CELL 'sum', in the pinned program and in every row, IS THE sha256 OF THE DUMP (.gsa) THAT YtcmijedhjebpkaaProg.lean LOADS. Nothing in Lean hashes anything: it is a label: what it is worth is what the hold of that sum in a sandbox is worth. -/
noncomputable def Try.pinned : Pinned := { name := "ytcmijedhjebpkaa", sum := "9adaa4f526dccf16b3a7021ac1d403e9af066c4d61c772406c38f384e2c17fe6", checked := Try.checked }
namespace Rows
def none {H : Type} : Left H := { results := [], args := [] }

/-- 'apportionlaw02.MoneySplits': WHATEVER THE INPUT: true; the input reads as it did. -/
def moneySplitsSpec : ChangeSpec := { name := "moneySplits", fn := fun _ => fun
  | [d1, d2] => { results := [.lit (.bool true)], args := [d1, d2] }
  | _ => none }
def moneySplitsRow : OpenClaim := { program := "ytcmijedhjebpkaa", sum := "9adaa4f526dccf16b3a7021ac1d403e9af066c4d61c772406c38f384e2c17fe6", func := "apportion/apportionlaw02.MoneySplits", spec := "moneySplits", inPlace := ["internal/reflectlite.ValueOf", "internal/reflectlite.Swapper", "(internal/reflectlite.Value).Len"], unfollowed := true, recurses := true, named := ["math/bits.divideError", "math/bits.overflowError"], apart := false }
def MoneySplitsSaid : Prop := moneySplitsRow.holds Try.pinned (OpenSpec.ofChange moneySplitsSpec)

/-- ITS FALSE NEIGHBOUR: 'it returns false'. Refute it at one input. -/
def moneySplitsWrong : ChangeSpec := { name := "moneySplits", fn := fun _ => fun
  | [d1, d2] => { results := [.lit (.bool false)], args := [d1, d2] }
  | _ => none }
def MoneySplitsWrongFalsely : Prop := moneySplitsRow.holds Try.pinned (OpenSpec.ofChange moneySplitsWrong)

/-- 'apportionlaw02.MoneyAll': WHATEVER THE INPUT: true; the input reads as it did. -/
def moneyAllSpec : ChangeSpec := { name := "moneyAll", fn := fun _ => fun
  | [d1, d2] => { results := [.lit (.bool true)], args := [d1, d2] }
  | _ => none }
def moneyAllRow : OpenClaim := { program := "ytcmijedhjebpkaa", sum := "9adaa4f526dccf16b3a7021ac1d403e9af066c4d61c772406c38f384e2c17fe6", func := "apportion/apportionlaw02.MoneyAll", spec := "moneyAll", inPlace := ["internal/reflectlite.ValueOf", "internal/reflectlite.Swapper", "(internal/reflectlite.Value).Len"], unfollowed := true, recurses := true, named := ["math/bits.divideError", "math/bits.overflowError"], apart := false }
def MoneyAllSaid : Prop := moneyAllRow.holds Try.pinned (OpenSpec.ofChange moneyAllSpec)

/-- ITS FALSE NEIGHBOUR: 'it returns false'. Refute it at one input. -/
def moneyAllWrong : ChangeSpec := { name := "moneyAll", fn := fun _ => fun
  | [d1, d2] => { results := [.lit (.bool false)], args := [d1, d2] }
  | _ => none }
def MoneyAllWrongFalsely : Prop := moneyAllRow.holds Try.pinned (OpenSpec.ofChange moneyAllWrong)

/-- 'apportionlaw02.MoneyTaxes': WHATEVER THE INPUT: true; the input reads as it did. -/
def moneyTaxesSpec : ChangeSpec := { name := "moneyTaxes", fn := fun _ => fun
  | [d1, d2, d3, d4] => { results := [.lit (.bool true)], args := [d1, d2, d3, d4] }
  | _ => none }
def moneyTaxesRow : OpenClaim := { program := "ytcmijedhjebpkaa", sum := "9adaa4f526dccf16b3a7021ac1d403e9af066c4d61c772406c38f384e2c17fe6", func := "apportion/apportionlaw02.MoneyTaxes", spec := "moneyTaxes", inPlace := ["internal/reflectlite.ValueOf", "internal/reflectlite.Swapper", "(internal/reflectlite.Value).Len"], unfollowed := true, recurses := true, named := ["math/bits.divideError", "math/bits.overflowError"], apart := false }
def MoneyTaxesSaid : Prop := moneyTaxesRow.holds Try.pinned (OpenSpec.ofChange moneyTaxesSpec)

/-- ITS FALSE NEIGHBOUR: 'it returns false'. Refute it at one input. -/
def moneyTaxesWrong : ChangeSpec := { name := "moneyTaxes", fn := fun _ => fun
  | [d1, d2, d3, d4] => { results := [.lit (.bool false)], args := [d1, d2, d3, d4] }
  | _ => none }
def MoneyTaxesWrongFalsely : Prop := moneyTaxesRow.holds Try.pinned (OpenSpec.ofChange moneyTaxesWrong)

/-- 'apportionlaw02.MoneyCumulates': WHATEVER THE INPUT: true; the input reads as it did. -/
def moneyCumulatesSpec : ChangeSpec := { name := "moneyCumulates", fn := fun _ => fun
  | [d1, d2] => { results := [.lit (.bool true)], args := [d1, d2] }
  | _ => none }
def moneyCumulatesRow : OpenClaim := { program := "ytcmijedhjebpkaa", sum := "9adaa4f526dccf16b3a7021ac1d403e9af066c4d61c772406c38f384e2c17fe6", func := "apportion/apportionlaw02.MoneyCumulates", spec := "moneyCumulates", inPlace := ["internal/reflectlite.ValueOf", "internal/reflectlite.Swapper", "(internal/reflectlite.Value).Len"], unfollowed := true, recurses := true, named := ["math/bits.divideError", "math/bits.overflowError"], apart := false }
def MoneyCumulatesSaid : Prop := moneyCumulatesRow.holds Try.pinned (OpenSpec.ofChange moneyCumulatesSpec)

/-- ITS FALSE NEIGHBOUR: 'it returns false'. Refute it at one input. -/
def moneyCumulatesWrong : ChangeSpec := { name := "moneyCumulates", fn := fun _ => fun
  | [d1, d2] => { results := [.lit (.bool false)], args := [d1, d2] }
  | _ => none }
def MoneyCumulatesWrongFalsely : Prop := moneyCumulatesRow.holds Try.pinned (OpenSpec.ofChange moneyCumulatesWrong)

/- THE SECOND FORM. 'bulk': how many values and letters a reading holds, each counted each time it is reached (what is shared counts as often as it is met; a slice's spare places count too). A statement '..UptoSaid' is the law's where the arguments, and the package variables that the reading takes, are together of bulk at most 1048576: NARROWER than '..Said'. Prove '..Said' where nothing that the law and all that it calls make is longer than what came in: it says more and counts as full. Else prove '..UptoSaid'. A law counts once. -/
mutual
def uptoBulk {H : Type} : DataW H → Nat
  | .lit (.string bytes) => bytes.length + 1
  | .lit _ => 1
  | .nil => 1
  | .ptr d => uptoBulk d + 1
  | .slice elems spare => uptoBulkAll elems + uptoBulkAll spare + 1
  | .agg parts => uptoBulkAll parts + 1
  | .iface _ d => uptoBulk d + 1
  | .map entries => uptoBulkEntries entries + 1
  | .held _ => 1
def uptoBulkAll {H : Type} : List (DataW H) → Nat
  | [] => 0
  | d :: r => uptoBulk d + uptoBulkAll r
def uptoBulkEntries {H : Type} : List (Lit × DataW H) → Nat
  | [] => 0
  | x :: r => uptoBulkEntry x + uptoBulkEntries r
def uptoBulkEntry {H : Type} : Lit × DataW H → Nat
  | (.string bytes, d) => bytes.length + uptoBulk d + 1
  | (_, d) => uptoBulk d + 1
 end
def uptoSmall : (H : Type) → List (DataW H) → Bool := fun _ ds => decide (uptoBulkAll ds ≤ 1048576)
def OpenSpec.upto (s : _root_.Go.ChangeSpec) : _root_.Go.OpenSpec := { _root_.Go.OpenSpec.ofChange s with cond := some uptoSmall }

/-- 'apportionlaw02.MoneySplits', WHERE WHAT IT READS IS OF BULK AT MOST 1048576: true; the input reads as it did. -/
def moneySplitsUptoRow : OpenClaim := { program := "ytcmijedhjebpkaa", sum := "9adaa4f526dccf16b3a7021ac1d403e9af066c4d61c772406c38f384e2c17fe6", func := "apportion/apportionlaw02.MoneySplits", spec := "moneySplits", inPlace := ["internal/reflectlite.ValueOf", "internal/reflectlite.Swapper", "(internal/reflectlite.Value).Len"], unfollowed := true, recurses := true, named := ["math/bits.divideError", "math/bits.overflowError"], apart := false, narrowed := true }
def MoneySplitsUptoSaid : Prop := moneySplitsUptoRow.holds Try.pinned (OpenSpec.upto moneySplitsSpec)

/-- 'apportionlaw02.MoneyAll', WHERE WHAT IT READS IS OF BULK AT MOST 1048576: true; the input reads as it did. -/
def moneyAllUptoRow : OpenClaim := { program := "ytcmijedhjebpkaa", sum := "9adaa4f526dccf16b3a7021ac1d403e9af066c4d61c772406c38f384e2c17fe6", func := "apportion/apportionlaw02.MoneyAll", spec := "moneyAll", inPlace := ["internal/reflectlite.ValueOf", "internal/reflectlite.Swapper", "(internal/reflectlite.Value).Len"], unfollowed := true, recurses := true, named := ["math/bits.divideError", "math/bits.overflowError"], apart := false, narrowed := true }
def MoneyAllUptoSaid : Prop := moneyAllUptoRow.holds Try.pinned (OpenSpec.upto moneyAllSpec)

/-- 'apportionlaw02.MoneyTaxes', WHERE WHAT IT READS IS OF BULK AT MOST 1048576: true; the input reads as it did. -/
def moneyTaxesUptoRow : OpenClaim := { program := "ytcmijedhjebpkaa", sum := "9adaa4f526dccf16b3a7021ac1d403e9af066c4d61c772406c38f384e2c17fe6", func := "apportion/apportionlaw02.MoneyTaxes", spec := "moneyTaxes", inPlace := ["internal/reflectlite.ValueOf", "internal/reflectlite.Swapper", "(internal/reflectlite.Value).Len"], unfollowed := true, recurses := true, named := ["math/bits.divideError", "math/bits.overflowError"], apart := false, narrowed := true }
def MoneyTaxesUptoSaid : Prop := moneyTaxesUptoRow.holds Try.pinned (OpenSpec.upto moneyTaxesSpec)

/-- 'apportionlaw02.MoneyCumulates', WHERE WHAT IT READS IS OF BULK AT MOST 1048576: true; the input reads as it did. -/
def moneyCumulatesUptoRow : OpenClaim := { program := "ytcmijedhjebpkaa", sum := "9adaa4f526dccf16b3a7021ac1d403e9af066c4d61c772406c38f384e2c17fe6", func := "apportion/apportionlaw02.MoneyCumulates", spec := "moneyCumulates", inPlace := ["internal/reflectlite.ValueOf", "internal/reflectlite.Swapper", "(internal/reflectlite.Value).Len"], unfollowed := true, recurses := true, named := ["math/bits.divideError", "math/bits.overflowError"], apart := false, narrowed := true }
def MoneyCumulatesUptoSaid : Prop := moneyCumulatesUptoRow.holds Try.pinned (OpenSpec.upto moneyCumulatesSpec)

end Rows
end Go.Proofs.Ytcmijedhjebpkaa
