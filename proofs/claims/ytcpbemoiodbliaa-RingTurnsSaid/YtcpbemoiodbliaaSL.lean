/- A slice that is an argument: its length is at most its capacity. -/
import Derived.Test.YtcpbemoiodbliaaProg
import Derived.WideShapes
namespace Go.Proofs.Ytcpbemoiodbliaa
open Go.WideShapes
theorem slice_le {P : Program} {W : World} {r : Reach} {base : Nat} {t e : TypeId} {a : Option Addr} {len cap : Nat} (ht : P.underlying t = some (.slice e)) (h : Value.okWide P W r base t (.slice a len cap)) : len ≤ cap := by
  simp only [Value.okWide, ht, Cell.okWide] at h
  cases a with
  | none => cases len <;> cases cap <;> simp_all [Cell.ok]
  | some a => simp_all [Cell.ok]
end Go.Proofs.Ytcpbemoiodbliaa
