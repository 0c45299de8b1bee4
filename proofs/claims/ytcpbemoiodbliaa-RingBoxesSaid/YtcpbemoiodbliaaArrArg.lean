/- An argument that is an array of four ints, opened. -/
import Derived.Test.YtcpbemoiodbliaaMW
import Derived.Lib.SmallJoins
import Derived.Laws.IdiomArrays
namespace Go.Proofs.Ytcpbemoiodbliaa
open Go.RowKit Go.ChangeShapes Go.WideShapes Go.ChangeAt Go.Joins
set_option linter.unusedVariables false
theorem arr4_arg {H : Type} {enc : TypeId × Value → H} {w : World} {base : Nat} {spare : Nat → Bool} {held : Bool} {r : Reach} {b0 : Nat} {v : Value} {d : DataW H} {p : List MemPlace}
    (hv : Value.okWide Try.prog w r b0 34 v) (h : DataW.Trod enc Try.prog w base spare held 34 v d p) : ∃ a b c e : Int, v = .agg #[.int .i64 a, .int .i64 b, .int .i64 c, .int .i64 e] := by
  have hu : Try.prog.underlying 34 = some (.array 4 3) := Try.underlying34
  unfold Value.okWide at hv
  rw [hu] at hv
  obtain ⟨cs, rfl, hsz, _⟩ := hv
  obtain ⟨c0, c1, c2, c3, rfl⟩ := array4 (hsz.trans (by kernel_rfl))
  obtain ⟨fuel, hf⟩ := h
  obtain ⟨y0, y1, y2, y3, n, _, h0, h1, h2, h3⟩ := trod_array4 (t := 34) (c0 := c0) (c1 := c1) (c2 := c2) (c3 := c3) hu (by kernel_rfl) hf
  obtain ⟨q0, e0, _, _⟩ := DataW.trod_int Try.underlying3 h0
  obtain ⟨q1, e1, _, _⟩ := DataW.trod_int Try.underlying3 h1
  obtain ⟨q2, e2, _, _⟩ := DataW.trod_int Try.underlying3 h2
  obtain ⟨q3, e3, _, _⟩ := DataW.trod_int Try.underlying3 h3
  simp at e0 e1 e2 e3
  subst e0 e1 e2 e3
  exact ⟨q0, q1, q2, q3, rfl⟩
end Go.Proofs.Ytcpbemoiodbliaa
