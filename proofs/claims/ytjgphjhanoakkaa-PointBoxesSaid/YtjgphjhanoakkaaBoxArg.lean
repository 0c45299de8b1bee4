/- An argument that is a box, opened. -/
import Derived.Test.YtjgphjhanoakkaaO
import Derived.Lib.SmallJoins
namespace Go.Proofs.Ytjgphjhanoakkaa
open Go.RowKit Go.ChangeShapes Go.WideShapes Go.ChangeAt Go.Joins
set_option linter.unusedVariables false
theorem box_arg {H : Type} {enc : TypeId × Value → H} {w : World} {base : Nat} {spare : Nat → Bool} {held : Bool} {r : Reach} {b0 : Nat} {v : Value} {d : DataW H} {p : List MemPlace}
    (hv : Value.okWide Try.prog w r b0 38 v) (h : DataW.Trod enc Try.prog w base spare held 38 v d p) : ∃ a b c e : Int, v = .agg #[.int .i64 a, .int .i64 b, .int .i64 c, .int .i64 e] := by
  obtain ⟨cs, rfl, hsz⟩ := okWide_struct Try.underlying38 hv
  obtain ⟨c0, c1, c2, c3, rfl⟩ := array4 (hsz.trans (by kernel_rfl))
  obtain ⟨fuel, hf⟩ := h
  obtain ⟨y0, y1, n, hx, _, h0, h1⟩ := trod_struct2 Try.underlying38 hf
  obtain ⟨z0, z1, n0, _, _, g0, g1⟩ := trod_struct2 Try.underlying23 h0
  obtain ⟨u0, u1, n1, _, _, k0, k1⟩ := trod_struct2 Try.underlying23 h1
  obtain ⟨q0, e0, _, _⟩ := DataW.trod_int Try.underlying3 g0
  obtain ⟨q1, e1, _, _⟩ := DataW.trod_int Try.underlying3 g1
  obtain ⟨q2, e2, _, _⟩ := DataW.trod_int Try.underlying3 k0
  obtain ⟨q3, e3, _, _⟩ := DataW.trod_int Try.underlying3 k1
  have C1 : Try.prog.cellsOf 3 = 1 := by kernel_rfl
  have C2 : Try.prog.cellsOf 23 = 2 := by kernel_rfl
  dsimp only at e0 e1 e2 e3
  simp [C1, C2, Value.cells] at e0 e1 e2 e3
  subst e0 e1 e2 e3
  exact ⟨q0, q1, q2, q3, rfl⟩
end Go.Proofs.Ytjgphjhanoakkaa
