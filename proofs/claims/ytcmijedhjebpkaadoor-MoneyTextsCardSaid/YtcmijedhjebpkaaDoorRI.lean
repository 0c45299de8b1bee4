/- Contracts: a number as an int. -/
import Derived.Test.YtcmijedhjebpkaaDoorN8
import Derived.Test.YtcmijedhjebpkaaDoorWS
import Derived.Laws.Rows
namespace Go.Proofs.YtcmijedhjebpkaaDoor
open Go.RowKit Go.Proofs.Num Go.Proofs.Geo

/-- Is a number an int? -/
def fit (V : Int) : Bool := decide (-9223372036854775808 ≤ V) && decide (V ≤ 9223372036854775807)
theorem sumI_fit (V : Int) : sumI V = if fit V then (V, 0) else (0, 5) := by
  unfold sumI fit
  by_cases h : -9223372036854775808 ≤ V ∧ V ≤ 9223372036854775807
  · rw [if_pos h, decide_eq_true h.1, decide_eq_true h.2]; rfl
  · rw [if_neg h, if_neg]
    simpa using h
theorem big_of_dg {X : Int} {j : Nat} (h0 : 0 ≤ X) (hj : 4 ≤ j) (h : dg X j ≠ 0) : 18446744073709551616 ≤ X := by
  rcases Int.lt_or_le X 18446744073709551616 with k | k
  · exact absurd (dg_high h0 k j hj) h
  · exact k
theorem small_of_dg {X : Int} (h0 : 0 ≤ X) (ht : X < top12) (h : ∀ j, 4 ≤ j → j < 12 → dg X j = 0) : X < 18446744073709551616 := by
  have e := fun j => sh_split X j
  have e4 := e 4; have e5 := e 5; have e6 := e 6; have e7 := e 7; have e8 := e 8; have e9 := e 9; have e10 := e 10; have e11 := e 11
  rw [h 4 (by omega) (by omega)] at e4
  rw [h 5 (by omega) (by omega)] at e5
  rw [h 6 (by omega) (by omega)] at e6
  rw [h 7 (by omega) (by omega)] at e7
  rw [h 8 (by omega) (by omega)] at e8
  rw [h 9 (by omega) (by omega)] at e9
  rw [h 10 (by omega) (by omega)] at e10
  rw [h 11 (by omega) (by omega)] at e11
  have z := sh12_zero h0 ht
  simp only [Nat.reduceAdd] at e4 e5 e6 e7 e8 e9 e10 e11
  have z4 : sh X 4 = 0 := by omega
  have z4' : X / 65536 / 65536 / 65536 / 65536 = 0 := z4
  omega
theorem four_dg {X : Int} (h0 : 0 ≤ X) (h : X < 18446744073709551616) : dg X 0 + dg X 1 * 65536 + dg X 2 * 4294967296 + dg X 3 * 281474976710656 = X := by
  have e0 : dg X 0 = X % 65536 := rfl
  have e1 : dg X 1 = X / 65536 % 65536 := rfl
  have e2 : dg X 2 = X / 65536 / 65536 % 65536 := rfl
  have e3 : dg X 3 = X / 65536 / 65536 / 65536 % 65536 := rfl
  rw [e0, e1, e2, e3]; omega

theorem retIB {x u : Int} {y v : Bool} (h1 : x = u) (h2 : y = v) : Ending.returned (.tuple #[.int .i64 x, .bool y]) = .returned (.tuple #[.int .i64 u, .bool v]) := by rw [h1, h2]
end Go.Proofs.YtcmijedhjebpkaaDoor
