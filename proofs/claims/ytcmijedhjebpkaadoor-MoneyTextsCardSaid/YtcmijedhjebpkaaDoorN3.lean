/- Contracts of numbers in digits: Less, Sgn, size. -/
import Derived.Test.YtcmijedhjebpkaaDoorN2
namespace Go.Proofs.YtcmijedhjebpkaaDoor
open Go.RowKit Go.Proofs.Num

/-- The number V as a Num. -/
def numI (V : Int) : Array Value := numC (decide (V < 0)) (d12 V.natAbs)
/-- Small enough. -/
def Sm (V : Int) : Prop := (V.natAbs : Int) < top12
theorem allZ_d12 {X : Int} (h0 : 0 ≤ X) (h : X < top12) : allZ (d12 X) = decide (X = 0) := by
  rw [Bool.eq_iff_iff, decide_eq_true_iff, allZ, List.all_eq_true]
  constructor
  · intro k
    refine zero_of_dg h0 h fun j hj => ?_
    have := k (dg X j) (List.mem_map.2 ⟨j, List.mem_range.2 hj, rfl⟩)
    simpa using this
  · rintro rfl x hx
    obtain ⟨j, _, rfl⟩ := List.mem_map.1 hx
    simp [dg_zero]
theorem numC_numI {neg : Bool} {X : Int} (h0 : 0 ≤ X) (h : X < top12) : numC (neg && !allZ (d12 X)) (d12 X) = numI (if neg then -X else X) := by
  rw [allZ_d12 h0 h]
  unfold numI
  cases neg
  · simp only [Bool.false_and, Bool.false_eq_true, if_false]
    congr 1
    · simp; omega
    · congr 1; omega
  · simp only [Bool.true_and, if_true]
    congr 1
    · rw [Bool.eq_iff_iff]; simp; omega
    · congr 1; omega
theorem allZ_num {V : Int} (h : Sm V) : allZ (d12 V.natAbs) = decide (V = 0) := by
  rw [allZ_d12 (by omega) h, Bool.eq_iff_iff, decide_eq_true_iff, decide_eq_true_iff]; omega
theorem d12_bd {X : Int} : ∀ d ∈ d12 X, 0 ≤ d ∧ d ≤ 2199023255552 := by
  intro d hd
  obtain ⟨j, _, rfl⟩ := List.mem_map.1 hd
  have := dg_bd X j
  omega
theorem ret_agg {a b : Array Value} (h : a = b) : Ending.returned (.agg a) = .returned (.agg b) := by rw [h]
theorem numI_len (V : Int) : (d12 (V.natAbs : Int)).length = 12 := d12_length _

end Go.Proofs.YtcmijedhjebpkaaDoor
