/- Plain: how an amount is split by weights. -/
import Derived.Test.YtcmijedhjebpkaaMP1
namespace Go.Proofs.Mon
def badW (x : Int) : Bool := decide (x < 0) || decide (1099511627775 < x)
def weighR (l : List Int) : Int × Bool := if l.any badW then (0, false) else (l.sum, decide (0 < l.sum) && decide (l.length ≤ 1000))
theorem badW_false {x : Int} (h : badW x = false) : 0 ≤ x ∧ x ≤ 1099511627775 := by
  unfold badW at h
  rw [Bool.or_eq_false_iff, decide_eq_false_iff_not, decide_eq_false_iff_not] at h
  omega
theorem sum_take_succ (l : List Int) {k : Nat} (h : k < l.length) : (l.take (k + 1)).sum = (l.take k).sum + l.getD k 0 := by
  rw [List.take_succ_eq_append_getElem h, List.sum_append, List.getD_eq_getElem?_getD, List.getElem?_eq_getElem h]; simp
theorem any_take_succ (l : List Int) {k : Nat} (h : k < l.length) (P : Int → Bool) : (l.take (k + 1)).any P = ((l.take k).any P || P (l.getD k 0)) := by
  rw [List.take_succ_eq_append_getElem h, List.any_append, List.getD_eq_getElem?_getD, List.getElem?_eq_getElem h]; simp
theorem sum_bd {l : List Int} (h : l.any badW = false) : 0 ≤ l.sum ∧ l.sum ≤ l.length * 1099511627775 := by
  induction l with
  | nil => simp
  | cons x l ih =>
    rw [List.any_cons, Bool.or_eq_false_iff] at h
    have := ih h.2
    have := badW_false h.1
    rw [List.sum_cons, List.length_cons]
    omega
theorem any_of_take {l : List Int} {k : Nat} {P : Int → Bool} (h : (l.take k).any P = true) : l.any P = true := by
  obtain ⟨x, hx, hp⟩ := List.any_eq_true.1 h
  exact List.any_eq_true.2 ⟨x, List.mem_of_mem_take hx, hp⟩
end Go.Proofs.Mon
