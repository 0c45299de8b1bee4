/- Contracts: the document's divisions. -/
import Derived.Test.YtcmijedhjebpkaaPT
import Derived.Test.YtcmijedhjebpkaaWE
import Derived.Test.YtcmijedhjebpkaaRI
namespace Go.Proofs.Ytcmijedhjebpkaa
open Go.RowKit Go.Proofs.Num Go.Proofs.Geo
theorem sumI_sgnd (q : Nat) (b : Bool) : sumI (if b then -(q : Int) else (q : Int)) = sgnd q b := by
  unfold sumI sgnd
  cases b
  · simp only [Bool.false_eq_true, if_false]
    by_cases h : q < 9223372036854775808
    · rw [if_pos (by omega), if_pos h]
    · rw [if_neg (by omega), if_neg h]
  · simp only [if_true]
    by_cases h : q ≤ 9223372036854775808
    · rw [if_pos (by omega), if_pos h]
    · rw [if_neg (by omega), if_neg h]
theorem sgnd_zero (b c : Bool) : sgnd 0 b = sgnd 0 c := by cases b <;> cases c <;> rfl
theorem blw_ne {a b c : Int} (h : a * b ≠ 0) (hc : c ≠ 0) : blw a b c = !(decide (a * b < 0) == decide (c < 0)) := by
  unfold blw
  generalize a * b = p at *
  rcases Int.lt_or_gt_of_ne h with h1 | h1 <;> rcases Int.lt_or_gt_of_ne hc with h2 | h2
  · rw [Int.sign_eq_neg_one_of_neg h1, Int.sign_eq_neg_one_of_neg h2, decide_eq_true h1, decide_eq_true h2]; rfl
  · rw [Int.sign_eq_neg_one_of_neg h1, Int.sign_eq_one_of_pos h2, decide_eq_true h1, decide_eq_false (show ¬ c < 0 by omega)]; rfl
  · rw [Int.sign_eq_one_of_pos h1, Int.sign_eq_neg_one_of_neg h2, decide_eq_false (show ¬ p < 0 by omega), decide_eq_true h2]; rfl
  · rw [Int.sign_eq_one_of_pos h1, Int.sign_eq_one_of_pos h2, decide_eq_false (show ¬ p < 0 by omega), decide_eq_false (show ¬ c < 0 by omega)]; rfl
theorem blw_zero {a b c : Int} (h : a * b = 0) : blw a b c = false := by unfold blw; rw [h]; simp
/-- What both sides tell: a size and a sign, as a number's int. -/
theorem ev_tells (a b c : Int) (hc : c ≠ 0) : sumI (if !(decide (a * b < 0) == decide (c < 0)) then -((((a * b).natAbs / c.natAbs + if evUp ((a * b).natAbs / c.natAbs) ((a * b).natAbs % c.natAbs) c.natAbs then 1 else 0 : Nat) : Int)) else (((a * b).natAbs / c.natAbs + if evUp ((a * b).natAbs / c.natAbs) ((a * b).natAbs % c.natAbs) c.natAbs then 1 else 0 : Nat) : Int)) = evR a b c := by
  rw [sumI_sgnd]
  unfold evR divR
  rw [if_neg hc]
  by_cases h : a * b = 0
  · have hc' : 0 < c.natAbs := by omega
    have e : evUp 0 0 c.natAbs = false := by unfold evUp; simp
    rw [h, Int.natAbs_zero, Nat.zero_div, Nat.zero_mod]
    simp only [e]
    exact sgnd_zero _ _
  · rw [blw_ne h hc]
theorem fl_tells (a b c : Int) (hc : c ≠ 0) (nb : Bool) (hn : (!decide (a * b = 0) && !(decide (a * b < 0) == decide (c < 0))) = nb) : sumI (if nb then -((((a * b).natAbs / c.natAbs + if flUp ((a * b).natAbs % c.natAbs) nb then 1 else 0 : Nat) : Int)) else (((a * b).natAbs / c.natAbs + if flUp ((a * b).natAbs % c.natAbs) nb then 1 else 0 : Nat) : Int)) = flR a b c := by
  rw [sumI_sgnd]
  unfold flR divR
  rw [if_neg hc]
  have hb : blw a b c = nb := by
    rw [← hn]
    by_cases h : a * b = 0
    · rw [blw_zero h, decide_eq_true h]; rfl
    · rw [blw_ne h hc, decide_eq_false h]; rfl
  rw [hb]
theorem carrT (nb : Bool) (U : Nat) (V : Int) (hU : (U : Int) < top12) (hV : (if nb then -(U : Int) else (U : Int)) = V) (w : World) : Calls Try.prog 43 #[.agg (numC nb (d12 (U : Int)))] w fun e w' => e = .returned (.agg (numI V)) ∧ Kp w w' := by
  rw [← hV]
  exact carried_num nb (d12 (U : Int)) U (d12_length _) (hv_d12 (sh12_zero (by omega) hU)) (by have := d12_bd (X := (U : Int)); exact this) hU w
/-- The memory of a division: the product and the quotient. -/
structure ES (W w : World) (BX BQ : Nat) (sx : Bool) (X : Nat) (n : Bool) (Q : Nat) : Prop where
  x : NumB w BX sx (d12 (X : Int))
  q : NumB w BQ n (d12 (Q : Int))
  ne : BX ≠ BQ
  lx : W.heap.size ≤ BX
  lq : W.heap.size ≤ BQ
  k : Kp W w
theorem ES.kp {W w w' : World} {BX BQ : Nat} {sx : Bool} {X : Nat} {n : Bool} {Q : Nat} (h : ES W w BX BQ sx X n Q) (k : Kp w w') : ES W w' BX BQ sx X n Q := ⟨h.x.kp k, h.q.kp k, h.ne, h.lx, h.lq, kp_trans h.k k⟩
theorem ES.drew {W w : World} {BX BQ : Nat} {sx : Bool} {X : Nat} {n : Bool} {Q : Nat} (h : ES W w BX BQ sx X n Q) : ES W w.drew BX BQ sx X n Q := h.kp (kp_drew (kp_refl _))
theorem ES.setQ {W w : World} {BX BQ : Nat} {sx : Bool} {X : Nat} {n : Bool} {Q : Nat} (h : ES W w BX BQ sx X n Q) (Q' : Nat) : ES W (w.setRow BQ (numI (Q' : Int))) BX BQ sx X false Q' :=
  ⟨h.x.offRow _ h.ne, by rw [numI_nat]; exact h.q.row (d12_length _), h.ne, h.lx, h.lq, kp_row h.k h.lq _⟩
theorem ES.setN {W w : World} {BX BQ : Nat} {sx : Bool} {X : Nat} {n : Bool} {Q : Nat} (h : ES W w BX BQ sx X n Q) (n' : Bool) : ES W (w.setCell ⟨BQ, 0, none⟩ (.bool n')) BX BQ sx X n' Q :=
  ⟨h.x.off _ h.ne, h.q.setSgn _, h.ne, h.lx, h.lq, kp_set h.k h.lq _⟩
end Go.Proofs.Ytcmijedhjebpkaa
