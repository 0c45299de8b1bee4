/- Plain: shares and taxes of amounts from 0 on are rounded quotients; they rise, and are not more than the whole. -/
import Derived.Test.YtcmijedhjebpkaaM1
namespace Go.Proofs.Ytcmijedhjebpkaa
open Go.RowKit Go.Proofs.Geo Go.Proofs.Mon
set_option linter.unusedVariables false
/-- A quotient, rounded, half to even. -/
def rE (N c : Nat) : Nat := N / c + if evUp (N / c) (N % c) c then 1 else 0
theorem evUp_mono {q r r' y : Nat} (h : r ≤ r') (hu : evUp q r y = true) : evUp q r' y = true := by
  unfold evUp at *
  simp at *
  omega
theorem rE_ge (N c : Nat) : N / c ≤ rE N c := by unfold rE; omega
theorem rE_le1 (N c : Nat) : rE N c ≤ N / c + 1 := by unfold rE; split <;> omega
theorem rE_mono {N M c : Nat} (h : N ≤ M) : rE N c ≤ rE M c := by
  have hq : N / c ≤ M / c := Nat.div_le_div_right h
  rcases Nat.lt_or_ge (N / c) (M / c) with g | g
  · have := rE_le1 N c; have := rE_ge M c; omega
  · have e : N / c = M / c := by omega
    have h1 := Nat.div_add_mod N c
    have h2 := Nat.div_add_mod M c
    have hr : N % c ≤ M % c := by rw [e] at h1; omega
    unfold rE
    rw [e]
    by_cases hu : evUp (M / c) (N % c) c = true
    · rw [if_pos hu, if_pos (evUp_mono hr hu)]; omega
    · rw [if_neg hu]; split <;> omega
theorem rE_mul (t c : Nat) (h : 0 < c) : rE (t * c) c = t := by
  unfold rE
  rw [Nat.mul_div_cancel _ h, Nat.mul_mod_left]
  have : evUp t 0 c = false := by unfold evUp; simp; omega
  rw [this]; simp
theorem rE_le {N t c : Nat} (h : 0 < c) (hN : N ≤ t * c) : rE N c ≤ t := by
  have := rE_mono (c := c) hN
  rwa [rE_mul t c h] at this
theorem blw_nn {a b c : Int} (ha : 0 ≤ a) (hb : 0 ≤ b) (hc : 0 < c) : blw a b c = false := by
  unfold blw
  have h := Int.mul_nonneg ha hb
  rw [Int.sign_eq_one_of_pos hc, Int.mul_one]
  rcases Int.lt_or_eq_of_le h with g | g
  · rw [Int.sign_eq_one_of_pos g]; decide
  · rw [← g]; decide
theorem ev_nn {a b c : Int} (ha : 0 ≤ a) (hb : 0 ≤ b) (hc : 0 < c) (hlt : rE (a * b).natAbs c.natAbs < 9223372036854775808) : evR a b c = (((rE (a * b).natAbs c.natAbs : Nat) : Int), 0) := by
  unfold evR divR
  rw [if_neg (by omega), blw_nn ha hb hc]
  show sgnd (rE (a * b).natAbs c.natAbs) false = _
  unfold sgnd
  rw [if_neg (by decide), if_pos hlt]
theorem abs_mul_le {a b c : Int} (ha : 0 ≤ a) (hb : 0 ≤ b) (hbc : b ≤ c) : (a * b).natAbs ≤ a.natAbs * c.natAbs := by
  rw [Int.natAbs_mul]
  exact Nat.mul_le_mul_left _ (by omega)
/-- A share of an amount from 0 on. -/
def shF (t p o : Int) : Int := ((rE (t * p).natAbs o.natAbs : Nat) : Int)
theorem shF_nn (t p o : Int) : 0 ≤ shF t p o := by unfold shF; omega
theorem shF_le {t p o : Int} (ht : 0 ≤ t) (hp : 0 ≤ p) (hpo : p ≤ o) (ho : 0 < o) : shF t p o ≤ t := by
  have := rE_le (t := t.natAbs) (c := o.natAbs) (by omega) (abs_mul_le ht hp hpo)
  unfold shF; omega
theorem shF_mono {t p q o : Int} (ht : 0 ≤ t) (hp : 0 ≤ p) (hpq : p ≤ q) : shF t p o ≤ shF t q o := by
  have h : (t * p).natAbs ≤ (t * q).natAbs := by rw [Int.natAbs_mul, Int.natAbs_mul]; exact Nat.mul_le_mul_left _ (by omega)
  have := rE_mono (c := o.natAbs) h
  unfold shF; omega
theorem shF_mono1 {t u p o : Int} (ht : 0 ≤ t) (htu : t ≤ u) : shF t p o ≤ shF u p o := by
  have h : (t * p).natAbs ≤ (u * p).natAbs := by rw [Int.natAbs_mul, Int.natAbs_mul]; exact Nat.mul_le_mul_right _ (by omega)
  have := rE_mono (c := o.natAbs) h
  unfold shF; omega
theorem shF_all {t o : Int} (ht : 0 ≤ t) (ho : 0 < o) : shF t o o = t := by
  unfold shF
  rw [Int.natAbs_mul, rE_mul _ _ (by omega)]
  omega
theorem shF_zero {t o : Int} (ho : 0 < o) : shF t 0 o = 0 := by
  unfold shF
  have := rE_mul 0 o.natAbs (by omega)
  rw [Nat.zero_mul] at this
  rw [Int.mul_zero, Int.natAbs_zero, this]; rfl
theorem share_nn {t p o : Int} (ht : 0 ≤ t) (htm : t ≤ 1099511627775) (hp : 0 ≤ p) (hpo : p ≤ o) (ho : 0 < o) (hom : o ≤ 1099511627775) : shareR t p o = (shF t p o, 0) := by
  have hl := shF_le ht hp hpo ho
  unfold shareR
  rw [if_pos (by unfold mchk; rw [if_neg (by omega), if_neg (by omega)]), if_neg (by omega), if_neg (by omega), if_neg (by omega), if_neg (by omega)]
  unfold shF at *
  exact ev_nn ht hp ho (by omega)
theorem tax_nn {a r : Int} (ha : 0 ≤ a) (ham : a ≤ 1099511627775) (hr : 0 ≤ r) (hrm : r ≤ 1000000) : taxR a r = (shF a r 1000000, 0) := by
  have hl := shF_le (o := 1000000) ha hr hrm (by omega)
  unfold taxR
  rw [if_pos (by unfold mchk; rw [if_neg (by omega), if_neg (by omega)]), if_pos (by unfold rchk; rw [if_neg (by omega), if_neg (by omega)])]
  unfold shF at *
  exact ev_nn ha hr (by omega) (by omega)
theorem tax_neg {a r : Int} (ha : 0 ≤ a) (ham : a ≤ 1099511627775) (hr : 0 ≤ r) (hrm : r ≤ 1000000) : taxR (-a) r = (-shF a r 1000000, 0) := by
  have hl := shF_le (o := 1000000) ha hr hrm (by omega)
  have hz : a * r = 0 → shF a r 1000000 = 0 := fun h => by
    have := shF_zero (t := 0) (o := 1000000) (by omega)
    unfold shF at this ⊢
    rw [h]; rwa [Int.mul_zero] at this
  unfold taxR
  rw [if_pos (by unfold mchk; rw [if_neg (by omega), if_neg (by omega)]), if_pos (by unfold rchk; rw [if_neg (by omega), if_neg (by omega)])]
  unfold evR divR
  rw [if_neg (by omega)]
  have hn : (-a * r).natAbs = (a * r).natAbs := by rw [Int.neg_mul, Int.natAbs_neg]
  rw [hn]
  have h0 := Int.mul_nonneg ha hr
  show sgnd (rE (a * r).natAbs (1000000 : Int).natAbs) (blw (-a) r 1000000) = _
  have e : blw (-a) r 1000000 = decide (0 < a * r) := by
    unfold blw
    rw [Int.neg_mul, Int.sign_neg]
    by_cases h : 0 < a * r
    · rw [Int.sign_eq_one_of_pos h, decide_eq_true h]; decide
    · have : a * r = 0 := by omega
      rw [this]; decide
  rw [e]
  unfold sgnd
  by_cases h : 0 < a * r
  · rw [decide_eq_true h]
    unfold shF at *
    rw [if_pos rfl, if_pos (by omega)]
  · have h1 : a * r = 0 := by omega
    have h2 := hz h1
    rw [decide_eq_false h, h2]
    unfold shF at h2
    have h3 : rE (a * r).natAbs (1000000 : Int).natAbs = 0 := by omega
    rw [h3]; decide
end Go.Proofs.Ytcmijedhjebpkaa
