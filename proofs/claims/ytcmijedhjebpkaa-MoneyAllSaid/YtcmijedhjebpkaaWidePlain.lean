/- Plain arithmetic of a long division, digit by digit to the base 2^32; no program in sight. -/
namespace Go.Proofs.Wide

theorem guess_ge {un y1 y0 u1 : Nat} (h1 : 0 < y1) (hu : u1 < 4294967296) : (un * 4294967296 + u1) / (y1 * 4294967296 + y0) ≤ un / y1 := by
  rw [Nat.le_div_iff_mul_le h1]
  have h := Nat.div_mul_le_self (un * 4294967296 + u1) (y1 * 4294967296 + y0)
  generalize (un * 4294967296 + u1) / (y1 * 4294967296 + y0) = Q at *
  have e : Q * (y1 * 4294967296 + y0) = (Q * y1) * 4294967296 + Q * y0 := by rw [Nat.mul_add, Nat.mul_assoc]
  rw [e] at h
  omega
theorem dig_lt {un y1 y0 u1 : Nat} (hu : u1 < 4294967296) (hy : un < y1 * 4294967296 + y0) : (un * 4294967296 + u1) / (y1 * 4294967296 + y0) < 4294967296 := by
  rw [Nat.div_lt_iff_lt_mul (by omega)]
  have : (un + 1) * 4294967296 ≤ (y1 * 4294967296 + y0) * 4294967296 := Nat.mul_le_mul_right _ hy
  omega
theorem qY {q y1 y0 : Nat} : q * (y1 * 4294967296 + y0) = (q * y1) * 4294967296 + q * y0 := by rw [Nat.mul_add, Nat.mul_assoc]
/-- The guess is too great. -/
theorem dig_gt {un y1 y0 u1 q r : Nat} (h : q * y1 + r = un) (hy : 0 < y1 * 4294967296 + y0) (g : 4294967296 * r + u1 < q * y0) : (un * 4294967296 + u1) / (y1 * 4294967296 + y0) < q := by
  rw [Nat.div_lt_iff_lt_mul hy, qY]; omega
/-- The guess is right. -/
theorem dig_eq {un y1 y0 u1 q r : Nat} (h : q * y1 + r = un) (hy : 0 < y1 * 4294967296 + y0) (hq : (un * 4294967296 + u1) / (y1 * 4294967296 + y0) ≤ q) (g : q * y0 ≤ 4294967296 * r + u1) : (un * 4294967296 + u1) / (y1 * 4294967296 + y0) = q := by
  refine Nat.le_antisymm hq ?_
  rw [Nat.le_div_iff_mul_le hy, qY]; omega
theorem dig_small {un y1 y0 q r : Nat} (h : q * y1 + r = un) (hy : un < y1 * 4294967296 + y0) (h0 : y0 < 4294967296) (hr : 4294967296 ≤ r) : q < 4294967296 := by
  rcases Nat.lt_or_ge q 4294967296 with k | k
  · exact k
  · have := Nat.mul_le_mul_right y1 k; omega
theorem dig_out {un y1 y0 u1 q r : Nat} (h : q * y1 + r = un) (hy : un < y1 * 4294967296 + y0) (h0 : y0 < 4294967296) (hq : (un * 4294967296 + u1) / (y1 * 4294967296 + y0) ≤ q) (hr : 4294967296 ≤ r) : (un * 4294967296 + u1) / (y1 * 4294967296 + y0) = q := by
  have k := dig_small h hy h0 hr
  refine dig_eq h (by omega) hq ?_
  have : q * y0 ≤ 4294967296 * 4294967296 := Nat.mul_le_mul (by omega) (by omega)
  omega
set_option maxRecDepth 100000 in
theorem dig_bd {un y1 y0 q r : Nat} (h : q * y1 + r = un) (hy : un < y1 * 4294967296 + y0) (h0 : y0 < 4294967296) (h1 : 2147483648 ≤ y1) : q ≤ 4294967298 := by
  false_or_by_contra
  rename_i k
  obtain ⟨d, rfl⟩ : ∃ d, q = d + 4294967299 := ⟨q - 4294967299, by omega⟩
  rw [Nat.add_mul] at h
  have := Nat.zero_le (d * y1)
  generalize d * y1 = t at *
  omega
/-- Two digits make the quotient. -/
theorem two_digits' (B u a b Y : Nat) (hY : 0 < Y) : (u * B * B + a * B + b) / Y = (u * B + a) / Y * B + ((u * B + a) % Y * B + b) / Y ∧
    (u * B * B + a * B + b) % Y = ((u * B + a) % Y * B + b) % Y := by
  have e := Nat.div_add_mod (u * B + a) Y
  generalize (u * B + a) / Y = Q at *
  generalize (u * B + a) % Y = R at *
  have e2 : u * B * B + a * B + b = Y * (Q * B) + (R * B + b) := by
    have h1 : u * B * B + a * B = (u * B + a) * B := by rw [Nat.add_mul]
    rw [h1, ← e, Nat.add_mul, Nat.mul_assoc]; omega
  rw [e2, Nat.mul_add_div hY, Nat.mul_add_mod]
  exact ⟨rfl, rfl⟩
theorem two_digits (u a b Y : Nat) (hY : 0 < Y) : (u * 4294967296 * 4294967296 + a * 4294967296 + b) / Y = (u * 4294967296 + a) / Y * 4294967296 + ((u * 4294967296 + a) % Y * 4294967296 + b) / Y ∧
    (u * 4294967296 * 4294967296 + a * 4294967296 + b) % Y = ((u * 4294967296 + a) % Y * 4294967296 + b) % Y := two_digits' 4294967296 u a b Y hY
/-- Moved up by s, both. -/
theorem moved_up (n y k : Nat) (hk : 0 < k) : n * k / (y * k) = n / y ∧ n * k % (y * k) / k = n % y := by
  refine ⟨Nat.mul_div_mul_right _ _ hk, ?_⟩
  rw [Nat.mul_mod_mul_right, Nat.mul_div_cancel _ hk]
end Go.Proofs.Wide
