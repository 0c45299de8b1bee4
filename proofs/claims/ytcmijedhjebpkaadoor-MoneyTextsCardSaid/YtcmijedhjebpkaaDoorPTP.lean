/- Bit by bit: how often a number goes into another (plain). -/
import Derived.Test.YtcmijedhjebpkaaDoorN8
import Derived.Test.YtcmijedhjebpkaaDoorRS
namespace Go.Proofs.YtcmijedhjebpkaaDoor
open Go.RowKit Go.Proofs.Num Go.Proofs.Geo

theorem sh_nat (X j : Nat) : sh (X : Int) j = ((X / 65536 ^ j : Nat) : Int) := by
  induction j with
  | zero => simp [sh]
  | succ j ih =>
    rw [sh_succ, ih, Nat.pow_succ, ← Nat.div_div_eq_div_mul]
    generalize X / 65536 ^ j = y
    omega
theorem dg_nat (X j : Nat) : dg (X : Int) j = ((X / 65536 ^ j % 65536 : Nat) : Int) := by
  unfold dg; rw [sh_nat]
  generalize X / 65536 ^ j = y
  omega
theorem bit_low (a m : Nat) (hm : m < 16) : a % 65536 / 2 ^ m % 2 = a / 2 ^ m % 2 := by
  have : m = 0 ∨ m = 1 ∨ m = 2 ∨ m = 3 ∨ m = 4 ∨ m = 5 ∨ m = 6 ∨ m = 7 ∨ m = 8 ∨ m = 9 ∨ m = 10 ∨ m = 11 ∨ m = 12 ∨ m = 13 ∨ m = 14 ∨ m = 15 := by omega
  rcases this with rfl | rfl | rfl | rfl | rfl | rfl | rfl | rfl | rfl | rfl | rfl | rfl | rfl | rfl | rfl | rfl <;> simp only [Nat.reducePow] <;> omega
/-- The bit at k, out of its digit. -/
theorem bit_dg (X k : Nat) : dg (X : Int) (k / 16) / 2 ^ (k % 16) % 2 = ((X / 2 ^ k % 2 : Nat) : Int) := by
  rw [dg_nat]
  have h := bit_low (X / 65536 ^ (k / 16)) (k % 16) (Nat.mod_lt _ (by decide))
  have e : X / 65536 ^ (k / 16) / 2 ^ (k % 16) = X / 2 ^ k := by
    rw [Nat.div_div_eq_div_mul, show (65536 : Nat) = 2 ^ 16 from rfl, ← Nat.pow_mul, ← Nat.pow_add, Nat.div_add_mod]
  rw [e] at h
  rw [← h]
  generalize X / 65536 ^ (k / 16) % 65536 = y
  have e2 : ((2 : Int) ^ (k % 16)) = ((2 ^ (k % 16) : Nat) : Int) := by rw [Int.natCast_pow]; rfl
  rw [e2]
  generalize 2 ^ (k % 16) = z
  rw [← Int.natCast_ediv]
  generalize y / z = t
  omega
theorem pre_bit (X k : Nat) : X / 2 ^ k = 2 * (X / 2 ^ (k + 1)) + X / 2 ^ k % 2 := by
  rw [Nat.pow_succ, ← Nat.div_div_eq_div_mul]; omega
theorem dm_lt {P C b : Nat} (hC : 0 < C) (h : 2 * (P % C) + b < C) : (2 * P + b) / C = P / C + P / C ∧ (2 * P + b) % C = 2 * (P % C) + b := by
  have e := Nat.div_add_mod P C
  have e2 : 2 * P + b = (2 * (P % C) + b) + C * (P / C + P / C) := by rw [Nat.mul_add]; omega
  rw [e2, Nat.add_mul_div_left _ _ hC, Nat.add_mul_mod_self_left, Nat.div_eq_of_lt h, Nat.mod_eq_of_lt h]
  omega
theorem dm_ge {P C b : Nat} (hC : 0 < C) (hb : b < 2) (h : C ≤ 2 * (P % C) + b) : (2 * P + b) / C = P / C + P / C + 1 ∧ (2 * P + b) % C = 2 * (P % C) + b - C := by
  have e := Nat.div_add_mod P C
  have hm := Nat.mod_lt P hC
  have e2 : 2 * P + b = (2 * (P % C) + b - C) + C * (P / C + P / C + 1) := by rw [Nat.mul_add, Nat.mul_add]; omega
  have hl : 2 * (P % C) + b - C < C := by omega
  rw [e2, Nat.add_mul_div_left _ _ hC, Nat.add_mul_mod_self_left, Nat.div_eq_of_lt hl, Nat.mod_eq_of_lt hl]; omega
theorem div_le_nat (X k C : Nat) : X / 2 ^ k / C ≤ X := Nat.le_trans (Nat.div_le_self _ _) (Nat.div_le_self _ _)

theorem numI_nat (a : Nat) : numI (a : Int) = numC false (d12 (a : Int)) := by
  unfold numI; rw [Int.natAbs_natCast]; congr 1
theorem num12n (a : Nat) : ∃ (e0 e1 e2 e3 e4 e5 e6 e7 e8 e9 e10 e11 : Int), d12 (a : Int) = [e0, e1, e2, e3, e4, e5, e6, e7, e8, e9, e10, e11] :=
  ⟨_, _, _, _, _, _, _, _, _, _, _, _, rfl⟩
theorem cell_offrow {w : World} {B g o : Nat} {v : Value} (h : w.cell? ⟨B, o, none⟩ = some v) (hne : B ≠ g) (cs : Array Value) : (w.setRow g cs).cell? ⟨B, o, none⟩ = some v := by
  rw [← h]; unfold World.cell?; rw [setRow_other w g B cs hne]
end Go.Proofs.YtcmijedhjebpkaaDoor
