/- Contracts: the document's product. -/
import Derived.Test.YtcmijedhjebpkaaN8
import Derived.Test.YtcmijedhjebpkaaW5
import Derived.Deep.RegionHeld3
import Derived.Laws.Rows
namespace Go.Proofs.Ytcmijedhjebpkaa
open Go.RowKit Go.Proofs.Num Go.Proofs.Geo

theorem NumB.all {w : World} {B : Nat} {neg : Bool} {E : List Int} (h : NumB w B neg E) : w.rangeAt B 0 (numC neg E).toList := fun j v hv => by
  rw [Nat.zero_add, cell_of_row w B j _ _ _ h.1, ← hv, Array.getElem?_toList]
/-- The two words while the first k digits are laid. -/
def wLo (V : Int) (k : Nat) : Int := pre V (min k 4)
def wHi (V : Int) (k : Nat) : Int := pre (V / 18446744073709551616) (k - 4)
theorem dg_shift (V : Int) (k : Nat) : dg (V / 18446744073709551616) k = dg V (k + 4) := by
  unfold dg
  have e : sh (V / 18446744073709551616) k = sh V (k + 4) := by
    show _ = sh (V / 65536 / 65536 / 65536 / 65536) k
    congr 1; omega
  rw [e]
theorem pre_bd (V : Int) (n : Nat) : 0 ≤ pre V n ∧ pre V n < 65536 ^ n := by
  induction n with
  | zero => exact ⟨Int.le_refl _, by show (0 : Int) < 1; decide⟩
  | succ n ih =>
    have hd := dg_bd V n
    have hp : (0 : Int) < 65536 ^ n := Int.pow_pos (by decide)
    rw [pre_succ, Int.pow_succ]
    generalize (65536 : Int) ^ n = p at *
    constructor
    · have := Int.mul_nonneg (Int.le_of_lt hp) hd.1; omega
    · have := Int.mul_le_mul_of_nonneg_left (show dg V n ≤ 65535 by omega) (Int.le_of_lt hp)
      omega

theorem w_step0 (V : Int) : wLo V 0 + dg V 0 * 1 = wLo V 1 ∧ wHi V 0 = wHi V 1 ∧ 0 ≤ wLo V 0 ∧ wLo V 0 < 1 := by
  have h := pre_succ V 0
  have b := pre_bd V 0
  exact ⟨by show pre V 0 + dg V 0 * 1 = pre V 1; rw [h]; simp only [Int.reducePow]; omega, rfl, b.1, by have := b.2; simp only [Int.reducePow] at this; exact this⟩
theorem w_step1 (V : Int) : wLo V 1 + dg V 1 * 65536 = wLo V 2 ∧ wHi V 1 = wHi V 2 ∧ 0 ≤ wLo V 1 ∧ wLo V 1 < 65536 := by
  have h := pre_succ V 1
  have b := pre_bd V 1
  exact ⟨by show pre V 1 + dg V 1 * 65536 = pre V 2; rw [h]; simp only [Int.reducePow]; omega, rfl, b.1, by have := b.2; simp only [Int.reducePow] at this; exact this⟩
theorem w_step2 (V : Int) : wLo V 2 + dg V 2 * 4294967296 = wLo V 3 ∧ wHi V 2 = wHi V 3 ∧ 0 ≤ wLo V 2 ∧ wLo V 2 < 4294967296 := by
  have h := pre_succ V 2
  have b := pre_bd V 2
  exact ⟨by show pre V 2 + dg V 2 * 4294967296 = pre V 3; rw [h]; simp only [Int.reducePow]; omega, rfl, b.1, by have := b.2; simp only [Int.reducePow] at this; exact this⟩
theorem w_step3 (V : Int) : wLo V 3 + dg V 3 * 281474976710656 = wLo V 4 ∧ wHi V 3 = wHi V 4 ∧ 0 ≤ wLo V 3 ∧ wLo V 3 < 281474976710656 := by
  have h := pre_succ V 3
  have b := pre_bd V 3
  exact ⟨by show pre V 3 + dg V 3 * 281474976710656 = pre V 4; rw [h]; simp only [Int.reducePow]; omega, rfl, b.1, by have := b.2; simp only [Int.reducePow] at this; exact this⟩
theorem w_step4 (V : Int) : wHi V 4 + dg V 4 * 1 = wHi V 5 ∧ wLo V 4 = wLo V 5 ∧ 0 ≤ wHi V 4 ∧ wHi V 4 < 1 := by
  have h := pre_succ (V / 18446744073709551616) 0
  rw [dg_shift] at h
  simp only [Nat.reduceAdd] at h
  have b := pre_bd (V / 18446744073709551616) 0
  exact ⟨by show pre (V / 18446744073709551616) 0 + dg V 4 * 1 = pre (V / 18446744073709551616) 1; rw [h]; simp only [Int.reducePow]; omega, rfl, b.1, by have := b.2; simp only [Int.reducePow] at this; exact this⟩
theorem w_step5 (V : Int) : wHi V 5 + dg V 5 * 65536 = wHi V 6 ∧ wLo V 5 = wLo V 6 ∧ 0 ≤ wHi V 5 ∧ wHi V 5 < 65536 := by
  have h := pre_succ (V / 18446744073709551616) 1
  rw [dg_shift] at h
  simp only [Nat.reduceAdd] at h
  have b := pre_bd (V / 18446744073709551616) 1
  exact ⟨by show pre (V / 18446744073709551616) 1 + dg V 5 * 65536 = pre (V / 18446744073709551616) 2; rw [h]; simp only [Int.reducePow]; omega, rfl, b.1, by have := b.2; simp only [Int.reducePow] at this; exact this⟩
theorem w_step6 (V : Int) : wHi V 6 + dg V 6 * 4294967296 = wHi V 7 ∧ wLo V 6 = wLo V 7 ∧ 0 ≤ wHi V 6 ∧ wHi V 6 < 4294967296 := by
  have h := pre_succ (V / 18446744073709551616) 2
  rw [dg_shift] at h
  simp only [Nat.reduceAdd] at h
  have b := pre_bd (V / 18446744073709551616) 2
  exact ⟨by show pre (V / 18446744073709551616) 2 + dg V 6 * 4294967296 = pre (V / 18446744073709551616) 3; rw [h]; simp only [Int.reducePow]; omega, rfl, b.1, by have := b.2; simp only [Int.reducePow] at this; exact this⟩
theorem w_step7 (V : Int) : wHi V 7 + dg V 7 * 281474976710656 = wHi V 8 ∧ wLo V 7 = wLo V 8 ∧ 0 ≤ wHi V 7 ∧ wHi V 7 < 281474976710656 := by
  have h := pre_succ (V / 18446744073709551616) 3
  rw [dg_shift] at h
  simp only [Nat.reduceAdd] at h
  have b := pre_bd (V / 18446744073709551616) 3
  exact ⟨by show pre (V / 18446744073709551616) 3 + dg V 7 * 281474976710656 = pre (V / 18446744073709551616) 4; rw [h]; simp only [Int.reducePow]; omega, rfl, b.1, by have := b.2; simp only [Int.reducePow] at this; exact this⟩
theorem w_end {V : Int} (h0 : 0 ≤ V) (h : V < 340282366920938463463374607431768211456) : wLo V 8 = V % 18446744073709551616 ∧ wHi V 8 = V / 18446744073709551616 := by
  have h1 := hv_sh V 4
  have b := pre_bd V 4
  have h2 := hv_sh (V / 18446744073709551616) 4
  have e2 : sh (V / 18446744073709551616) 4 = 0 := by show V / 18446744073709551616 / 65536 / 65536 / 65536 / 65536 = 0; omega
  rw [e2] at h2
  have e1 : wLo V 8 = pre V 4 := rfl
  have e3 : wHi V 8 = pre (V / 18446744073709551616) 4 := rfl
  rw [e1, e3]
  unfold pre at *
  simp only [Int.reducePow] at h1 h2 b
  constructor <;> omega

theorem wHi_eq0 (V : Int) : wHi V 0 = wHi V 1 := (w_step0 V).2.1
theorem wHi_eq1 (V : Int) : wHi V 1 = wHi V 2 := (w_step1 V).2.1
theorem wHi_eq2 (V : Int) : wHi V 2 = wHi V 3 := (w_step2 V).2.1
theorem wHi_eq3 (V : Int) : wHi V 3 = wHi V 4 := (w_step3 V).2.1
theorem wLo_eq4 (V : Int) : wLo V 4 = wLo V 5 := (w_step4 V).2.1
theorem wLo_eq5 (V : Int) : wLo V 5 = wLo V 6 := (w_step5 V).2.1
theorem wLo_eq6 (V : Int) : wLo V 6 = wLo V 7 := (w_step6 V).2.1
theorem wLo_eq7 (V : Int) : wLo V 7 = wLo V 8 := (w_step7 V).2.1
end Go.Proofs.Ytcmijedhjebpkaa
