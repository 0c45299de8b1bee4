/- Contracts of the small functions: cmp.Compare, cmp.Or. -/
import Derived.Test.YtcelipgokpnmfaaProg
import Derived.Test.YtcelipgokpnmfaaGeoPlain
import Derived.WalkKit
import Derived.WalkSpells
import Derived.WalkLawsBesides
import Derived.Outline
import Derived.Lib.Hide
import Derived.Deep.QuietTactic
import Derived.BigQuiet
import Derived.Deep.RegionHeld3
import Derived.Below
namespace Go.Proofs.Ytcelipgokpnmfaa
open Go.RowKit Go.Proofs.Geo

/-- What was there when the call began is as it was. -/
def Kp (w w' : World) : Prop := Below w.heap.size w w'
theorem kp_refl (w : World) : Kp w w := Below.refl _ _
theorem kp_drew {W w : World} (h : Kp W w) : Kp W w.drew := Below.drew h
theorem kp_alloc {W w : World} (h : Kp W w) (o : Obj) : Kp W (w.alloc o) := Below.alloc h (Below.size h) o
theorem kp_trans {W w w' : World} (h : Kp W w) (k : Kp w w') : Kp W w' := Below.trans h (Below.mono k (Below.size h))
theorem kp_cell {W w : World} (h : Kp W w) {a : Addr} {v : Value} (hc : W.cell? a = some v) : w.cell? a = some v := by
  have hlt : a.block < W.heap.size := by
    rcases Nat.lt_or_ge a.block W.heap.size with k | k
    · exact k
    · exfalso; unfold World.cell? at hc; rw [Array.getElem?_eq_none k] at hc; cases hc
  exact (Below.cell h hlt).trans hc
theorem kp_use {w w' : World} (h : Kp w w') : (∀ (a : Addr) (v : Value), w.cell? a = some v → w'.cell? a = some v) ∧ (∀ W, Kp W w → Kp W w') ∧ w.heap.size ≤ w'.heap.size :=
  ⟨fun _ _ hc => kp_cell h hc, fun _ hW => kp_trans hW h, Below.size h⟩

/-- What cmp.Compare tells. -/
def cmpI (a b : Int) : Int := if a < b then -1 else if b < a then 1 else 0

theorem nanI (a : Int) (w : World) : Calls Try.prog 52 #[.int .i64 a] w fun e w' => e = .returned (.bool false) ∧ w = w' := by
  go_enter Try.func52, Try.ntmps52
  go_wp2
  go_ret
  exact ⟨by simp, rfl⟩
theorem nanU (a : Int) (w : World) : Calls Try.prog 53 #[.int .u64 a] w fun e w' => e = .returned (.bool false) ∧ w = w' := by
  go_enter Try.func53, Try.ntmps53
  go_wp2
  go_ret
  exact ⟨by simp, rfl⟩

theorem ret_int {k : IntKind} {a b : Int} (h : a = b) : Ending.returned (.int k a) = .returned (.int k b) := by rw [h]
theorem ret_bool {a b : Bool} (h : a = b) : Ending.returned (.bool a) = .returned (.bool b) := by rw [h]
theorem cmpI_lt {a b : Int} (h : a < b) : cmpI a b = -1 := by unfold cmpI; rw [if_pos h]
theorem cmpI_gt {a b : Int} (h : b < a) : cmpI a b = 1 := by unfold cmpI; rw [if_neg (by omega), if_pos h]
theorem cmpI_eq {a b : Int} (h : a = b) : cmpI a b = 0 := by unfold cmpI; rw [if_neg (by omega), if_neg (by omega)]

theorem cmpInt (a b : Int) (w : World) : Calls Try.prog 39 #[.int .i64 a, .int .i64 b] w fun e w' => e = .returned (.int .i64 (cmpI a b)) ∧ w = w' := by
  rcases Int.lt_trichotomy a b with h | h | h
  · have H := Lib.hid (cmpI_lt h)
    go_enter Try.func39, Try.ntmps39
    go_wp2_with (go_at_call 52; refine (nanI _ _).mono ?_; rintro e w' ⟨rfl, rfl⟩)
    go_ret
    exact ⟨ret_int H.out.symm, rfl⟩
  · subst h
    have H := Lib.hid (cmpI_eq (rfl : a = a))
    go_enter Try.func39, Try.ntmps39
    go_wp2_with (go_at_call 52; refine (nanI _ _).mono ?_; rintro e w' ⟨rfl, rfl⟩)
    go_ret
    exact ⟨ret_int H.out.symm, rfl⟩
  · have H := Lib.hid (cmpI_gt h)
    go_enter Try.func39, Try.ntmps39
    go_wp2_with (go_at_call 52; refine (nanI _ _).mono ?_; rintro e w' ⟨rfl, rfl⟩)
    go_ret
    exact ⟨ret_int H.out.symm, rfl⟩
theorem cmpUint (a b : Int) (w : World) : Calls Try.prog 41 #[.int .u64 a, .int .u64 b] w fun e w' => e = .returned (.int .i64 (cmpI a b)) ∧ w = w' := by
  rcases Int.lt_trichotomy a b with h | h | h
  · have H := Lib.hid (cmpI_lt h)
    go_enter Try.func41, Try.ntmps41
    go_wp2_with (go_at_call 53; refine (nanU _ _).mono ?_; rintro e w' ⟨rfl, rfl⟩)
    go_ret
    exact ⟨ret_int H.out.symm, rfl⟩
  · subst h
    have H := Lib.hid (cmpI_eq (rfl : a = a))
    go_enter Try.func41, Try.ntmps41
    go_wp2_with (go_at_call 53; refine (nanU _ _).mono ?_; rintro e w' ⟨rfl, rfl⟩)
    go_ret
    exact ⟨ret_int H.out.symm, rfl⟩
  · have H := Lib.hid (cmpI_gt h)
    go_enter Try.func41, Try.ntmps41
    go_wp2_with (go_at_call 53; refine (nanU _ _).mono ?_; rintro e w' ⟨rfl, rfl⟩)
    go_ret
    exact ⟨ret_int H.out.symm, rfl⟩

def orI (x y : Int) : Int := if x = 0 then y else x
theorem orI_0 {y : Int} : orI 0 y = y := by simp [orI]
theorem orI_1 {x y : Int} (h : ¬ x = 0) : orI x y = x := by simp [orI, h]

theorem or_any (b : Nat) (x y : Int) (w : World) (h0 : w.cell? ⟨b, 0, none⟩ = some (.int .i64 x)) (h1 : w.cell? ⟨b, 1, none⟩ = some (.int .i64 y)) :
    Calls Try.prog 40 #[.slice (some ⟨b, 0, none⟩) 2 2] w fun e w' => e = .returned (.int .i64 (orI x y)) ∧ w = w' := by
  by_cases hx : x = 0
  · subst hx
    have H := Lib.hid (orI_0 (y := y))
    by_cases hy : y = 0
    · subst hy
      go_enter Try.func40, Try.ntmps40
      go_wp2
      go_loop [8] (fun i => ∃ k : Nat, k ≤ 2 ∧ i = .int .i64 k) (fun i => 2 - (intOf i).toNat)
      case atStart => exact ⟨0, by omega, rfl⟩
      case round =>
        obtain ⟨k, hk, rfl⟩ := hrel
        have hk' : k = 0 ∨ k = 1 ∨ k = 2 := by omega
        rcases hk' with rfl | rfl | rfl
        · go_wp2
          go_round
          case rel => exact ⟨1, by omega, rfl⟩
          case measure => simp [intOf]
        · go_wp2
          go_round
          case rel => exact ⟨2, by omega, rfl⟩
          case measure => simp [intOf]
        · go_wp2
          go_ret
          exact ⟨ret_int H.out.symm, rfl⟩
    · go_enter Try.func40, Try.ntmps40
      go_wp2
      go_loop [8] (fun i => ∃ k : Nat, k ≤ 1 ∧ i = .int .i64 k) (fun i => 2 - (intOf i).toNat)
      case atStart => exact ⟨0, by omega, rfl⟩
      case round =>
        obtain ⟨k, hk, rfl⟩ := hrel
        have hk' : k = 0 ∨ k = 1 := by omega
        rcases hk' with rfl | rfl
        · go_wp2
          go_round
          case rel => exact ⟨1, by omega, rfl⟩
          case measure => simp [intOf]
        · go_wp2
          go_ret
          exact ⟨ret_int H.out.symm, rfl⟩
  · have H := Lib.hid (orI_1 (y := y) hx)
    go_enter Try.func40, Try.ntmps40
    go_wp2
    go_loop [8] (fun i => i = .int .i64 0) (fun i => 2 - (intOf i).toNat)
    case atStart => rfl
    case round =>
      subst hrel
      go_wp2
      go_ret
      exact ⟨ret_int H.out.symm, rfl⟩
theorem cmpP_or (ax ay bx bY : Int) : orI (cmpI ay bY) (cmpI ax bx) = cmpP (ax, ay) (bx, bY) := by
  unfold orI cmpI cmpP; (repeat' split) <;> omega
end Go.Proofs.Ytcelipgokpnmfaa
