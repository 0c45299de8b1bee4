/- Contracts of the small functions: cmp.Compare, cmp.Or. -/
import Derived.Test.YtcmijedhjebpkaaProg
import Derived.Test.YtcmijedhjebpkaaGeoPlain
import Derived.WalkKit
import Derived.WalkSpells
import Derived.WalkLawsBesides
import Derived.Outline
import Derived.Lib.Hide
import Derived.Deep.QuietTactic
import Derived.BigQuiet
import Derived.Deep.RegionHeld3
import Derived.Below
namespace Go.Proofs.Ytcmijedhjebpkaa
open Go.RowKit Go.Proofs.Geo

/-- What was there when the call began is as it was. -/
def Kp (w w' : World) : Prop := Below w.heap.size w w'
theorem kp_refl (w : World) : Kp w w := Below.refl _ _
theorem kp_drew {W w : World} (h : Kp W w) : Kp W w.drew := Below.drew h
theorem kp_alloc {W w : World} (h : Kp W w) (o : Obj) : Kp W (w.alloc o) := Below.alloc h (Below.size h) o
theorem kp_trans {W w w' : World} (h : Kp W w) (k : Kp w w') : Kp W w' := Below.trans h (Below.mono k (Below.size h))
theorem kp_cell {W w : World} (h : Kp W w) {a : Addr} {v : Value} (hc : W.cell? a = some v) : w.cell? a = some v := by
  have hlt : a.block < W.heap.size := by
    rcases Nat.lt_or_ge a.block W.heap.size with k | k
    · exact k
    · exfalso; unfold World.cell? at hc; rw [Array.getElem?_eq_none k] at hc; cases hc
  exact (Below.cell h hlt).trans hc
theorem kp_use {w w' : World} (h : Kp w w') : (∀ (a : Addr) (v : Value), w.cell? a = some v → w'.cell? a = some v) ∧ (∀ W, Kp W w → Kp W w') ∧ w.heap.size ≤ w'.heap.size :=
  ⟨fun _ _ hc => kp_cell h hc, fun _ hW => kp_trans hW h, Below.size h⟩

/-- What cmp.Compare tells. -/
def cmpI (a b : Int) : Int := if a < b then -1 else if b < a then 1 else 0

theorem nanI (a : Int) (w : World) : Calls Try.prog 72 #[.int .i64 a] w fun e w' => e = .returned (.bool false) ∧ w = w' := by
  go_enter Try.func72, Try.ntmps72
  go_wp2
  go_ret
  exact ⟨by simp, rfl⟩
theorem ret_int {k : IntKind} {a b : Int} (h : a = b) : Ending.returned (.int k a) = .returned (.int k b) := by rw [h]
theorem ret_bool {a b : Bool} (h : a = b) : Ending.returned (.bool a) = .returned (.bool b) := by rw [h]
theorem cmpI_lt {a b : Int} (h : a < b) : cmpI a b = -1 := by unfold cmpI; rw [if_pos h]
theorem cmpI_gt {a b : Int} (h : b < a) : cmpI a b = 1 := by unfold cmpI; rw [if_neg (by omega), if_pos h]
theorem cmpI_eq {a b : Int} (h : a = b) : cmpI a b = 0 := by unfold cmpI; rw [if_neg (by omega), if_neg (by omega)]

theorem cmpInt (a b : Int) (w : World) : Calls Try.prog 70 #[.int .i64 a, .int .i64 b] w fun e w' => e = .returned (.int .i64 (cmpI a b)) ∧ w = w' := by
  rcases Int.lt_trichotomy a b with h | h | h
  · have H := Lib.hid (cmpI_lt h)
    go_enter Try.func70, Try.ntmps70
    go_wp2_with (go_at_call 72; refine (nanI _ _).mono ?_; rintro e w' ⟨rfl, rfl⟩)
    go_ret
    exact ⟨ret_int H.out.symm, rfl⟩
  · subst h
    have H := Lib.hid (cmpI_eq (rfl : a = a))
    go_enter Try.func70, Try.ntmps70
    go_wp2_with (go_at_call 72; refine (nanI _ _).mono ?_; rintro e w' ⟨rfl, rfl⟩)
    go_ret
    exact ⟨ret_int H.out.symm, rfl⟩
  · have H := Lib.hid (cmpI_gt h)
    go_enter Try.func70, Try.ntmps70
    go_wp2_with (go_at_call 72; refine (nanI _ _).mono ?_; rintro e w' ⟨rfl, rfl⟩)
    go_ret
    exact ⟨ret_int H.out.symm, rfl⟩
def orI (x y : Int) : Int := if x = 0 then y else x
theorem orI_0 {y : Int} : orI 0 y = y := by simp [orI]
theorem orI_1 {x y : Int} (h : ¬ x = 0) : orI x y = x := by simp [orI, h]

theorem cmpP_or (ax ay bx bY : Int) : orI (cmpI ay bY) (cmpI ax bx) = cmpP (ax, ay) (bx, bY) := by
  unfold orI cmpI cmpP; (repeat' split) <;> omega
end Go.Proofs.Ytcmijedhjebpkaa
