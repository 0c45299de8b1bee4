/- Contracts: products of two whole numbers, and the sign of a difference of two. -/
import Derived.Test.YtcmijedhjebpkaaW0
import Derived.Test.YtcmijedhjebpkaaShelf
import Derived.IntWalk
import Derived.Laws.Bits64
namespace Go.Proofs.Ytcmijedhjebpkaa
open Go.RowKit Go.Proofs.Geo

/-- A number of 64 bits. -/
def I64 (x : Int) : Prop := -9223372036854775808 ≤ x ∧ x ≤ 9223372036854775807

theorem sign_any (a : Int) (w : World) : Calls Try.prog 67 #[.int .i64 a] w fun e w' => e = .returned (.int .i64 (cmpI a 0)) ∧ w = w' := by
  go_enter Try.func67, Try.ntmps67
  go_wp2_with (go_at_call 70; refine (cmpInt _ _ _).mono ?_; rintro e w' ⟨rfl, rfl⟩)
  go_ret
  exact ⟨rfl, rfl⟩

theorem size_neg {a : Int} (h : I64 a) (hn : a < 0) : IntKind.u64.wrap (-IntKind.u64.wrap a) = (a.natAbs : Int) := by
  unfold I64 at h; rw [IntKind.wrap_u64, IntKind.wrap_u64]; omega
theorem size_pos {a : Int} (h : I64 a) (hn : ¬ a < 0) : IntKind.u64.wrap a = (a.natAbs : Int) := by
  unfold I64 at h; rw [IntKind.wrap_u64]; omega
theorem size_any (a : Int) (h : I64 a) (w : World) : Calls Try.prog 66 #[.int .i64 a] w fun e w' => e = .returned (.int .u64 (a.natAbs : Int)) ∧ w = w' := by
  by_cases hn : a < 0
  · have H := Lib.hid (size_neg h hn)
    clear h
    go_enter Try.func66, Try.ntmps66
    go_wp2
    go_ret
    exact ⟨ret_int H.out, rfl⟩
  · have H := Lib.hid (size_pos h hn)
    clear h
    go_enter Try.func66, Try.ntmps66
    go_wp2
    go_ret
    exact ⟨ret_int H.out, rfl⟩

/-- A product's size, in two parts, and its sign. -/
def mulH (a b : Int) : Int := ((a.natAbs * b.natAbs / 18446744073709551616 : Nat) : Int)
def mulL (a b : Int) : Int := ((a.natAbs * b.natAbs % 18446744073709551616 : Nat) : Int)
def mulS (a b : Int) : Int := cmpI a 0 * cmpI b 0
theorem mul64' (a b : Int) (ha : I64 a) (hb : I64 b) (w : World) :
    Calls Try.prog 23 #[.int .u64 (a.natAbs : Int), .int .u64 (b.natAbs : Int)] w fun e w' => e = .returned (.tuple #[.int .u64 (mulH a b), .int .u64 (mulL a b)]) ∧ w = w' :=
  (mul64 a.natAbs b.natAbs (by unfold I64 at ha; omega) (by unfold I64 at hb; omega) w).mono fun _ _ ⟨h1, h2⟩ => ⟨h1, h2.symm⟩
theorem cmpI_bd (a b : Int) : -1 ≤ cmpI a b ∧ cmpI a b ≤ 1 := by unfold cmpI; (repeat' split) <;> omega
theorem mulS_wrap (a b : Int) : IntKind.i64.wrap (cmpI a 0 * cmpI b 0) = mulS a b := by
  have h1 := cmpI_bd a 0; have h2 := cmpI_bd b 0
  rw [IntWalk.i64_in _ ?_]; rfl
  have e1 : cmpI a 0 = -1 ∨ cmpI a 0 = 0 ∨ cmpI a 0 = 1 := by omega
  rcases e1 with e | e | e <;> rw [e] <;> omega

theorem mul_any (a b : Int) (ha : I64 a) (hb : I64 b) (w : World) : Calls Try.prog 65 #[.int .i64 a, .int .i64 b] w fun e w' =>
    e = .returned (.tuple #[.int .u64 (mulH a b), .int .u64 (mulL a b), .int .i64 (mulS a b)]) ∧ w = w' := by
  have Ha := Lib.hid ha
  have Hb := Lib.hid hb
  clear ha hb
  have hm := mulS_wrap a b
  have hm2 : wrap64 (cmpI a 0 * cmpI b 0) = mulS a b := by rw [← IntWalk.i64_left]; exact hm
  go_enter Try.func65, Try.ntmps65
  go_wp2_with (first
    | (go_at_call_of 66 (Value.int .i64 a); refine (size_any a Ha.out _).mono ?_; rintro e w' ⟨rfl, rfl⟩)
    | (go_at_call_of 66 (Value.int .i64 b); refine (size_any b Hb.out _).mono ?_; rintro e w' ⟨rfl, rfl⟩)
    | (go_at_call 23; refine (mul64' a b Ha.out Hb.out _).mono ?_; rintro e w' ⟨rfl, rfl⟩)
    | (go_at_call 67; refine (sign_any _ _).mono ?_; rintro e w' ⟨rfl, rfl⟩))
  go_ret3
  exact ⟨rfl, rfl⟩
end Go.Proofs.Ytcmijedhjebpkaa
