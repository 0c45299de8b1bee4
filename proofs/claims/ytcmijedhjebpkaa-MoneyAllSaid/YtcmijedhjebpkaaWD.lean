/- Contracts of wide's divisions. -/
import Derived.Test.YtcmijedhjebpkaaDiv
import Derived.Test.YtcmijedhjebpkaaW5
namespace Go.Proofs.Ytcmijedhjebpkaa
open Go.RowKit Go.Proofs.Geo

/-- A size and a sign as an int, and why it is none. -/
def sgnd (q : Nat) (bl : Bool) : Int × Int := if bl then (if q ≤ 9223372036854775808 then (-(q : Int), 0) else (0, 5)) else (if q < 9223372036854775808 then ((q : Int), 0) else (0, 5))
/-- Is a quotient rounded up (half to even; down)? -/
def evUp (q r y : Nat) : Bool := decide (y < 2 * r) || (decide (2 * r = y) && decide (q % 2 = 1))
def flUp (r : Nat) (bl : Bool) : Bool := bl && decide (0 < r)
/-- Is a product, divided, below nothing? -/
def blw (a b c : Int) : Bool := decide ((a * b).sign * c.sign < 0)
def divR (up : Nat → Nat → Nat → Bool → Bool) (a b c : Int) : Int × Int :=
  if c = 0 then (0, 2) else sgnd ((a * b).natAbs / c.natAbs + (if up ((a * b).natAbs / c.natAbs) ((a * b).natAbs % c.natAbs) c.natAbs (blw a b c) then 1 else 0)) (blw a b c)
def evR (a b c : Int) : Int × Int := divR (fun q r y _ => evUp q r y) a b c
def flR (a b c : Int) : Int × Int := divR (fun _ r _ bl => flUp r bl) a b c
theorem sgnd_out {q : Nat} (h : 18446744073709551616 ≤ q) (bl : Bool) : sgnd q bl = (0, 5) := by
  unfold sgnd; cases bl
  · rw [if_neg (by decide), if_neg (by omega)]
  · rw [if_pos rfl, if_neg (by omega)]
theorem ret2 {x y u v : Int} (h1 : x = u) (h2 : y = v) : Ending.returned (.tuple #[.int .i64 x, .int .i64 y]) = .returned (.tuple #[.int .i64 u, .int .i64 v]) := by rw [h1, h2]
theorem neg_wrap {q : Nat} (h : q ≤ 9223372036854775808) : IntKind.i64.wrap (IntKind.u64.wrap (-(q : Int))) = -(q : Int) := by
  rw [IntKind.wrap_u64]
  simp only [IntKind.wrap, IntKind.bits, IntKind.signed]
  simp
  split <;> omega

set_option maxHeartbeats 8000000 in
set_option maxRecDepth 100000 in
theorem signed_any (q : Nat) (hq : q < 18446744073709551616) (bl : Bool) (w : World) : Calls Try.prog 68 #[.int .u64 q, .bool bl] w fun e w' => e = .returned (.tuple #[.int .i64 (sgnd q bl).1, .int .i64 (sgnd q bl).2]) ∧ w = w' := by
  cases bl
  · by_cases h : q < 9223372036854775808
    · have H : Hid (sgnd q false = ((q : Int), 0)) := Lib.hid (by unfold sgnd; rw [if_neg (by decide), if_pos h])
      have h1 : (q : Int) < 9223372036854775808 := by omega
      go_enter Try.func68, Try.ntmps68
      go_wp2
      go_ret2
      exact ⟨ret2 (by rw [H.out]) (by rw [H.out]), rfl⟩
    · have H : Hid (sgnd q false = (0, 5)) := Lib.hid (by unfold sgnd; rw [if_neg (by decide), if_neg h])
      have h1 : decide ((q : Int) < 9223372036854775808) = false := decide_eq_false (by omega)
      clear h
      go_enter Try.func68, Try.ntmps68
      go_wp2
      go_ret2
      exact ⟨ret2 (by rw [H.out]) (by rw [H.out]), rfl⟩
  · by_cases h : q ≤ 9223372036854775808
    · have H : Hid (sgnd q true = (-(q : Int), 0)) := Lib.hid (by unfold sgnd; rw [if_pos rfl, if_pos h])
      have h1 : decide ((q : Int) ≤ 9223372036854775808) = true := decide_eq_true (by omega)
      have hw := neg_wrap h
      have hw2 : wrap64 (IntKind.u64.wrap (-(q : Int))) = -(q : Int) := by rw [← IntWalk.i64_left]; exact hw
      clear h
      go_enter Try.func68, Try.ntmps68
      go_wp2
      go_ret2
      exact ⟨ret2 (by rw [H.out]) (by rw [H.out]), rfl⟩
    · have H : Hid (sgnd q true = (0, 5)) := Lib.hid (by unfold sgnd; rw [if_pos rfl, if_neg h])
      have h1 : decide ((q : Int) ≤ 9223372036854775808) = false := decide_eq_false (by omega)
      clear h
      go_enter Try.func68, Try.ntmps68
      go_wp2
      go_ret2
      exact ⟨ret2 (by rw [H.out]) (by rw [H.out]), rfl⟩
set_option maxHeartbeats 8000000 in
set_option maxRecDepth 100000 in
theorem ev1_any (q r y : Nat) (bl : Bool) (hr : r < y) (hy : y < 18446744073709551616) (w : World) : Calls Try.prog 46 #[.int .u64 q, .int .u64 r, .int .u64 y, .bool bl] w fun e w' => e = .returned (.bool (evUp q r y)) ∧ w = w' := by
  obtain ⟨d, hd⟩ : ∃ d, y - r = d := ⟨_, rfl⟩
  have ew : IntKind.u64.wrap (d : Int) = (d : Int) := u64n (by omega)
  have e2 : (q : Int).tmod 2 = (q : Int) % 2 := Int.tmod_eq_emod_of_nonneg (by omega)
  have e3 : (y : Int) - (r : Int) = (d : Int) := by omega
  by_cases h1 : y < 2 * r
  · have H : Hid (evUp q r y = true) := Lib.hid (by unfold evUp; rw [decide_eq_true h1]; rfl)
    have c1 : d < r := by omega
    clear h1 hr hy hd
    go_enter Try.func46, Try.ntmps46
    go_wp2
    go_ret
    exact ⟨ret_bool H.out.symm, rfl⟩
  · by_cases h2 : 2 * r = y
    · have H : Hid (evUp q r y = ((q : Int) % 2 == 1)) := Lib.hid (by unfold evUp; rw [decide_eq_false h1, decide_eq_true h2, Bool.eq_iff_iff]; simp; omega)
      obtain rfl : r = d := by omega
      have c1 : decide (r < r) = false := by simp
      clear h1 hr hy hd h2
      go_enter Try.func46, Try.ntmps46
      go_wp2
      go_ret
      exact ⟨ret_bool (by rw [H.out]), rfl⟩
    · have H : Hid (evUp q r y = false) := Lib.hid (by unfold evUp; rw [decide_eq_false h1, decide_eq_false h2]; rfl)
      have c1 : decide (d < r) = false := decide_eq_false (by omega)
      have c2 : (r == d) = false := by simp; omega
      have c3 : ((r : Int) == (d : Int)) = false := by simp; omega
      clear h1 hr hy hd h2
      go_enter Try.func46, Try.ntmps46
      go_wp2
      go_ret
      exact ⟨ret_bool H.out.symm, rfl⟩
end Go.Proofs.Ytcmijedhjebpkaa
