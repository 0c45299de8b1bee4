/- The shelf's contract of math/bits.Mul64 at this program, in plain words. -/
import Derived.Shelf.Bits.Mul64
import Derived.Test.YtcmijedhjebpkaaProg
namespace Go.Proofs.Ytcmijedhjebpkaa
open Go.Shelf
def mulRen : Go.Shelf.Ren := ⟨fun | 264 => 23 | n => n, fun | 53 => 40 | 46 => 52 | n => n, fun | n => n⟩
theorem mulLays : Go.Proofs.Lays.n264 Try.prog mulRen := {
  mixed := by kernel_rfl
  f264 := Try.func23.trans (congrArg some (by kernel_rfl))
  t46 := Try.underlying52
  a46 := Try.isAgg52
  z46 := Try.sizeOf52
  v46 := Try.zeroValue52
  t53 := Try.underlying40
  a53 := Try.isAgg40
  z53 := Try.sizeOf40
  v53 := Try.zeroValue40 }
open Go.RowKit Go.Lib in
theorem mul64 (x y : Nat) (hx : x < 18446744073709551616) (hy : y < 18446744073709551616) (w : World) :
    Calls Try.prog 23 #[.int .u64 x, .int .u64 y] w fun e w' => e = .returned (.tuple #[.int .u64 ((x * y / 18446744073709551616 : Nat) : Int), .int .u64 ((x * y % 18446744073709551616 : Nat) : Int)]) ∧ w' = w := Any.bits_Mul64 mulLays x y hx hy w
end Go.Proofs.Ytcmijedhjebpkaa
