/- The shelf's contract of math/bits.Mul64 at this program, in plain words. -/
import Derived.Shelf.Bits.Mul64
import Derived.Test.YtmbfcneabpgcpaaProg
namespace Go.Proofs.Ytmbfcneabpgcpaa
open Go.Shelf
def mulRen : Go.Shelf.Ren := ⟨fun | 264 => 46 | n => n, fun | 53 => 64 | 46 => 85 | n => n, fun | n => n⟩
theorem mulLays : Go.Proofs.Lays.n264 Try.prog mulRen := {
  mixed := by kernel_rfl
  f264 := Try.func46.trans (congrArg some (by kernel_rfl))
  t46 := Try.underlying85
  a46 := Try.isAgg85
  z46 := Try.sizeOf85
  v46 := Try.zeroValue85
  t53 := Try.underlying64
  a53 := Try.isAgg64
  z53 := Try.sizeOf64
  v53 := Try.zeroValue64 }
open Go.RowKit Go.Lib in
theorem mul64 (x y : Nat) (hx : x < 18446744073709551616) (hy : y < 18446744073709551616) (w : World) :
    Calls Try.prog 46 #[.int .u64 x, .int .u64 y] w fun e w' => e = .returned (.tuple #[.int .u64 ((x * y / 18446744073709551616 : Nat) : Int), .int .u64 ((x * y % 18446744073709551616 : Nat) : Int)]) ∧ w' = w := Any.bits_Mul64 mulLays x y hx hy w
end Go.Proofs.Ytmbfcneabpgcpaa
