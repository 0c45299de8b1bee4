/- The shelf's contract of math/bits.Mul64 at this program, in plain words. -/
import Derived.Shelf.Bits.Mul64
import Derived.Test.YtcmijedhjebpkaaDoorProg
namespace Go.Proofs.YtcmijedhjebpkaaDoor
open Go.Shelf
def mulRen : Go.Shelf.Ren := ⟨fun | 264 => 26 | n => n, fun | 53 => 49 | 46 => 60 | n => n, fun | n => n⟩
theorem mulLays : Go.Proofs.Lays.n264 Tryd.prog mulRen := {
  mixed := by kernel_rfl
  f264 := Tryd.func26.trans (congrArg some (by kernel_rfl))
  t46 := Tryd.underlying60
  a46 := Tryd.isAgg60
  z46 := Tryd.sizeOf60
  v46 := Tryd.zeroValue60
  t53 := Tryd.underlying49
  a53 := Tryd.isAgg49
  z53 := Tryd.sizeOf49
  v53 := Tryd.zeroValue49 }
open Go.RowKit Go.Lib in
theorem mul64 (x y : Nat) (hx : x < 18446744073709551616) (hy : y < 18446744073709551616) (w : World) :
    Calls Tryd.prog 26 #[.int .u64 x, .int .u64 y] w fun e w' => e = .returned (.tuple #[.int .u64 ((x * y / 18446744073709551616 : Nat) : Int), .int .u64 ((x * y % 18446744073709551616 : Nat) : Int)]) ∧ w' = w := Any.bits_Mul64 mulLays x y hx hy w
end Go.Proofs.YtcmijedhjebpkaaDoor
