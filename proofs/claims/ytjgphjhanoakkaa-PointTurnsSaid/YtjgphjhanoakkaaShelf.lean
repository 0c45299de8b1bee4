/- The shelf's contract of math/bits.Mul64 at this program, in plain words. -/
import Derived.Shelf.Bits.Mul64
import Derived.Test.YtjgphjhanoakkaaProg
namespace Go.Proofs.Ytjgphjhanoakkaa
open Go.Shelf
def mulRen : Go.Shelf.Ren := ⟨fun | 264 => 48 | n => n, fun | 53 => 58 | 46 => 75 | n => n, fun | n => n⟩
theorem mulLays : Go.Proofs.Lays.n264 Try.prog mulRen := {
  mixed := by kernel_rfl
  f264 := Try.func48.trans (congrArg some (by kernel_rfl))
  t46 := Try.underlying75
  a46 := Try.isAgg75
  z46 := Try.sizeOf75
  v46 := Try.zeroValue75
  t53 := Try.underlying58
  a53 := Try.isAgg58
  z53 := Try.sizeOf58
  v53 := Try.zeroValue58 }
open Go.RowKit Go.Lib in
theorem mul64 (x y : Nat) (hx : x < 18446744073709551616) (hy : y < 18446744073709551616) (w : World) :
    Calls Try.prog 48 #[.int .u64 x, .int .u64 y] w fun e w' => e = .returned (.tuple #[.int .u64 ((x * y / 18446744073709551616 : Nat) : Int), .int .u64 ((x * y % 18446744073709551616 : Nat) : Int)]) ∧ w' = w := Any.bits_Mul64 mulLays x y hx hy w
end Go.Proofs.Ytjgphjhanoakkaa
