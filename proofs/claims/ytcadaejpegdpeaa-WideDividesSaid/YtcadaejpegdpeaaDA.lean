/- The shelf's contracts of math/bits.LeadingZeros64 and Add64 at this program, in plain words. -/
import Derived.Shelf.Small.Bits
import Derived.Shelf.Spec.BitsCarry
import Derived.Test.YtcadaejpegdpeaaW0
import Derived.Test.YtcadaejpegdpeaaShelf
namespace Go.Proofs.Ytcadaejpegdpeaa
open Go.Shelf
def lzRen : Go.Shelf.Ren := ⟨fun | 129 => 51 | 134 => 50 | n => n, fun | 3 => 3 | 4 => 4 | 5 => 5 | 9 => 9 | 46 => 33 | 53 => 22 | n => n, fun | n => n⟩
theorem lzLays : Go.Proofs.Lays.n134 Try.prog lzRen := {
  mixed := by kernel_rfl
  f129 := Try.func51.trans (congrArg some (by kernel_rfl))
  f134 := Try.func50.trans (congrArg some (by kernel_rfl))
  t3 := Try.underlying3
  a3 := Try.isAgg3
  z3 := Try.sizeOf3
  v3 := Try.zeroValue3
  t4 := Try.underlying4
  a4 := Try.isAgg4
  z4 := Try.sizeOf4
  v4 := Try.zeroValue4
  t5 := Try.underlying5
  a5 := Try.isAgg5
  z5 := Try.sizeOf5
  v5 := Try.zeroValue5
  t9 := Try.underlying9
  a9 := Try.isAgg9
  z9 := Try.sizeOf9
  v9 := Try.zeroValue9
  t46 := Try.underlying33
  a46 := Try.isAgg33
  z46 := Try.sizeOf33
  v46 := Try.zeroValue33
  t53 := Try.underlying22
  a53 := Try.isAgg22
  z53 := Try.sizeOf22
  v53 := Try.zeroValue22 }
open Go.RowKit in
theorem lz64 (x : Nat) (h : x < 18446744073709551616) (w : World) : Calls Try.prog 50 #[.int .u64 x] w fun e w' => e = .returned (.int .i64 (64 - (Lib.bitLen x : Int))) ∧ w = w' :=
  (Any.bits_LeadingZeros64 lzLays x w (by omega) (by omega)).mono fun _ _ ⟨h1, h2⟩ => ⟨by rw [h1, Int.toNat_natCast], h2.symm⟩
def adRen : Go.Shelf.Ren := ⟨fun | 25 => 42 | n => n, fun | 22 => 22 | n => n, fun | n => n⟩
theorem adLays : Go.Proofs.Lays7.n25 Try.prog adRen := {
  mixed := by kernel_rfl
  f25 := Try.func42.trans (congrArg some (by kernel_rfl))
  t22 := Try.underlying22
  a22 := Try.isAgg22
  z22 := Try.sizeOf22
  v22 := Try.zeroValue22
  i22 := by kernel_rfl }
open Go.RowKit in
theorem add64 (x y c : Nat) (hc : c ≤ 1) (w : World) : (callFunc 42 #[.int .u64 x, .int .u64 y, .int .u64 c]).run Try.prog w = .ok (.value (.tuple #[.int .u64 (((x + y + c) % 18446744073709551616 : Nat) : Int), .int .u64 (((x + y + c) / 18446744073709551616 : Nat) : Int)])) w :=
  Any7.bits_Add64 adLays x y c hc w
end Go.Proofs.Ytcadaejpegdpeaa
