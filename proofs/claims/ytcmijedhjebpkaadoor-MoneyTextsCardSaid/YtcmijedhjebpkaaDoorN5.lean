/- Contracts of numbers in digits: Of. -/
import Derived.Test.YtcmijedhjebpkaaDoorN4
import Derived.Test.YtcmijedhjebpkaaDoorW4
import Derived.Laws.Bits64
import Derived.Laws.BitsLemmas
namespace Go.Proofs.YtcmijedhjebpkaaDoor
open Go.RowKit Go.Proofs.Num Go.Proofs.Geo

/-- The digits while the first k of U are laid. -/
def ofE (U : Int) (k : Nat) : List Int := (List.range 12).map fun j => if j < k then dg U j else 0
theorem ofE_len (U : Int) (k : Nat) : (ofE U k).length = 12 := by simp [ofE]
theorem ofE_zero (U : Int) : ofE U 0 = numZ := rfl
theorem ofE_set (U : Int) (k : Nat) : (ofE U k).set k (dg U k) = ofE U (k + 1) := by
  apply List.ext_getElem
  · simp [ofE]
  · intro i h1 h2
    rw [List.getElem_set]
    simp only [ofE, List.getElem_map, List.getElem_range]
    by_cases e : k = i
    · subst e; simp
    · rw [if_neg e]
      by_cases e2 : i < k
      · rw [if_pos e2, if_pos (by omega)]
      · rw [if_neg e2, if_neg (by omega)]
theorem sh_zero (j : Nat) : sh 0 j = 0 := by
  induction j with
  | zero => rfl
  | succ j ih => rw [sh_succ, ih]; rfl
theorem dg_high {U : Int} (h0 : 0 ≤ U) (h : U < 18446744073709551616) (j : Nat) (hj : 4 ≤ j) : dg U j = 0 := by
  obtain ⟨i, rfl⟩ : ∃ i, j = i + 4 := ⟨j - 4, by omega⟩
  have e : ∀ i, sh U (i + 4) = 0 := by
    intro i
    induction i with
    | zero => show U / 65536 / 65536 / 65536 / 65536 = 0; omega
    | succ i ih => rw [show i + 1 + 4 = (i + 4) + 1 from rfl, sh_succ, ih]; rfl
  unfold dg; rw [e]; rfl
theorem ofE_four {U : Int} (h0 : 0 ≤ U) (h : U < 18446744073709551616) : ofE U 4 = d12 U := by
  unfold ofE d12
  apply List.map_congr_left
  intro j _
  by_cases e : j < 4
  · rw [if_pos e]
  · rw [if_neg e, dg_high h0 h j (by omega)]
theorem mask16 {Y : Int} (h0 : 0 ≤ Y) (h : Y < 18446744073709551616) : wrap64 (bits BinOp.and IntKind.u64 Y 65535) = Y % 65536 := by
  have k := bits_mask .u64 64 (by decide) (fun n a b => by rw [IntKind.wrap_u64]; omega) 16 (by decide) Y h0 (by omega)
  have e : ((2 : Int) ^ 16 - 1) = 65535 := by decide
  have e2 : ((2 : Int) ^ 16) = 65536 := by decide
  rw [e, e2] at k
  rw [k, ← IntWalk.i64_left]
  exact IntWalk.i64_in _ (by omega)
theorem mask_0 {U : Int} (h0 : 0 ≤ U) (h : U < 18446744073709551616) : wrap64 (bits BinOp.and IntKind.u64 U 65535) = dg U 0 := mask16 h0 h
theorem mask_1 {U : Int} (h0 : 0 ≤ U) (h : U < 18446744073709551616) : wrap64 (bits BinOp.and IntKind.u64 (U / 65536) 65535) = dg U 1 := mask16 (by omega) (by omega)
theorem mask_2 {U : Int} (h0 : 0 ≤ U) (h : U < 18446744073709551616) : wrap64 (bits BinOp.and IntKind.u64 (U / 4294967296) 65535) = dg U 2 := by
  rw [mask16 (by omega) (by omega)]; show _ = U / 65536 / 65536 % 65536; omega
theorem mask_3 {U : Int} (h0 : 0 ≤ U) (h : U < 18446744073709551616) : wrap64 (bits BinOp.and IntKind.u64 (U / 281474976710656) 65535) = dg U 3 := by
  rw [mask16 (by omega) (by omega)]; show _ = U / 65536 / 65536 / 65536 % 65536; omega

end Go.Proofs.YtcmijedhjebpkaaDoor
