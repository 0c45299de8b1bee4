/- The closure that Split sorts by. -/
import Derived.Test.YtcmijedhjebpkaaDoorM3
import Derived.Test.YtcmijedhjebpkaaDoorSS
import Derived.Deep.QuietTactic
import Derived.BigQuiet
namespace Go.Proofs.YtcmijedhjebpkaaDoor
open Go.RowKit Go.Proofs.Geo Go.Proofs.Mon Go.Shelf Go.Lib Go.Sort
set_option linter.unusedVariables false
set_option maxHeartbeats 4000000 in
theorem closure_any (len gB gC gX gY : Nat) (R : List Int) (hR : R.length = len) (W : World) (hb : RowB .u64 49 gB R W) (hx : W.cell? ⟨gX, 0, none⟩ = some (.slice (some ⟨gB, 0, none⟩) len len)) (hy : W.cell? ⟨gY, 0, none⟩ = some (.slice (some ⟨gC, 0, none⟩) len len))
    (i j p q : Nat) (hi : i < len) (hj : j < len) (hp : p < len) (hq : q < len) (ci : W.cell? ⟨gC, i, none⟩ = some (.int .i64 (p : Int))) (cj : W.cell? ⟨gC, j, none⟩ = some (.int .i64 (q : Int))) :
    Calls Tryd.prog 29 #[.int .i64 i, .int .i64 j, .pointer (some ⟨gX, 0, none⟩), .pointer (some ⟨gY, 0, none⟩)] W fun e w' => e = .returned (.bool (decide (R.getD q 0 < R.getD p 0))) ∧ ∃ n, w' = W.drewN n := by
  have c1 := hb.cell (i := p) (by omega)
  have c2 := hb.cell (i := q) (by omega)
  have z1 : (0 : Int) ≤ (i : Int) := by omega
  have z2 : (i : Int) < (len : Int) := by omega
  have z3 : (0 : Int) ≤ (j : Int) := by omega
  have z4 : (j : Int) < (len : Int) := by omega
  have z5 : (0 : Int) ≤ (p : Int) := by omega
  have z6 : (p : Int) < (len : Int) := by omega
  have z7 : (0 : Int) ≤ (q : Int) := by omega
  have z8 : (q : Int) < (len : Int) := by omega
  generalize R.getD p 0 = x at *
  generalize R.getD q 0 = y at *
  have lB := hb.lt
  have lX := cell_lt hx; have lY := cell_lt hy; have lC := cell_lt ci
  clear hb hR
  go_enter Tryd.func29, Tryd.ntmps29
  go_upto_region 1 with fail
  go_quiet (fail)
  go_wp2_with fail
  go_ret
  exact ⟨rfl, nq, rfl⟩
end Go.Proofs.YtcmijedhjebpkaaDoor
