/- The contract of box, of the inside's chapter. -/
import Derived.Test.YtmbfcneabpgcpaaI6
import Derived.Deep.DeepCutAuto
import Derived.Deep.RegionHeld3
namespace Go.Proofs.Ytmbfcneabpgcpaa
open Go.RowKit Go.Proofs.Geo
set_option maxHeartbeats 8000000 in
set_option maxRecDepth 100000 in
theorem box10_any (lx ly hx hy : Int) (w : World) : Calls Try.prog 14 #[pv lx ly, pv hx hy] w (RetRd w (boxL lx ly hx hy)) := by
  go_enter Try.func14, Try.ntmps14
  go_wp2
  obtain ⟨W, hW⟩ : ∃ W, ((w.alloc (.cells #[.int .i64 lx, .int .i64 ly] 23)).alloc (.cells #[.int .i64 hx, .int .i64 hy] 23)) = W := ⟨_, rfl⟩
  have c0_0 : W.cell? ⟨w.heap.size, 0, none⟩ = some (.int .i64 lx) := by rw [← hW]; simp [go_sem]
  have c0_1 : W.cell? ⟨w.heap.size, 1, none⟩ = some (.int .i64 ly) := by rw [← hW]; simp [go_sem]
  have c1_0 : W.cell? ⟨w.heap.size + 1, 0, none⟩ = some (.int .i64 hx) := by rw [← hW]; simp [go_sem]
  have c1_1 : W.cell? ⟨w.heap.size + 1, 1, none⟩ = some (.int .i64 hy) := by rw [← hW]; simp [go_sem]
  have K : Kp w W := by rw [← hW]; exact kp_alloc (kp_alloc (kp_refl _) _) _
  rw [hW]; clear hW
  have l0_0 : w.heap.size < W.heap.size := cell_lt c0_0
  have l1_0 : w.heap.size + 1 < W.heap.size := cell_lt c1_0
  go_region_held3 (fun w' => Kp w w' ∧ w'.cell? ⟨w.heap.size, 0, none⟩ = some (.int .i64 lx) ∧ w'.cell? ⟨w.heap.size, 1, none⟩ = some (.int .i64 ly) ∧ w'.cell? ⟨w.heap.size + 1, 0, none⟩ = some (.int .i64 hx) ∧ w'.cell? ⟨w.heap.size + 1, 1, none⟩ = some (.int .i64 hy)) ((first | (with_reducible exact ⟨K, c0_0, c0_1, c1_0, c1_1⟩) | (with_reducible exact ⟨kp_drew K, cell_d c0_0, cell_d c0_1, cell_d c1_0, cell_d c1_1⟩) | (with_reducible exact ⟨kp_alloc K _, cell_a c0_0 _, cell_a c0_1 _, cell_a c1_0 _, cell_a c1_1 _⟩) | (with_reducible exact ⟨kp_alloc (kp_drew K) _, cell_a (cell_d c0_0) _, cell_a (cell_d c0_1) _, cell_a (cell_d c1_0) _, cell_a (cell_d c1_1) _⟩) | (with_reducible exact ⟨kp_alloc (kp_alloc K _) _, cell_a (cell_a c0_0 _) _, cell_a (cell_a c0_1 _) _, cell_a (cell_a c1_0 _) _, cell_a (cell_a c1_1 _) _⟩) | (with_reducible exact ⟨kp_alloc (kp_alloc (kp_drew K) _) _, cell_a (cell_a (cell_d c0_0) _) _, cell_a (cell_a (cell_d c0_1) _) _, cell_a (cell_a (cell_d c1_0) _) _, cell_a (cell_a (cell_d c1_1) _) _⟩)))
    (first
      | (go_at_call 16; refine (at10_any _ _ _).mono ?_; rintro e w2 ⟨rfl, hk⟩; replace c0_0 : w2.cell? ⟨w.heap.size, 0, none⟩ = some (.int .i64 lx) := kp_cell hk (by first | exact c0_0 | exact cell_a c0_0 _ | exact cell_a (cell_a c0_0 _) _ | exact cell_a (cell_a (cell_a c0_0 _) _) _); replace c0_1 : w2.cell? ⟨w.heap.size, 1, none⟩ = some (.int .i64 ly) := kp_cell hk (by first | exact c0_1 | exact cell_a c0_1 _ | exact cell_a (cell_a c0_1 _) _ | exact cell_a (cell_a (cell_a c0_1 _) _) _); replace c1_0 : w2.cell? ⟨w.heap.size + 1, 0, none⟩ = some (.int .i64 hx) := kp_cell hk (by first | exact c1_0 | exact cell_a c1_0 _ | exact cell_a (cell_a c1_0 _) _ | exact cell_a (cell_a (cell_a c1_0 _) _) _); replace c1_1 : w2.cell? ⟨w.heap.size + 1, 1, none⟩ = some (.int .i64 hy) := kp_cell hk (by first | exact c1_1 | exact cell_a c1_1 _ | exact cell_a (cell_a c1_1 _) _ | exact cell_a (cell_a (cell_a c1_1 _) _) _); replace K : Kp w w2 := kp_trans (by repeat (first | exact K | apply kp_alloc | apply kp_drew | apply kp_drewN)) hk; replace l0_0 : w.heap.size < w2.heap.size := cell_lt c0_0; replace l1_0 : w.heap.size + 1 < w2.heap.size := cell_lt c1_0; clear hk))
  all_goals go_wp2_with fail
  all_goals go_ret
  all_goals exact ⟨_, rfl, rd_of (l := boxL lx ly hx hy) (by simp [boxL]) (by unfold boxL; (repeat (first | exact ptsAt_nil _ _ _ | (refine PtsAt.cons (by simp [go_sem]) (by simp [go_sem]) ?_)))), kp_alloc K _⟩
end Go.Proofs.Ytmbfcneabpgcpaa
