/- Contracts: Move. -/
import Derived.Test.YtcelipgokpnmfaaK
import Derived.WalkSmall
namespace Go.Proofs.Ytcelipgokpnmfaa
open Go.RowKit Go.Proofs.Geo

/-- Why a point can't be moved so (0: it can), and where it comes to. -/
def mvE (p d : Pt) : Int := if okP p && okP d then (if okP (mv p d) then 0 else 5) else 2
def mvP (p d : Pt) : Pt := if mvE p d = 0 then mv p d else (0, 0)
theorem mvE_no {p d : Pt} (h : (okP p && okP d) = false) : mvE p d = 2 := by simp [mvE, h]
theorem mvE_out {p d : Pt} (h : (okP p && okP d) = true) (h2 : okP (mv p d) = false) : mvE p d = 5 := by simp [mvE, h, h2]
theorem mvE_ok {p d : Pt} (h : (okP p && okP d) = true) (h2 : okP (mv p d) = true) : mvE p d = 0 := by simp [mvE, h, h2]
theorem mvE_zero {p d : Pt} (h : mvE p d = 0) : okP p = true ∧ okP d = true ∧ okP (mv p d) = true := by
  unfold mvE at h; split at h
  · rename_i k; rw [Bool.and_eq_true] at k
    split at h
    · rename_i k2; exact ⟨k.1, k.2, k2⟩
    · cases h
  · cases h
theorem mvP_no {p d : Pt} (h : (okP p && okP d) = false) : mvP p d = (0, 0) := by simp [mvP, mvE_no h]
theorem mvP_out {p d : Pt} (h : (okP p && okP d) = true) (h2 : okP (mv p d) = false) : mvP p d = (0, 0) := by simp [mvP, mvE_out h h2]
theorem mvP_ok {p d : Pt} (h : (okP p && okP d) = true) (h2 : okP (mv p d) = true) : mvP p d = mv p d := by simp [mvP, mvE_ok h h2]
theorem mvP_zero {p d : Pt} (h : mvE p d = 0) : mvP p d = mv p d := by simp [mvP, h]

theorem ret_mv {p q : Pt} {e f : Int} (hp : p = q) (he : e = f) : Ending.returned (.tuple #[pv p.1 p.2, .int .i64 e]) = .returned (.tuple #[pv q.1 q.2, .int .i64 f]) := by rw [hp, he]

set_option maxHeartbeats 2000000 in
theorem move_any (ax ay bx bY : Int) (w : World) : Calls Try.prog 18 #[pv ax ay, pv bx bY] w fun e w' =>
    e = .returned (.tuple #[pv (mvP (ax, ay) (bx, bY)).1 (mvP (ax, ay) (bx, bY)).2, .int .i64 (mvE (ax, ay) (bx, bY))]) ∧ Kp w w' := by
  cases h : (okP (ax, ay) && okP (bx, bY))
  · have H1 := Lib.hid (mvP_no h)
    have H2 := Lib.hid (mvE_no h)
    go_enter Try.func18, Try.ntmps18
    go_wp2_with (go_at_call 29; refine (valid2 _ (ax, ay) (bx, bY) _ ?_ ?_ ?_ ?_).mono ?_; (iterate 4 (focus (simp [go_sem]))); rintro e w' ⟨rfl, hk1⟩; have d0 : w'.cell? ⟨w.heap.size + 1 + 1, 0, none⟩ = some (.int .i64 0) := kp_cell hk1 (by simp [go_sem]); have d1 : w'.cell? ⟨w.heap.size + 1 + 1, 1, none⟩ = some (.int .i64 0) := kp_cell hk1 (by simp [go_sem]); obtain ⟨hc1, hf1, hz1⟩ := kp_all hk1; clear hz1)
    refine bodyPost_ret (v := .tuple #[pv 0 0, .int .i64 2]) (by simp [results, Try.results18, go_sem, d0, d1]) rfl ⟨ret_mv (p := (0, 0)) H1.out.symm H2.out.symm, ?_⟩
    exact kp_set (kp_set (kp_trans (by repeat (first | exact kp_refl _ | apply kp_alloc)) hk1) (Nat.le_add_right _ 2) _) (Nat.le_add_right _ 2) _
  · have h' := h
    simp only [Bool.and_eq_true, okP_iff] at h'
    obtain ⟨⟨⟨a1, a2⟩, a3, a4⟩, ⟨b1, b2⟩, b3, b4⟩ := h'
    cases h2 : okP (mv (ax, ay) (bx, bY))
    · have H1 := Lib.hid (mvP_out h h2)
      have H2 := Lib.hid (mvE_out h h2)
      have h3 : okP (ax + bx, ay + bY) = false := h2
      clear h2
      go_enter Try.func18, Try.ntmps18
      go_wp2_with (first
        | (go_at_call 29; refine (valid2 _ (ax, ay) (bx, bY) _ ?_ ?_ ?_ ?_).mono ?_; (iterate 4 (focus (simp [go_sem]))); rintro e w' ⟨rfl, hk1⟩; have d0 : w'.cell? ⟨w.heap.size + 1 + 1, 0, none⟩ = some (.int .i64 0) := kp_cell hk1 (by simp [go_sem]); have d1 : w'.cell? ⟨w.heap.size + 1 + 1, 1, none⟩ = some (.int .i64 0) := kp_cell hk1 (by simp [go_sem]); have f0 : w'.frozen? ⟨w.heap.size + 1 + 1, 0, none⟩ = false := kp_froz (v := .int .i64 0) hk1 (by simp [go_sem]) (by simp [go_sem]); have f1 : w'.frozen? ⟨w.heap.size + 1 + 1, 1, none⟩ = false := kp_froz (v := .int .i64 0) hk1 (by simp [go_sem]) (by simp [go_sem]); obtain ⟨hc1, hf1, hz1⟩ := kp_all hk1; clear hz1)
        | (go_at_call 28; refine (valid_any _ _ _).mono ?_; rintro e w2 ⟨rfl, hk2⟩; have d2 : w2.cell? ⟨w.heap.size + 1 + 1, 0, none⟩ = some (.int .i64 0) := kp_cell hk2 (cell_a d0 _); have d3 : w2.cell? ⟨w.heap.size + 1 + 1, 1, none⟩ = some (.int .i64 0) := kp_cell hk2 (cell_a d1 _); have f2 : w2.frozen? ⟨w.heap.size + 1 + 1, 0, none⟩ = false := kp_froz hk2 (cell_a d0 _) (froz_a d0 f0 _); have f3 : w2.frozen? ⟨w.heap.size + 1 + 1, 1, none⟩ = false := kp_froz hk2 (cell_a d1 _) (froz_a d1 f1 _); have q0 : w2.cell? ⟨w'.heap.size, 0, none⟩ = some (.int .i64 (ax + bx)) := kp_cell hk2 (by simp [go_sem]); have q1 : w2.cell? ⟨w'.heap.size, 1, none⟩ = some (.int .i64 (ay + bY)) := kp_cell hk2 (by simp [go_sem])))
      refine bodyPost_ret (v := .tuple #[pv 0 0, .int .i64 5]) (by simp [results, Try.results18, go_sem, d2, d3]) rfl ⟨ret_mv (p := (0, 0)) H1.out.symm H2.out.symm, ?_⟩
      exact kp_set (kp_set (kp_trans (kp_alloc (kp_trans (by repeat (first | exact kp_refl _ | apply kp_alloc)) hk1) _) hk2) (Nat.le_add_right _ 2) _) (Nat.le_add_right _ 2) _
    · have H1 := Lib.hid (mvP_ok h h2)
      have H2 := Lib.hid (mvE_ok h h2)
      have h3 : okP (ax + bx, ay + bY) = true := h2
      clear h2
      go_enter Try.func18, Try.ntmps18
      go_wp2_with (first
        | (go_at_call 29; refine (valid2 _ (ax, ay) (bx, bY) _ ?_ ?_ ?_ ?_).mono ?_; (iterate 4 (focus (simp [go_sem]))); rintro e w' ⟨rfl, hk1⟩; have d0 : w'.cell? ⟨w.heap.size + 1 + 1, 0, none⟩ = some (.int .i64 0) := kp_cell hk1 (by simp [go_sem]); have d1 : w'.cell? ⟨w.heap.size + 1 + 1, 1, none⟩ = some (.int .i64 0) := kp_cell hk1 (by simp [go_sem]); have f0 : w'.frozen? ⟨w.heap.size + 1 + 1, 0, none⟩ = false := kp_froz (v := .int .i64 0) hk1 (by simp [go_sem]) (by simp [go_sem]); have f1 : w'.frozen? ⟨w.heap.size + 1 + 1, 1, none⟩ = false := kp_froz (v := .int .i64 0) hk1 (by simp [go_sem]) (by simp [go_sem]); obtain ⟨hc1, hf1, hz1⟩ := kp_all hk1; clear hz1)
        | (go_at_call 28; refine (valid_any _ _ _).mono ?_; rintro e w2 ⟨rfl, hk2⟩; have d2 : w2.cell? ⟨w.heap.size + 1 + 1, 0, none⟩ = some (.int .i64 0) := kp_cell hk2 (cell_a d0 _); have d3 : w2.cell? ⟨w.heap.size + 1 + 1, 1, none⟩ = some (.int .i64 0) := kp_cell hk2 (cell_a d1 _); have f2 : w2.frozen? ⟨w.heap.size + 1 + 1, 0, none⟩ = false := kp_froz hk2 (cell_a d0 _) (froz_a d0 f0 _); have f3 : w2.frozen? ⟨w.heap.size + 1 + 1, 1, none⟩ = false := kp_froz hk2 (cell_a d1 _) (froz_a d1 f1 _); have q0 : w2.cell? ⟨w'.heap.size, 0, none⟩ = some (.int .i64 (ax + bx)) := kp_cell hk2 (by simp [go_sem]); have q1 : w2.cell? ⟨w'.heap.size, 1, none⟩ = some (.int .i64 (ay + bY)) := kp_cell hk2 (by simp [go_sem])))
      refine bodyPost_ret (v := .tuple #[pv (ax + bx) (ay + bY), .int .i64 0]) (by simp [results, Try.results18, go_sem, d2, d3]) rfl ⟨ret_mv (p := (ax + bx, ay + bY)) H1.out.symm H2.out.symm, ?_⟩
      exact kp_set (kp_set (kp_trans (kp_alloc (kp_trans (by repeat (first | exact kp_refl _ | apply kp_alloc)) hk1) _) hk2) (Nat.le_add_right _ 2) _) (Nat.le_add_right _ 2) _
end Go.Proofs.Ytcelipgokpnmfaa
