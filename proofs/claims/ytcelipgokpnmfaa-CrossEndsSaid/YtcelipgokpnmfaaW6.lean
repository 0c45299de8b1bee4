/- Contracts: Turn, between, On. -/
import Derived.Test.YtcelipgokpnmfaaW3
import Derived.Test.YtcelipgokpnmfaaW5
namespace Go.Proofs.Ytcelipgokpnmfaa
open Go.RowKit Go.Proofs.Geo

theorem valid3 (b : Nat) (p q r : Pt) (w : World) (h0 : w.cell? ⟨b, 0, none⟩ = some (.int .i64 p.1)) (h1 : w.cell? ⟨b, 1, none⟩ = some (.int .i64 p.2)) (h2 : w.cell? ⟨b, 2, none⟩ = some (.int .i64 q.1))
    (h3 : w.cell? ⟨b, 3, none⟩ = some (.int .i64 q.2)) (h4 : w.cell? ⟨b, 4, none⟩ = some (.int .i64 r.1)) (h5 : w.cell? ⟨b, 5, none⟩ = some (.int .i64 r.2)) :
    Calls Try.prog 29 #[.slice (some ⟨b, 0, none⟩) 3 3] w fun e w' => e = .returned (.bool (okP p && okP q && okP r)) ∧ Kp w w' := by
  refine (valids_any b 0 3 [p, q, r] w (by simp) ?_).mono ?_
  · intro i hi
    match i, hi with
    | 0, _ => exact ⟨h0, h1⟩
    | 1, _ => exact ⟨h2, h3⟩
    | 2, _ => exact ⟨h4, h5⟩
  · rintro e w' ⟨rfl, hk⟩
    exact ⟨ret_bool (by simp [Bool.and_assoc]), hk⟩
theorem valid2 (b : Nat) (p q : Pt) (w : World) (h0 : w.cell? ⟨b, 0, none⟩ = some (.int .i64 p.1)) (h1 : w.cell? ⟨b, 1, none⟩ = some (.int .i64 p.2)) (h2 : w.cell? ⟨b, 2, none⟩ = some (.int .i64 q.1))
    (h3 : w.cell? ⟨b, 3, none⟩ = some (.int .i64 q.2)) :
    Calls Try.prog 29 #[.slice (some ⟨b, 0, none⟩) 2 2] w fun e w' => e = .returned (.bool (okP p && okP q)) ∧ Kp w w' := by
  refine (valids_any b 0 2 [p, q] w (by simp) ?_).mono ?_
  · intro i hi
    match i, hi with
    | 0, _ => exact ⟨h0, h1⟩
    | 1, _ => exact ⟨h2, h3⟩
  · rintro e w' ⟨rfl, hk⟩
    exact ⟨ret_bool (by simp), hk⟩

theorem turn_no {a b c : Pt} (h : (okP a && okP b && okP c) = false) : turn a b c = 0 := by simp [turn, h]
theorem turn_dif {ax ay bx bY cx cy : Int} (h : (okP (ax, ay) && okP (bx, bY) && okP (cx, cy)) = true) : dif (bx - ax) (cy - ay) (bY - ay) (cx - ax) = turn (ax, ay) (bx, bY) (cx, cy) := by
  simp only [turn, h, if_true]; rfl

set_option maxHeartbeats 1000000 in
theorem turn_any (ax ay bx bY cx cy : Int) (w : World) : Calls Try.prog 21 #[pv ax ay, pv bx bY, pv cx cy] w fun e w' =>
    e = .returned (.int .i64 (turn (ax, ay) (bx, bY) (cx, cy))) ∧ Kp w w' := by
  cases h : (okP (ax, ay) && okP (bx, bY) && okP (cx, cy))
  · have H := Lib.hid (turn_no h)
    go_enter Try.func21, Try.ntmps21
    go_wp2_with (go_at_call 29; refine (valid3 _ (ax, ay) (bx, bY) (cx, cy) _ ?_ ?_ ?_ ?_ ?_ ?_).mono ?_; (iterate 6 (focus (simp [go_sem]))); rintro e w' ⟨rfl, hk1⟩)
    go_ret
    exact ⟨ret_int H.out.symm, by repeat (first | assumption | exact kp_refl _ | apply kp_drew | apply kp_alloc | refine kp_trans ?_ hk1)⟩
  · have H := Lib.hid (turn_dif h)
    have h' := h
    simp only [Bool.and_eq_true, okP_iff] at h'
    obtain ⟨⟨⟨⟨a1, a2⟩, a3, a4⟩, ⟨b1, b2⟩, b3, b4⟩, ⟨c1, c2⟩, c3, c4⟩ := h'
    have i1 := Lib.hid (show I64 (bx - ax) from ⟨by omega, by omega⟩)
    have i2 := Lib.hid (show I64 (cy - ay) from ⟨by omega, by omega⟩)
    have i3 := Lib.hid (show I64 (bY - ay) from ⟨by omega, by omega⟩)
    have i4 := Lib.hid (show I64 (cx - ax) from ⟨by omega, by omega⟩)
    go_enter Try.func21, Try.ntmps21
    go_wp2_with (first
      | (go_at_call 29; refine (valid3 _ (ax, ay) (bx, bY) (cx, cy) _ ?_ ?_ ?_ ?_ ?_ ?_).mono ?_; (iterate 6 (focus (simp [go_sem]))); rintro e w' ⟨rfl, hk1⟩; have c1 : w'.cell? ⟨w.heap.size, 0, none⟩ = some (.int .i64 ax) := kp_cell hk1 (by simp [go_sem]); have c2 : w'.cell? ⟨w.heap.size, 1, none⟩ = some (.int .i64 ay) := kp_cell hk1 (by simp [go_sem]); have c3 : w'.cell? ⟨w.heap.size + 1, 0, none⟩ = some (.int .i64 bx) := kp_cell hk1 (by simp [go_sem]); have c4 : w'.cell? ⟨w.heap.size + 1, 1, none⟩ = some (.int .i64 bY) := kp_cell hk1 (by simp [go_sem]); have c5 : w'.cell? ⟨w.heap.size + 1 + 1, 0, none⟩ = some (.int .i64 cx) := kp_cell hk1 (by simp [go_sem]); have c6 : w'.cell? ⟨w.heap.size + 1 + 1, 1, none⟩ = some (.int .i64 cy) := kp_cell hk1 (by simp [go_sem]))
      | (go_at_call 32; refine (wsign_any _ _ _ _ i1.out i2.out i3.out i4.out _).mono ?_; rintro e w' ⟨rfl, hk5⟩))
    go_ret
    exact ⟨ret_int H.out, by repeat (first | exact kp_refl _ | apply kp_drew | apply kp_alloc | refine kp_trans ?_ hk5 | refine kp_trans ?_ hk1)⟩
end Go.Proofs.Ytcelipgokpnmfaa
