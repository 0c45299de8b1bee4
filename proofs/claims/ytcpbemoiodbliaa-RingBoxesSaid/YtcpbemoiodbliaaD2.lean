/- Contracts of the reference's segments: Ends. -/
import Derived.Test.YtcpbemoiodbliaaD1
import Derived.Test.YtcpbemoiodbliaaMW
import Derived.Maps.AppendAt
import Derived.Laws.OwnMore
import Derived.Deep.DeepCutAuto
import Derived.Deep.RegionHeld3
import Derived.BigRegion
import Derived.RegionTactic
namespace Go.Proofs.Ytcpbemoiodbliaa
open Go.RowKit Go.Proofs.Geo

/-- The ends one by one: i of them looked at. -/
def refE (F : Nat → Bool) (P : Nat → Pt) : Nat → List Pt
  | 0 => []
  | i + 1 => if F i && decide (P i ∉ refE F P i) then refE F P i ++ [P i] else refE F P i
theorem refE_succ (F : Nat → Bool) (P : Nat → Pt) (i : Nat) : refE F P (i + 1) = if F i && decide (P i ∉ refE F P i) then refE F P i ++ [P i] else refE F P i := rfl
theorem refE_len (F : Nat → Bool) (P : Nat → Pt) (i : Nat) : (refE F P i).length ≤ i := by
  induction i with
  | zero => simp [refE]
  | succ i ih => rw [refE_succ]; split <;> (try simp) <;> omega
def endP (a b c d : Pt) (i : Nat) : Pt := if i = 0 then a else if i = 1 then b else if i = 2 then c else d
def endF (a b c d : Pt) (i : Nat) : Bool := if i ≤ 1 then onS (endP a b c d i) c d else onS (endP a b c d i) a b
theorem refE_ends (a b c d : Pt) (h1 : may a b = true) (h2 : may c d = true) : refE (endF a b c d) (endP a b c d) 4 = ends a b c d := by
  unfold ends onL
  rw [h1, h2]
  simp only [refE, endF, endP, Nat.reduceLeDiff, if_true, if_false, Nat.reduceEqDiff, List.filter, Bool.and_self]
  cases onS a c d <;> cases onS b c d <;> cases onS c a b <;> cases onS d a b <;> first | rfl | simp [gather]
theorem endP_get (a b c d : Pt) (i : Nat) (h : i < [a, b, c, d].length) : [a, b, c, d][i] = endP a b c d i := by
  match i, h with
  | 0, _ => rfl
  | 1, _ => rfl
  | 2, _ => rfl
  | 3, _ => rfl
theorem refE_yes {F : Nat → Bool} {P : Nat → Pt} {i : Nat} {L : List Pt} {p : Pt} (hL : refE F P i = L) (hP : P i = p) (h : (F i && !decide (p ∈ L)) = true) : refE F P (i + 1) = L ++ [p] := by
  subst hL hP; rw [refE_succ, if_pos]; simpa using h
theorem refE_no {F : Nat → Bool} {P : Nat → Pt} {i : Nat} {L : List Pt} {p : Pt} (hL : refE F P i = L) (hP : P i = p) (h : (F i && !decide (p ∈ L)) = false) : refE F P (i + 1) = L := by
  subst hL hP; rw [refE_succ, if_neg]; rw [Bool.not_eq_true, ← h]; simp
theorem in_take (p : Pt) (L : List Pt) (k : Nat) (h : k < L.length) : decide (p ∈ L.take (k + 1)) = (decide (p ∈ L.take k) || decide (p = L[k])) := by
  rw [List.take_succ_eq_append_getElem h, Bool.eq_iff_iff, Bool.or_eq_true, decide_eq_true_iff, decide_eq_true_iff, decide_eq_true_iff, List.mem_append, List.mem_singleton]

theorem ends_no {a b c d : Pt} (h : (may a b && may c d) = false) : ends a b c d = [] := by unfold ends; rw [h]; rfl
set_option maxHeartbeats 8000000 in
set_option maxRecDepth 100000 in
theorem rends_no (ax ay bx bY cx cy dx dy : Int) (h : (may (ax, ay) (bx, bY) && may (cx, cy) (dx, dy)) = false) (w : World) : Calls Try.prog 78 #[pv ax ay, pv bx bY, pv cx cy, pv dx dy] w (OwnEnd w (ends (ax, ay) (bx, bY) (cx, cy) (dx, dy))) := by
  rw [ends_no h]
  cases h1 : may (ax, ay) (bx, bY)
  · skip
    clear h
    go_enter Try.func78, Try.ntmps78
    go_upto_region 1 with fail
    obtain ⟨W, hW⟩ : ∃ W, ((((w.alloc (.cells #[.int .i64 ax, .int .i64 ay] 25)).alloc (.cells #[.int .i64 bx, .int .i64 bY] 25)).alloc (.cells #[.int .i64 cx, .int .i64 cy] 25)).alloc (.cells #[.int .i64 dx, .int .i64 dy] 25)) = W := ⟨_, rfl⟩
    have c0_0 : W.cell? ⟨w.heap.size, 0, none⟩ = some (.int .i64 ax) := by rw [← hW]; simp [go_sem]
    have c0_1 : W.cell? ⟨w.heap.size, 1, none⟩ = some (.int .i64 ay) := by rw [← hW]; simp [go_sem]
    have c1_0 : W.cell? ⟨w.heap.size + 1, 0, none⟩ = some (.int .i64 bx) := by rw [← hW]; simp [go_sem]
    have c1_1 : W.cell? ⟨w.heap.size + 1, 1, none⟩ = some (.int .i64 bY) := by rw [← hW]; simp [go_sem]
    have c2_0 : W.cell? ⟨w.heap.size + 1 + 1, 0, none⟩ = some (.int .i64 cx) := by rw [← hW]; simp [go_sem]
    have c2_1 : W.cell? ⟨w.heap.size + 1 + 1, 1, none⟩ = some (.int .i64 cy) := by rw [← hW]; simp [go_sem]
    have c3_0 : W.cell? ⟨w.heap.size + 1 + 1 + 1, 0, none⟩ = some (.int .i64 dx) := by rw [← hW]; simp [go_sem]
    have c3_1 : W.cell? ⟨w.heap.size + 1 + 1 + 1, 1, none⟩ = some (.int .i64 dy) := by rw [← hW]; simp [go_sem]
    have K : Kp w W := by rw [← hW]; exact kp_alloc (kp_alloc (kp_alloc (kp_alloc (kp_refl _) _) _) _) _
    have l0_0 : w.heap.size < W.heap.size := cell_lt c0_0
    have l1_0 : w.heap.size + 1 < W.heap.size := cell_lt c1_0
    have l2_0 : w.heap.size + 1 + 1 < W.heap.size := cell_lt c2_0
    have l3_0 : w.heap.size + 1 + 1 + 1 < W.heap.size := cell_lt c3_0
    rw [hW]; clear hW
    go_wp2_with (first
      | (go_at_call_of 77 (Value.agg #[Value.int .i64 ax, Value.int .i64 ay]); refine (rmay_any _ _ _ _ _).mono ?_; rintro e w2 ⟨rfl, hk⟩; replace c0_0 : w2.cell? ⟨w.heap.size, 0, none⟩ = some (.int .i64 ax) := kp_cell hk (by first | exact c0_0 | exact cell_a c0_0 _ | exact cell_a (cell_a c0_0 _) _ | exact cell_a (cell_a (cell_a c0_0 _) _) _); replace c0_1 : w2.cell? ⟨w.heap.size, 1, none⟩ = some (.int .i64 ay) := kp_cell hk (by first | exact c0_1 | exact cell_a c0_1 _ | exact cell_a (cell_a c0_1 _) _ | exact cell_a (cell_a (cell_a c0_1 _) _) _); replace c1_0 : w2.cell? ⟨w.heap.size + 1, 0, none⟩ = some (.int .i64 bx) := kp_cell hk (by first | exact c1_0 | exact cell_a c1_0 _ | exact cell_a (cell_a c1_0 _) _ | exact cell_a (cell_a (cell_a c1_0 _) _) _); replace c1_1 : w2.cell? ⟨w.heap.size + 1, 1, none⟩ = some (.int .i64 bY) := kp_cell hk (by first | exact c1_1 | exact cell_a c1_1 _ | exact cell_a (cell_a c1_1 _) _ | exact cell_a (cell_a (cell_a c1_1 _) _) _); replace c2_0 : w2.cell? ⟨w.heap.size + 1 + 1, 0, none⟩ = some (.int .i64 cx) := kp_cell hk (by first | exact c2_0 | exact cell_a c2_0 _ | exact cell_a (cell_a c2_0 _) _ | exact cell_a (cell_a (cell_a c2_0 _) _) _); replace c2_1 : w2.cell? ⟨w.heap.size + 1 + 1, 1, none⟩ = some (.int .i64 cy) := kp_cell hk (by first | exact c2_1 | exact cell_a c2_1 _ | exact cell_a (cell_a c2_1 _) _ | exact cell_a (cell_a (cell_a c2_1 _) _) _); replace c3_0 : w2.cell? ⟨w.heap.size + 1 + 1 + 1, 0, none⟩ = some (.int .i64 dx) := kp_cell hk (by first | exact c3_0 | exact cell_a c3_0 _ | exact cell_a (cell_a c3_0 _) _ | exact cell_a (cell_a (cell_a c3_0 _) _) _); replace c3_1 : w2.cell? ⟨w.heap.size + 1 + 1 + 1, 1, none⟩ = some (.int .i64 dy) := kp_cell hk (by first | exact c3_1 | exact cell_a c3_1 _ | exact cell_a (cell_a c3_1 _) _ | exact cell_a (cell_a (cell_a c3_1 _) _) _); replace K : Kp w w2 := kp_trans (by repeat (first | exact K | apply kp_alloc | apply kp_drew | apply kp_drewN)) hk; replace l0_0 : w.heap.size < w2.heap.size := cell_lt c0_0; replace l1_0 : w.heap.size + 1 < w2.heap.size := cell_lt c1_0; replace l2_0 : w.heap.size + 1 + 1 < w2.heap.size := cell_lt c2_0; replace l3_0 : w.heap.size + 1 + 1 + 1 < w2.heap.size := cell_lt c3_0; clear hk)
      | (go_at_call_of 77 (Value.agg #[Value.int .i64 cx, Value.int .i64 cy]); refine (rmay_any _ _ _ _ _).mono ?_; rintro e w3 ⟨rfl, hk⟩; replace c0_0 : w3.cell? ⟨w.heap.size, 0, none⟩ = some (.int .i64 ax) := kp_cell hk (by first | exact c0_0 | exact cell_a c0_0 _ | exact cell_a (cell_a c0_0 _) _ | exact cell_a (cell_a (cell_a c0_0 _) _) _); replace c0_1 : w3.cell? ⟨w.heap.size, 1, none⟩ = some (.int .i64 ay) := kp_cell hk (by first | exact c0_1 | exact cell_a c0_1 _ | exact cell_a (cell_a c0_1 _) _ | exact cell_a (cell_a (cell_a c0_1 _) _) _); replace c1_0 : w3.cell? ⟨w.heap.size + 1, 0, none⟩ = some (.int .i64 bx) := kp_cell hk (by first | exact c1_0 | exact cell_a c1_0 _ | exact cell_a (cell_a c1_0 _) _ | exact cell_a (cell_a (cell_a c1_0 _) _) _); replace c1_1 : w3.cell? ⟨w.heap.size + 1, 1, none⟩ = some (.int .i64 bY) := kp_cell hk (by first | exact c1_1 | exact cell_a c1_1 _ | exact cell_a (cell_a c1_1 _) _ | exact cell_a (cell_a (cell_a c1_1 _) _) _); replace c2_0 : w3.cell? ⟨w.heap.size + 1 + 1, 0, none⟩ = some (.int .i64 cx) := kp_cell hk (by first | exact c2_0 | exact cell_a c2_0 _ | exact cell_a (cell_a c2_0 _) _ | exact cell_a (cell_a (cell_a c2_0 _) _) _); replace c2_1 : w3.cell? ⟨w.heap.size + 1 + 1, 1, none⟩ = some (.int .i64 cy) := kp_cell hk (by first | exact c2_1 | exact cell_a c2_1 _ | exact cell_a (cell_a c2_1 _) _ | exact cell_a (cell_a (cell_a c2_1 _) _) _); replace c3_0 : w3.cell? ⟨w.heap.size + 1 + 1 + 1, 0, none⟩ = some (.int .i64 dx) := kp_cell hk (by first | exact c3_0 | exact cell_a c3_0 _ | exact cell_a (cell_a c3_0 _) _ | exact cell_a (cell_a (cell_a c3_0 _) _) _); replace c3_1 : w3.cell? ⟨w.heap.size + 1 + 1 + 1, 1, none⟩ = some (.int .i64 dy) := kp_cell hk (by first | exact c3_1 | exact cell_a c3_1 _ | exact cell_a (cell_a c3_1 _) _ | exact cell_a (cell_a (cell_a c3_1 _) _) _); replace K : Kp w w3 := kp_trans (by repeat (first | exact K | apply kp_alloc | apply kp_drew | apply kp_drewN)) hk; replace l0_0 : w.heap.size < w3.heap.size := cell_lt c0_0; replace l1_0 : w.heap.size + 1 < w3.heap.size := cell_lt c1_0; replace l2_0 : w.heap.size + 1 + 1 < w3.heap.size := cell_lt c2_0; replace l3_0 : w.heap.size + 1 + 1 + 1 < w3.heap.size := cell_lt c3_0; clear hk))
    go_ret
    exact ⟨_, rfl, OwnP.nil _ _, K⟩
  · have h2 : may (cx, cy) (dx, dy) = false := by rw [h1] at h; exact h
    clear h
    go_enter Try.func78, Try.ntmps78
    go_upto_region 1 with fail
    obtain ⟨W, hW⟩ : ∃ W, ((((w.alloc (.cells #[.int .i64 ax, .int .i64 ay] 25)).alloc (.cells #[.int .i64 bx, .int .i64 bY] 25)).alloc (.cells #[.int .i64 cx, .int .i64 cy] 25)).alloc (.cells #[.int .i64 dx, .int .i64 dy] 25)) = W := ⟨_, rfl⟩
    have c0_0 : W.cell? ⟨w.heap.size, 0, none⟩ = some (.int .i64 ax) := by rw [← hW]; simp [go_sem]
    have c0_1 : W.cell? ⟨w.heap.size, 1, none⟩ = some (.int .i64 ay) := by rw [← hW]; simp [go_sem]
    have c1_0 : W.cell? ⟨w.heap.size + 1, 0, none⟩ = some (.int .i64 bx) := by rw [← hW]; simp [go_sem]
    have c1_1 : W.cell? ⟨w.heap.size + 1, 1, none⟩ = some (.int .i64 bY) := by rw [← hW]; simp [go_sem]
    have c2_0 : W.cell? ⟨w.heap.size + 1 + 1, 0, none⟩ = some (.int .i64 cx) := by rw [← hW]; simp [go_sem]
    have c2_1 : W.cell? ⟨w.heap.size + 1 + 1, 1, none⟩ = some (.int .i64 cy) := by rw [← hW]; simp [go_sem]
    have c3_0 : W.cell? ⟨w.heap.size + 1 + 1 + 1, 0, none⟩ = some (.int .i64 dx) := by rw [← hW]; simp [go_sem]
    have c3_1 : W.cell? ⟨w.heap.size + 1 + 1 + 1, 1, none⟩ = some (.int .i64 dy) := by rw [← hW]; simp [go_sem]
    have K : Kp w W := by rw [← hW]; exact kp_alloc (kp_alloc (kp_alloc (kp_alloc (kp_refl _) _) _) _) _
    have l0_0 : w.heap.size < W.heap.size := cell_lt c0_0
    have l1_0 : w.heap.size + 1 < W.heap.size := cell_lt c1_0
    have l2_0 : w.heap.size + 1 + 1 < W.heap.size := cell_lt c2_0
    have l3_0 : w.heap.size + 1 + 1 + 1 < W.heap.size := cell_lt c3_0
    rw [hW]; clear hW
    go_wp2_with (first
      | (go_at_call_of 77 (Value.agg #[Value.int .i64 ax, Value.int .i64 ay]); refine (rmay_any _ _ _ _ _).mono ?_; rintro e w2 ⟨rfl, hk⟩; replace c0_0 : w2.cell? ⟨w.heap.size, 0, none⟩ = some (.int .i64 ax) := kp_cell hk (by first | exact c0_0 | exact cell_a c0_0 _ | exact cell_a (cell_a c0_0 _) _ | exact cell_a (cell_a (cell_a c0_0 _) _) _); replace c0_1 : w2.cell? ⟨w.heap.size, 1, none⟩ = some (.int .i64 ay) := kp_cell hk (by first | exact c0_1 | exact cell_a c0_1 _ | exact cell_a (cell_a c0_1 _) _ | exact cell_a (cell_a (cell_a c0_1 _) _) _); replace c1_0 : w2.cell? ⟨w.heap.size + 1, 0, none⟩ = some (.int .i64 bx) := kp_cell hk (by first | exact c1_0 | exact cell_a c1_0 _ | exact cell_a (cell_a c1_0 _) _ | exact cell_a (cell_a (cell_a c1_0 _) _) _); replace c1_1 : w2.cell? ⟨w.heap.size + 1, 1, none⟩ = some (.int .i64 bY) := kp_cell hk (by first | exact c1_1 | exact cell_a c1_1 _ | exact cell_a (cell_a c1_1 _) _ | exact cell_a (cell_a (cell_a c1_1 _) _) _); replace c2_0 : w2.cell? ⟨w.heap.size + 1 + 1, 0, none⟩ = some (.int .i64 cx) := kp_cell hk (by first | exact c2_0 | exact cell_a c2_0 _ | exact cell_a (cell_a c2_0 _) _ | exact cell_a (cell_a (cell_a c2_0 _) _) _); replace c2_1 : w2.cell? ⟨w.heap.size + 1 + 1, 1, none⟩ = some (.int .i64 cy) := kp_cell hk (by first | exact c2_1 | exact cell_a c2_1 _ | exact cell_a (cell_a c2_1 _) _ | exact cell_a (cell_a (cell_a c2_1 _) _) _); replace c3_0 : w2.cell? ⟨w.heap.size + 1 + 1 + 1, 0, none⟩ = some (.int .i64 dx) := kp_cell hk (by first | exact c3_0 | exact cell_a c3_0 _ | exact cell_a (cell_a c3_0 _) _ | exact cell_a (cell_a (cell_a c3_0 _) _) _); replace c3_1 : w2.cell? ⟨w.heap.size + 1 + 1 + 1, 1, none⟩ = some (.int .i64 dy) := kp_cell hk (by first | exact c3_1 | exact cell_a c3_1 _ | exact cell_a (cell_a c3_1 _) _ | exact cell_a (cell_a (cell_a c3_1 _) _) _); replace K : Kp w w2 := kp_trans (by repeat (first | exact K | apply kp_alloc | apply kp_drew | apply kp_drewN)) hk; replace l0_0 : w.heap.size < w2.heap.size := cell_lt c0_0; replace l1_0 : w.heap.size + 1 < w2.heap.size := cell_lt c1_0; replace l2_0 : w.heap.size + 1 + 1 < w2.heap.size := cell_lt c2_0; replace l3_0 : w.heap.size + 1 + 1 + 1 < w2.heap.size := cell_lt c3_0; clear hk)
      | (go_at_call_of 77 (Value.agg #[Value.int .i64 cx, Value.int .i64 cy]); refine (rmay_any _ _ _ _ _).mono ?_; rintro e w3 ⟨rfl, hk⟩; replace c0_0 : w3.cell? ⟨w.heap.size, 0, none⟩ = some (.int .i64 ax) := kp_cell hk (by first | exact c0_0 | exact cell_a c0_0 _ | exact cell_a (cell_a c0_0 _) _ | exact cell_a (cell_a (cell_a c0_0 _) _) _); replace c0_1 : w3.cell? ⟨w.heap.size, 1, none⟩ = some (.int .i64 ay) := kp_cell hk (by first | exact c0_1 | exact cell_a c0_1 _ | exact cell_a (cell_a c0_1 _) _ | exact cell_a (cell_a (cell_a c0_1 _) _) _); replace c1_0 : w3.cell? ⟨w.heap.size + 1, 0, none⟩ = some (.int .i64 bx) := kp_cell hk (by first | exact c1_0 | exact cell_a c1_0 _ | exact cell_a (cell_a c1_0 _) _ | exact cell_a (cell_a (cell_a c1_0 _) _) _); replace c1_1 : w3.cell? ⟨w.heap.size + 1, 1, none⟩ = some (.int .i64 bY) := kp_cell hk (by first | exact c1_1 | exact cell_a c1_1 _ | exact cell_a (cell_a c1_1 _) _ | exact cell_a (cell_a (cell_a c1_1 _) _) _); replace c2_0 : w3.cell? ⟨w.heap.size + 1 + 1, 0, none⟩ = some (.int .i64 cx) := kp_cell hk (by first | exact c2_0 | exact cell_a c2_0 _ | exact cell_a (cell_a c2_0 _) _ | exact cell_a (cell_a (cell_a c2_0 _) _) _); replace c2_1 : w3.cell? ⟨w.heap.size + 1 + 1, 1, none⟩ = some (.int .i64 cy) := kp_cell hk (by first | exact c2_1 | exact cell_a c2_1 _ | exact cell_a (cell_a c2_1 _) _ | exact cell_a (cell_a (cell_a c2_1 _) _) _); replace c3_0 : w3.cell? ⟨w.heap.size + 1 + 1 + 1, 0, none⟩ = some (.int .i64 dx) := kp_cell hk (by first | exact c3_0 | exact cell_a c3_0 _ | exact cell_a (cell_a c3_0 _) _ | exact cell_a (cell_a (cell_a c3_0 _) _) _); replace c3_1 : w3.cell? ⟨w.heap.size + 1 + 1 + 1, 1, none⟩ = some (.int .i64 dy) := kp_cell hk (by first | exact c3_1 | exact cell_a c3_1 _ | exact cell_a (cell_a c3_1 _) _ | exact cell_a (cell_a (cell_a c3_1 _) _) _); replace K : Kp w w3 := kp_trans (by repeat (first | exact K | apply kp_alloc | apply kp_drew | apply kp_drewN)) hk; replace l0_0 : w.heap.size < w3.heap.size := cell_lt c0_0; replace l1_0 : w.heap.size + 1 < w3.heap.size := cell_lt c1_0; replace l2_0 : w.heap.size + 1 + 1 < w3.heap.size := cell_lt c2_0; replace l3_0 : w.heap.size + 1 + 1 + 1 < w3.heap.size := cell_lt c3_0; clear hk))
    go_ret
    exact ⟨_, rfl, OwnP.nil _ _, K⟩
set_option maxHeartbeats 8000000 in
set_option maxRecDepth 100000 in
theorem rends_yes (ax ay bx bY cx cy dx dy : Int) (h1 : may (ax, ay) (bx, bY) = true) (h2 : may (cx, cy) (dx, dy) = true) (w : World) : Calls Try.prog 78 #[pv ax ay, pv bx bY, pv cx cy, pv dx dy] w (OwnEnd w (ends (ax, ay) (bx, bY) (cx, cy) (dx, dy))) := by
  obtain ⟨i0, hi, hz0, hz1, hz2⟩ := info_parts infoPt
  have HI := Lib.hid hi; have HZ0 := Lib.hid hz0; have HZ1 := Lib.hid hz1; have HZ2 := Lib.hid hz2; clear hi hz0 hz1 hz2
  have HE := Lib.hid (refE_ends (ax, ay) (bx, bY) (cx, cy) (dx, dy) h1 h2)
  have HP : ∀ i (h : i < [((ax, ay) : Pt), (bx, bY), (cx, cy), (dx, dy)].length), _ := endP_get (ax, ay) (bx, bY) (cx, cy) (dx, dy)
  have HP := Lib.hid HP
  have HF : ∀ i, endF (ax, ay) (bx, bY) (cx, cy) (dx, dy) i = _ := fun i => rfl
  have HF := Lib.hid HF
  generalize hEF : endF (ax, ay) (bx, bY) (cx, cy) (dx, dy) = F at *
  generalize hEP : endP (ax, ay) (bx, bY) (cx, cy) (dx, dy) = P at *
  have HEF := Lib.hid hEF
  have HEP := Lib.hid hEP
  clear hEF hEP
  go_enter Try.func78, Try.ntmps78
  go_upto_region 1 with fail
  obtain ⟨W0, hW⟩ : ∃ W0, ((((w.alloc (.cells #[.int .i64 ax, .int .i64 ay] 25)).alloc (.cells #[.int .i64 bx, .int .i64 bY] 25)).alloc (.cells #[.int .i64 cx, .int .i64 cy] 25)).alloc (.cells #[.int .i64 dx, .int .i64 dy] 25)) = W0 := ⟨_, rfl⟩
  have c0_0 : W0.cell? ⟨w.heap.size, 0, none⟩ = some (.int .i64 ax) := by rw [← hW]; simp [go_sem]
  have c0_1 : W0.cell? ⟨w.heap.size, 1, none⟩ = some (.int .i64 ay) := by rw [← hW]; simp [go_sem]
  have c1_0 : W0.cell? ⟨w.heap.size + 1, 0, none⟩ = some (.int .i64 bx) := by rw [← hW]; simp [go_sem]
  have c1_1 : W0.cell? ⟨w.heap.size + 1, 1, none⟩ = some (.int .i64 bY) := by rw [← hW]; simp [go_sem]
  have c2_0 : W0.cell? ⟨w.heap.size + 1 + 1, 0, none⟩ = some (.int .i64 cx) := by rw [← hW]; simp [go_sem]
  have c2_1 : W0.cell? ⟨w.heap.size + 1 + 1, 1, none⟩ = some (.int .i64 cy) := by rw [← hW]; simp [go_sem]
  have c3_0 : W0.cell? ⟨w.heap.size + 1 + 1 + 1, 0, none⟩ = some (.int .i64 dx) := by rw [← hW]; simp [go_sem]
  have c3_1 : W0.cell? ⟨w.heap.size + 1 + 1 + 1, 1, none⟩ = some (.int .i64 dy) := by rw [← hW]; simp [go_sem]
  have K : Kp w W0 := by rw [← hW]; exact kp_alloc (kp_alloc (kp_alloc (kp_alloc (kp_refl _) _) _) _) _
  have l0_0 : w.heap.size < W0.heap.size := cell_lt c0_0
  have l1_0 : w.heap.size + 1 < W0.heap.size := cell_lt c1_0
  have l2_0 : w.heap.size + 1 + 1 < W0.heap.size := cell_lt c2_0
  have l3_0 : w.heap.size + 1 + 1 + 1 < W0.heap.size := cell_lt c3_0
  rw [hW]; clear hW
  go_upto_region 4 with (first
    | (go_at_call_of 77 (Value.agg #[Value.int .i64 ax, Value.int .i64 ay]); refine (rmay_any _ _ _ _ _).mono ?_; rintro e w2 ⟨rfl, hk⟩; replace c0_0 : w2.cell? ⟨w.heap.size, 0, none⟩ = some (.int .i64 ax) := kp_cell hk (by first | exact c0_0 | exact cell_a c0_0 _ | exact cell_a (cell_a c0_0 _) _ | exact cell_a (cell_a (cell_a c0_0 _) _) _); replace c0_1 : w2.cell? ⟨w.heap.size, 1, none⟩ = some (.int .i64 ay) := kp_cell hk (by first | exact c0_1 | exact cell_a c0_1 _ | exact cell_a (cell_a c0_1 _) _ | exact cell_a (cell_a (cell_a c0_1 _) _) _); replace c1_0 : w2.cell? ⟨w.heap.size + 1, 0, none⟩ = some (.int .i64 bx) := kp_cell hk (by first | exact c1_0 | exact cell_a c1_0 _ | exact cell_a (cell_a c1_0 _) _ | exact cell_a (cell_a (cell_a c1_0 _) _) _); replace c1_1 : w2.cell? ⟨w.heap.size + 1, 1, none⟩ = some (.int .i64 bY) := kp_cell hk (by first | exact c1_1 | exact cell_a c1_1 _ | exact cell_a (cell_a c1_1 _) _ | exact cell_a (cell_a (cell_a c1_1 _) _) _); replace c2_0 : w2.cell? ⟨w.heap.size + 1 + 1, 0, none⟩ = some (.int .i64 cx) := kp_cell hk (by first | exact c2_0 | exact cell_a c2_0 _ | exact cell_a (cell_a c2_0 _) _ | exact cell_a (cell_a (cell_a c2_0 _) _) _); replace c2_1 : w2.cell? ⟨w.heap.size + 1 + 1, 1, none⟩ = some (.int .i64 cy) := kp_cell hk (by first | exact c2_1 | exact cell_a c2_1 _ | exact cell_a (cell_a c2_1 _) _ | exact cell_a (cell_a (cell_a c2_1 _) _) _); replace c3_0 : w2.cell? ⟨w.heap.size + 1 + 1 + 1, 0, none⟩ = some (.int .i64 dx) := kp_cell hk (by first | exact c3_0 | exact cell_a c3_0 _ | exact cell_a (cell_a c3_0 _) _ | exact cell_a (cell_a (cell_a c3_0 _) _) _); replace c3_1 : w2.cell? ⟨w.heap.size + 1 + 1 + 1, 1, none⟩ = some (.int .i64 dy) := kp_cell hk (by first | exact c3_1 | exact cell_a c3_1 _ | exact cell_a (cell_a c3_1 _) _ | exact cell_a (cell_a (cell_a c3_1 _) _) _); replace K : Kp w w2 := kp_trans (by repeat (first | exact K | apply kp_alloc | apply kp_drew | apply kp_drewN)) hk; replace l0_0 : w.heap.size < w2.heap.size := cell_lt c0_0; replace l1_0 : w.heap.size + 1 < w2.heap.size := cell_lt c1_0; replace l2_0 : w.heap.size + 1 + 1 < w2.heap.size := cell_lt c2_0; replace l3_0 : w.heap.size + 1 + 1 + 1 < w2.heap.size := cell_lt c3_0; clear hk)
    | (go_at_call_of 77 (Value.agg #[Value.int .i64 cx, Value.int .i64 cy]); refine (rmay_any _ _ _ _ _).mono ?_; rintro e w3 ⟨rfl, hk⟩; replace c0_0 : w3.cell? ⟨w.heap.size, 0, none⟩ = some (.int .i64 ax) := kp_cell hk (by first | exact c0_0 | exact cell_a c0_0 _ | exact cell_a (cell_a c0_0 _) _ | exact cell_a (cell_a (cell_a c0_0 _) _) _); replace c0_1 : w3.cell? ⟨w.heap.size, 1, none⟩ = some (.int .i64 ay) := kp_cell hk (by first | exact c0_1 | exact cell_a c0_1 _ | exact cell_a (cell_a c0_1 _) _ | exact cell_a (cell_a (cell_a c0_1 _) _) _); replace c1_0 : w3.cell? ⟨w.heap.size + 1, 0, none⟩ = some (.int .i64 bx) := kp_cell hk (by first | exact c1_0 | exact cell_a c1_0 _ | exact cell_a (cell_a c1_0 _) _ | exact cell_a (cell_a (cell_a c1_0 _) _) _); replace c1_1 : w3.cell? ⟨w.heap.size + 1, 1, none⟩ = some (.int .i64 bY) := kp_cell hk (by first | exact c1_1 | exact cell_a c1_1 _ | exact cell_a (cell_a c1_1 _) _ | exact cell_a (cell_a (cell_a c1_1 _) _) _); replace c2_0 : w3.cell? ⟨w.heap.size + 1 + 1, 0, none⟩ = some (.int .i64 cx) := kp_cell hk (by first | exact c2_0 | exact cell_a c2_0 _ | exact cell_a (cell_a c2_0 _) _ | exact cell_a (cell_a (cell_a c2_0 _) _) _); replace c2_1 : w3.cell? ⟨w.heap.size + 1 + 1, 1, none⟩ = some (.int .i64 cy) := kp_cell hk (by first | exact c2_1 | exact cell_a c2_1 _ | exact cell_a (cell_a c2_1 _) _ | exact cell_a (cell_a (cell_a c2_1 _) _) _); replace c3_0 : w3.cell? ⟨w.heap.size + 1 + 1 + 1, 0, none⟩ = some (.int .i64 dx) := kp_cell hk (by first | exact c3_0 | exact cell_a c3_0 _ | exact cell_a (cell_a c3_0 _) _ | exact cell_a (cell_a (cell_a c3_0 _) _) _); replace c3_1 : w3.cell? ⟨w.heap.size + 1 + 1 + 1, 1, none⟩ = some (.int .i64 dy) := kp_cell hk (by first | exact c3_1 | exact cell_a c3_1 _ | exact cell_a (cell_a c3_1 _) _ | exact cell_a (cell_a (cell_a c3_1 _) _) _); replace K : Kp w w3 := kp_trans (by repeat (first | exact K | apply kp_alloc | apply kp_drew | apply kp_drewN)) hk; replace l0_0 : w.heap.size < w3.heap.size := cell_lt c0_0; replace l1_0 : w.heap.size + 1 < w3.heap.size := cell_lt c1_0; replace l2_0 : w.heap.size + 1 + 1 < w3.heap.size := cell_lt c2_0; replace l3_0 : w.heap.size + 1 + 1 + 1 < w3.heap.size := cell_lt c3_0; clear hk))
  obtain ⟨W1, hW⟩ : ∃ W1, w3.alloc (.cells #[.int .i64 ax, .int .i64 ay, .int .i64 bx, .int .i64 bY, .int .i64 cx, .int .i64 cy, .int .i64 dx, .int .i64 dy] 25) = W1 := ⟨_, rfl⟩
  replace c0_0 : W1.cell? ⟨w.heap.size, 0, none⟩ = some (.int .i64 ax) := by rw [← hW]; exact cell_a c0_0 _
  replace c0_1 : W1.cell? ⟨w.heap.size, 1, none⟩ = some (.int .i64 ay) := by rw [← hW]; exact cell_a c0_1 _
  replace c1_0 : W1.cell? ⟨w.heap.size + 1, 0, none⟩ = some (.int .i64 bx) := by rw [← hW]; exact cell_a c1_0 _
  replace c1_1 : W1.cell? ⟨w.heap.size + 1, 1, none⟩ = some (.int .i64 bY) := by rw [← hW]; exact cell_a c1_1 _
  replace c2_0 : W1.cell? ⟨w.heap.size + 1 + 1, 0, none⟩ = some (.int .i64 cx) := by rw [← hW]; exact cell_a c2_0 _
  replace c2_1 : W1.cell? ⟨w.heap.size + 1 + 1, 1, none⟩ = some (.int .i64 cy) := by rw [← hW]; exact cell_a c2_1 _
  replace c3_0 : W1.cell? ⟨w.heap.size + 1 + 1 + 1, 0, none⟩ = some (.int .i64 dx) := by rw [← hW]; exact cell_a c3_0 _
  replace c3_1 : W1.cell? ⟨w.heap.size + 1 + 1 + 1, 1, none⟩ = some (.int .i64 dy) := by rw [← hW]; exact cell_a c3_1 _
  have hp : PtsAt W1 w3.heap.size 0 [(ax, ay), (bx, bY), (cx, cy), (dx, dy)] := by
    rw [← hW]; intro i hi
    match i, hi with
    | 0, _ => exact ⟨by simp [go_sem], by simp [go_sem]⟩
    | 1, _ => exact ⟨by simp [go_sem], by simp [go_sem]⟩
    | 2, _ => exact ⟨by simp [go_sem], by simp [go_sem]⟩
    | 3, _ => exact ⟨by simp [go_sem], by simp [go_sem]⟩
  replace K : Kp w W1 := by rw [← hW]; exact kp_alloc K _
  rw [hW]; clear hW
  generalize w3.heap.size = LB at *
  have C0_0 := Lib.hid c0_0
  have C0_1 := Lib.hid c0_1
  have C1_0 := Lib.hid c1_0
  have C1_1 := Lib.hid c1_1
  have C2_0 := Lib.hid c2_0
  have C2_1 := Lib.hid c2_1
  have C3_0 := Lib.hid c3_0
  have C3_1 := Lib.hid c3_1
  have HPT := Lib.hid hp
  have HK := Lib.hid K
  clear hp K c0_0 c0_1 c1_0 c1_1 c2_0 c2_1 c3_0 c3_1 l0_0 l1_0 l2_0 l3_0
  go_wp2_with fail
  go_loopw [10, 11] (fun v i wr => ∃ k : Nat, k ≤ 4 ∧ i = .int .i64 k ∧ OwnP wr W1.heap.size v (refE F P k) ∧ Kp W1 wr) (fun _ i _ => 4 - (intOf i).toNat)
  case atStart => exact ⟨0, by omega, rfl, OwnP.nil _ _, kp_refl _⟩
  case round =>
    obtain ⟨k, hk, rfl, ho, hkp⟩ := hrel
    obtain ⟨L, hL⟩ : ∃ L, refE F P k = L := ⟨_, rfl⟩
    have hn := refE_len F P k
    rw [hL] at ho hn
    by_cases hlt : k < 4
    · obtain ⟨x, y, hxy⟩ : ∃ x y, P k = (x, y) := ⟨_, _, rfl⟩
      have hyes := refE_yes hL hxy
      have hno := refE_no hL hxy
      have hpt := (HPT.out.kp hkp) k hlt
      rw [HP.out k hlt, hxy] at hpt
      simp only [Nat.zero_add] at hpt
      obtain ⟨p0, p1⟩ := hpt
      have b1 : 0 ≤ (k : Int) := by omega
      have b2 : (k : Int) < 4 := by omega
      obtain ⟨wo, rfl⟩ : ∃ wo : World, wo = wr := ⟨_, rfl⟩
      have c0_0 : wo.cell? ⟨w.heap.size, 0, none⟩ = some (.int .i64 ax) := kp_cell hkp C0_0.out
      have c0_1 : wo.cell? ⟨w.heap.size, 1, none⟩ = some (.int .i64 ay) := kp_cell hkp C0_1.out
      have c1_0 : wo.cell? ⟨w.heap.size + 1, 0, none⟩ = some (.int .i64 bx) := kp_cell hkp C1_0.out
      have c1_1 : wo.cell? ⟨w.heap.size + 1, 1, none⟩ = some (.int .i64 bY) := kp_cell hkp C1_1.out
      have c2_0 : wo.cell? ⟨w.heap.size + 1 + 1, 0, none⟩ = some (.int .i64 cx) := kp_cell hkp C2_0.out
      have c2_1 : wo.cell? ⟨w.heap.size + 1 + 1, 1, none⟩ = some (.int .i64 cy) := kp_cell hkp C2_1.out
      have c3_0 : wo.cell? ⟨w.heap.size + 1 + 1 + 1, 0, none⟩ = some (.int .i64 dx) := kp_cell hkp C3_0.out
      have c3_1 : wo.cell? ⟨w.heap.size + 1 + 1 + 1, 1, none⟩ = some (.int .i64 dy) := kp_cell hkp C3_1.out
      have l0_0 : w.heap.size < wo.heap.size := cell_lt c0_0
      have l1_0 : w.heap.size + 1 < wo.heap.size := cell_lt c1_0
      have l2_0 : w.heap.size + 1 + 1 < wo.heap.size := cell_lt c2_0
      have l3_0 : w.heap.size + 1 + 1 + 1 < wo.heap.size := cell_lt c3_0
      have K : Kp wo wo := kp_refl wo
      have HO := Lib.hid ho
      have HKP := Lib.hid hkp
      have HL := Lib.hid hL
      have HN := Lib.hid hn
      have hrd := ho.rd (by omega)
      have hf := HF.out k
      clear ho hkp hL hn
      by_cases h1k : k ≤ 1
      · have hf2 : F k = onS (x, y) (cx, cy) (dx, dy) := by rw [← HEF.out]; unfold endF; rw [if_pos h1k, HEP.out, hxy]
        clear hf
        have hr1 := fun w => ron_any x y cx cy dx dy w
        generalize hB : onS (x, y) (cx, cy) (dx, dy) = B at hr1 hf2
        rw [hf2] at hyes hno
        have H1 := Lib.hid hr1
        have HY := Lib.hid hyes
        have HNO := Lib.hid hno
        clear hr1 hyes hno hf2 hB hxy
        rcases hrd.2 with ⟨rfl, hLn⟩ | ⟨g, off, cap, rfl, hpl⟩
        · clear hrd
          subst hLn
          go_upto_region 8 with fail
          go_region_held3 (fun w' => Kp wo w' ∧ w'.cell? ⟨w.heap.size, 0, none⟩ = some (.int .i64 ax) ∧ w'.cell? ⟨w.heap.size, 1, none⟩ = some (.int .i64 ay) ∧ w'.cell? ⟨w.heap.size + 1, 0, none⟩ = some (.int .i64 bx) ∧ w'.cell? ⟨w.heap.size + 1, 1, none⟩ = some (.int .i64 bY) ∧ w'.cell? ⟨w.heap.size + 1 + 1, 0, none⟩ = some (.int .i64 cx) ∧ w'.cell? ⟨w.heap.size + 1 + 1, 1, none⟩ = some (.int .i64 cy) ∧ w'.cell? ⟨w.heap.size + 1 + 1 + 1, 0, none⟩ = some (.int .i64 dx) ∧ w'.cell? ⟨w.heap.size + 1 + 1 + 1, 1, none⟩ = some (.int .i64 dy) ∧ w'.cell? ⟨LB, k * 2, none⟩ = some (.int .i64 x) ∧ w'.cell? ⟨LB, k * 2 + 1, none⟩ = some (.int .i64 y)) ((first | (with_reducible exact ⟨K, c0_0, c0_1, c1_0, c1_1, c2_0, c2_1, c3_0, c3_1, p0, p1⟩) | (with_reducible exact ⟨kp_drew K, cell_d c0_0, cell_d c0_1, cell_d c1_0, cell_d c1_1, cell_d c2_0, cell_d c2_1, cell_d c3_0, cell_d c3_1, cell_d p0, cell_d p1⟩) | (with_reducible exact ⟨kp_alloc K _, cell_a c0_0 _, cell_a c0_1 _, cell_a c1_0 _, cell_a c1_1 _, cell_a c2_0 _, cell_a c2_1 _, cell_a c3_0 _, cell_a c3_1 _, cell_a p0 _, cell_a p1 _⟩) | (with_reducible exact ⟨kp_alloc (kp_drew K) _, cell_a (cell_d c0_0) _, cell_a (cell_d c0_1) _, cell_a (cell_d c1_0) _, cell_a (cell_d c1_1) _, cell_a (cell_d c2_0) _, cell_a (cell_d c2_1) _, cell_a (cell_d c3_0) _, cell_a (cell_d c3_1) _, cell_a (cell_d p0) _, cell_a (cell_d p1) _⟩) | (with_reducible exact ⟨kp_alloc (kp_alloc K _) _, cell_a (cell_a c0_0 _) _, cell_a (cell_a c0_1 _) _, cell_a (cell_a c1_0 _) _, cell_a (cell_a c1_1 _) _, cell_a (cell_a c2_0 _) _, cell_a (cell_a c2_1 _) _, cell_a (cell_a c3_0 _) _, cell_a (cell_a c3_1 _) _, cell_a (cell_a p0 _) _, cell_a (cell_a p1 _) _⟩) | (with_reducible exact ⟨kp_alloc (kp_alloc (kp_drew K) _) _, cell_a (cell_a (cell_d c0_0) _) _, cell_a (cell_a (cell_d c0_1) _) _, cell_a (cell_a (cell_d c1_0) _) _, cell_a (cell_a (cell_d c1_1) _) _, cell_a (cell_a (cell_d c2_0) _) _, cell_a (cell_a (cell_d c2_1) _) _, cell_a (cell_a (cell_d c3_0) _) _, cell_a (cell_a (cell_d c3_1) _) _, cell_a (cell_a (cell_d p0) _) _, cell_a (cell_a (cell_d p1) _) _⟩)))
            (first
              | (go_at_call 64; refine (H1.out _).mono ?_; rintro e w2 ⟨rfl, hk⟩; replace c0_0 : w2.cell? ⟨w.heap.size, 0, none⟩ = some (.int .i64 ax) := kp_cell hk (by first | exact c0_0 | exact cell_a c0_0 _ | exact cell_a (cell_a c0_0 _) _ | exact cell_a (cell_a (cell_a c0_0 _) _) _); replace c0_1 : w2.cell? ⟨w.heap.size, 1, none⟩ = some (.int .i64 ay) := kp_cell hk (by first | exact c0_1 | exact cell_a c0_1 _ | exact cell_a (cell_a c0_1 _) _ | exact cell_a (cell_a (cell_a c0_1 _) _) _); replace c1_0 : w2.cell? ⟨w.heap.size + 1, 0, none⟩ = some (.int .i64 bx) := kp_cell hk (by first | exact c1_0 | exact cell_a c1_0 _ | exact cell_a (cell_a c1_0 _) _ | exact cell_a (cell_a (cell_a c1_0 _) _) _); replace c1_1 : w2.cell? ⟨w.heap.size + 1, 1, none⟩ = some (.int .i64 bY) := kp_cell hk (by first | exact c1_1 | exact cell_a c1_1 _ | exact cell_a (cell_a c1_1 _) _ | exact cell_a (cell_a (cell_a c1_1 _) _) _); replace c2_0 : w2.cell? ⟨w.heap.size + 1 + 1, 0, none⟩ = some (.int .i64 cx) := kp_cell hk (by first | exact c2_0 | exact cell_a c2_0 _ | exact cell_a (cell_a c2_0 _) _ | exact cell_a (cell_a (cell_a c2_0 _) _) _); replace c2_1 : w2.cell? ⟨w.heap.size + 1 + 1, 1, none⟩ = some (.int .i64 cy) := kp_cell hk (by first | exact c2_1 | exact cell_a c2_1 _ | exact cell_a (cell_a c2_1 _) _ | exact cell_a (cell_a (cell_a c2_1 _) _) _); replace c3_0 : w2.cell? ⟨w.heap.size + 1 + 1 + 1, 0, none⟩ = some (.int .i64 dx) := kp_cell hk (by first | exact c3_0 | exact cell_a c3_0 _ | exact cell_a (cell_a c3_0 _) _ | exact cell_a (cell_a (cell_a c3_0 _) _) _); replace c3_1 : w2.cell? ⟨w.heap.size + 1 + 1 + 1, 1, none⟩ = some (.int .i64 dy) := kp_cell hk (by first | exact c3_1 | exact cell_a c3_1 _ | exact cell_a (cell_a c3_1 _) _ | exact cell_a (cell_a (cell_a c3_1 _) _) _); replace p0 : w2.cell? ⟨LB, k * 2, none⟩ = some (.int .i64 x) := kp_cell hk (by first | exact p0 | exact cell_a p0 _ | exact cell_a (cell_a p0 _) _ | exact cell_a (cell_a (cell_a p0 _) _) _); replace p1 : w2.cell? ⟨LB, k * 2 + 1, none⟩ = some (.int .i64 y) := kp_cell hk (by first | exact p1 | exact cell_a p1 _ | exact cell_a (cell_a p1 _) _ | exact cell_a (cell_a (cell_a p1 _) _) _); replace K : Kp wo w2 := kp_trans (by repeat (first | exact K | apply kp_alloc | apply kp_drew | apply kp_drewN)) hk; replace l0_0 : w.heap.size < w2.heap.size := cell_lt c0_0; replace l1_0 : w.heap.size + 1 < w2.heap.size := cell_lt c1_0; replace l2_0 : w.heap.size + 1 + 1 < w2.heap.size := cell_lt c2_0; replace l3_0 : w.heap.size + 1 + 1 + 1 < w2.heap.size := cell_lt c3_0; clear hk))
          have P0 := Lib.hid p0
          have P1 := Lib.hid p1
          have hK := Lib.hid K
          have ho2 := HO.out
          have HOx := Lib.hid (ho2.kp K)
          have HBx := Lib.hid (kp_trans HKP.out K)
          clear K ho2 c0_0 c0_1 c1_0 c1_1 c2_0 c2_1 c3_0 c3_1 p0 p1 l0_0 l1_0 l2_0 l3_0 HKP HO
          have hd : decide ((k : Int) < 4) = true := by simp; omega
          go_wp2_with fail
          try simp only [hd]
          go_loopw [12, 13] (fun v j wi => ∃ (kk : Nat) (b : Bool), kk ≤ 0 ∧ j = .int .i64 kk ∧ v = .bool b ∧ (B && !decide (((x, y) : Pt) ∈ ([] : List Pt))) = b ∧ Kp w2 wi) (fun _ j _ => 0 - (intOf j).toNat)
          case atStart => exact ⟨0, B, by omega, rfl, rfl, by simp, kp_refl _⟩
          case round =>
            obtain ⟨kk, b, hkk, rfl, rfl, hb, hkw⟩ := hrel
            have p0 : wr.cell? ⟨LB, k * 2, none⟩ = some (.int .i64 x) := kp_cell hkw P0.out
            have p1 : wr.cell? ⟨LB, k * 2 + 1, none⟩ = some (.int .i64 y) := kp_cell hkw P1.out
            have HOi := Lib.hid (HOx.out.kp hkw)
            have HBi := Lib.hid (kp_trans HBx.out hkw)
            obtain rfl : kk = 0 := by omega
            have hb2 := hb
            have HB := Lib.hid hb2
            clear hb hb2 hkw
            cases b
            · go_wp2_with fail
              exact ⟨⟨k + 1, by omega, by go_num, by rw [HNO.out HB.out]; exact HOi.out, HBi.out⟩, by simp [intOf]; omega⟩
            · go_wp2_with (at_builtin; refine wpList_append_own_at _ rfl _ _ 23 rfl W1.heap.size 25 i0 (.agg #[.int .i64 0, .int .i64 0]) 2 16 Try.underlying23 HI.out HZ0.out HZ1.out HZ2.out rfl (by decide) _ _ _ rfl (HOi.out.kp (kp_alloc (kp_refl _) _)) ⟨wr.heap.size, 0, none⟩ 1 1 [.int .i64 x, .int .i64 y] rfl rfl (cell_two_pt _ _ _ _) (by simp [Value.oneCell']) (by have := HN.out; unfold maxLen; (try simp) <;> omega) (by have := HN.out; (try simp) <;> omega) (Below.size (kp_alloc HBi.out _)) ?_; intro v' w5 hown hgrow hnil hat; have HO3 := Lib.hid (OwnP.snoc hown); have HK3 := Lib.hid (kp_of_grown (kp_alloc HBi.out _) hgrow (HOi.out.kp (kp_alloc (kp_refl _) _))); clear hown hgrow hnil hat)
              exact ⟨⟨k + 1, by omega, by go_num, by rw [HY.out HB.out]; exact HO3.out, HK3.out⟩, by simp [intOf]; omega⟩
        · clear hrd
          have HPL := Lib.hid hpl
          obtain ⟨n, hn⟩ : ∃ n, L.length = n := ⟨_, rfl⟩
          have HLN := Lib.hid hn
          have hn4 : n ≤ 4 := by have := HN.out; omega
          rw [hn]
          clear hpl hn
          go_upto_region 8 with fail
          go_region_held3 (fun w' => Kp wo w' ∧ w'.cell? ⟨w.heap.size, 0, none⟩ = some (.int .i64 ax) ∧ w'.cell? ⟨w.heap.size, 1, none⟩ = some (.int .i64 ay) ∧ w'.cell? ⟨w.heap.size + 1, 0, none⟩ = some (.int .i64 bx) ∧ w'.cell? ⟨w.heap.size + 1, 1, none⟩ = some (.int .i64 bY) ∧ w'.cell? ⟨w.heap.size + 1 + 1, 0, none⟩ = some (.int .i64 cx) ∧ w'.cell? ⟨w.heap.size + 1 + 1, 1, none⟩ = some (.int .i64 cy) ∧ w'.cell? ⟨w.heap.size + 1 + 1 + 1, 0, none⟩ = some (.int .i64 dx) ∧ w'.cell? ⟨w.heap.size + 1 + 1 + 1, 1, none⟩ = some (.int .i64 dy) ∧ w'.cell? ⟨LB, k * 2, none⟩ = some (.int .i64 x) ∧ w'.cell? ⟨LB, k * 2 + 1, none⟩ = some (.int .i64 y)) ((first | (with_reducible exact ⟨K, c0_0, c0_1, c1_0, c1_1, c2_0, c2_1, c3_0, c3_1, p0, p1⟩) | (with_reducible exact ⟨kp_drew K, cell_d c0_0, cell_d c0_1, cell_d c1_0, cell_d c1_1, cell_d c2_0, cell_d c2_1, cell_d c3_0, cell_d c3_1, cell_d p0, cell_d p1⟩) | (with_reducible exact ⟨kp_alloc K _, cell_a c0_0 _, cell_a c0_1 _, cell_a c1_0 _, cell_a c1_1 _, cell_a c2_0 _, cell_a c2_1 _, cell_a c3_0 _, cell_a c3_1 _, cell_a p0 _, cell_a p1 _⟩) | (with_reducible exact ⟨kp_alloc (kp_drew K) _, cell_a (cell_d c0_0) _, cell_a (cell_d c0_1) _, cell_a (cell_d c1_0) _, cell_a (cell_d c1_1) _, cell_a (cell_d c2_0) _, cell_a (cell_d c2_1) _, cell_a (cell_d c3_0) _, cell_a (cell_d c3_1) _, cell_a (cell_d p0) _, cell_a (cell_d p1) _⟩) | (with_reducible exact ⟨kp_alloc (kp_alloc K _) _, cell_a (cell_a c0_0 _) _, cell_a (cell_a c0_1 _) _, cell_a (cell_a c1_0 _) _, cell_a (cell_a c1_1 _) _, cell_a (cell_a c2_0 _) _, cell_a (cell_a c2_1 _) _, cell_a (cell_a c3_0 _) _, cell_a (cell_a c3_1 _) _, cell_a (cell_a p0 _) _, cell_a (cell_a p1 _) _⟩) | (with_reducible exact ⟨kp_alloc (kp_alloc (kp_drew K) _) _, cell_a (cell_a (cell_d c0_0) _) _, cell_a (cell_a (cell_d c0_1) _) _, cell_a (cell_a (cell_d c1_0) _) _, cell_a (cell_a (cell_d c1_1) _) _, cell_a (cell_a (cell_d c2_0) _) _, cell_a (cell_a (cell_d c2_1) _) _, cell_a (cell_a (cell_d c3_0) _) _, cell_a (cell_a (cell_d c3_1) _) _, cell_a (cell_a (cell_d p0) _) _, cell_a (cell_a (cell_d p1) _) _⟩)))
            (first
              | (go_at_call 64; refine (H1.out _).mono ?_; rintro e w2 ⟨rfl, hk⟩; replace c0_0 : w2.cell? ⟨w.heap.size, 0, none⟩ = some (.int .i64 ax) := kp_cell hk (by first | exact c0_0 | exact cell_a c0_0 _ | exact cell_a (cell_a c0_0 _) _ | exact cell_a (cell_a (cell_a c0_0 _) _) _); replace c0_1 : w2.cell? ⟨w.heap.size, 1, none⟩ = some (.int .i64 ay) := kp_cell hk (by first | exact c0_1 | exact cell_a c0_1 _ | exact cell_a (cell_a c0_1 _) _ | exact cell_a (cell_a (cell_a c0_1 _) _) _); replace c1_0 : w2.cell? ⟨w.heap.size + 1, 0, none⟩ = some (.int .i64 bx) := kp_cell hk (by first | exact c1_0 | exact cell_a c1_0 _ | exact cell_a (cell_a c1_0 _) _ | exact cell_a (cell_a (cell_a c1_0 _) _) _); replace c1_1 : w2.cell? ⟨w.heap.size + 1, 1, none⟩ = some (.int .i64 bY) := kp_cell hk (by first | exact c1_1 | exact cell_a c1_1 _ | exact cell_a (cell_a c1_1 _) _ | exact cell_a (cell_a (cell_a c1_1 _) _) _); replace c2_0 : w2.cell? ⟨w.heap.size + 1 + 1, 0, none⟩ = some (.int .i64 cx) := kp_cell hk (by first | exact c2_0 | exact cell_a c2_0 _ | exact cell_a (cell_a c2_0 _) _ | exact cell_a (cell_a (cell_a c2_0 _) _) _); replace c2_1 : w2.cell? ⟨w.heap.size + 1 + 1, 1, none⟩ = some (.int .i64 cy) := kp_cell hk (by first | exact c2_1 | exact cell_a c2_1 _ | exact cell_a (cell_a c2_1 _) _ | exact cell_a (cell_a (cell_a c2_1 _) _) _); replace c3_0 : w2.cell? ⟨w.heap.size + 1 + 1 + 1, 0, none⟩ = some (.int .i64 dx) := kp_cell hk (by first | exact c3_0 | exact cell_a c3_0 _ | exact cell_a (cell_a c3_0 _) _ | exact cell_a (cell_a (cell_a c3_0 _) _) _); replace c3_1 : w2.cell? ⟨w.heap.size + 1 + 1 + 1, 1, none⟩ = some (.int .i64 dy) := kp_cell hk (by first | exact c3_1 | exact cell_a c3_1 _ | exact cell_a (cell_a c3_1 _) _ | exact cell_a (cell_a (cell_a c3_1 _) _) _); replace p0 : w2.cell? ⟨LB, k * 2, none⟩ = some (.int .i64 x) := kp_cell hk (by first | exact p0 | exact cell_a p0 _ | exact cell_a (cell_a p0 _) _ | exact cell_a (cell_a (cell_a p0 _) _) _); replace p1 : w2.cell? ⟨LB, k * 2 + 1, none⟩ = some (.int .i64 y) := kp_cell hk (by first | exact p1 | exact cell_a p1 _ | exact cell_a (cell_a p1 _) _ | exact cell_a (cell_a (cell_a p1 _) _) _); replace K : Kp wo w2 := kp_trans (by repeat (first | exact K | apply kp_alloc | apply kp_drew | apply kp_drewN)) hk; replace l0_0 : w.heap.size < w2.heap.size := cell_lt c0_0; replace l1_0 : w.heap.size + 1 < w2.heap.size := cell_lt c1_0; replace l2_0 : w.heap.size + 1 + 1 < w2.heap.size := cell_lt c2_0; replace l3_0 : w.heap.size + 1 + 1 + 1 < w2.heap.size := cell_lt c3_0; clear hk))
          have P0 := Lib.hid p0
          have P1 := Lib.hid p1
          have hK := Lib.hid K
          have ho2 := HO.out
          rw [HLN.out] at ho2
          have HOx := Lib.hid (ho2.kp K)
          have HBx := Lib.hid (kp_trans HKP.out K)
          clear K ho2 c0_0 c0_1 c1_0 c1_1 c2_0 c2_1 c3_0 c3_1 p0 p1 l0_0 l1_0 l2_0 l3_0 HKP HO
          have hd : decide ((k : Int) < 4) = true := by simp; omega
          go_wp2_with fail
          try simp only [hd]
          go_loopw [12, 13] (fun v j wi => ∃ (kk : Nat) (b : Bool), kk ≤ n ∧ j = .int .i64 kk ∧ v = .bool b ∧ (B && !decide (((x, y) : Pt) ∈ L.take kk)) = b ∧ Kp w2 wi) (fun _ j _ => n - (intOf j).toNat)
          case atStart => exact ⟨0, B, by omega, rfl, rfl, by simp, kp_refl _⟩
          case round =>
            obtain ⟨kk, b, hkk, rfl, rfl, hb, hkw⟩ := hrel
            have p0 : wr.cell? ⟨LB, k * 2, none⟩ = some (.int .i64 x) := kp_cell hkw P0.out
            have p1 : wr.cell? ⟨LB, k * 2 + 1, none⟩ = some (.int .i64 y) := kp_cell hkw P1.out
            have HOi := Lib.hid (HOx.out.kp hkw)
            have HBi := Lib.hid (kp_trans HBx.out hkw)
            by_cases hlt2 : kk < n
            · have hlt3 : kk < L.length := by rw [HLN.out]; exact hlt2
              obtain ⟨ex, ey, hxy2⟩ : ∃ ex ey, L[kk] = (ex, ey) := ⟨_, _, rfl⟩
              have hs := in_take (x, y) L kk hlt3
              have hq := (HPL.out.kp (kp_trans hK.out hkw)) kk hlt3
              rw [hxy2] at hs hq
              obtain ⟨q0, q1⟩ := hq
              simp only at q0 q1
              have c1 : 0 ≤ (kk : Int) := by omega
              have c2 : (kk : Int) < (n : Int) := by omega
              have HKW := Lib.hid hkw
              clear hkw hxy2 hlt3
              cases b
              · skip
                have HS : Hid ((B && !decide (((x, y) : Pt) ∈ L.take (kk + 1))) = false) := Lib.hid (by rw [hs, Bool.not_or, ← Bool.and_assoc, hb]; rfl)
                clear hs hb
                go_wp2_with fail
                go_quiet (fail)
                go_wp2_with fail
                exact ⟨⟨kk + 1, false, by omega, by go_num, rfl, HS.out, kp_drewN HKW.out _⟩, by simp [intOf]; omega⟩
              · by_cases ex1 : ex = x
                · obtain rfl := ex1.symm
                  by_cases ey1 : ey = y
                  · obtain rfl := ey1.symm
                    have HS : Hid ((B && !decide (((x, y) : Pt) ∈ L.take (kk + 1))) = false) := Lib.hid (by rw [hs, Bool.not_or, ← Bool.and_assoc, hb]; simp)
                    clear hs hb
                    go_wp2_with fail
                    go_quiet (fail)
                    go_wp2_with fail
                    exact ⟨⟨kk + 1, false, by omega, by go_num, rfl, HS.out, kp_drewN HKW.out _⟩, by simp [intOf]; omega⟩
                  · have n1 : (ey == y) = false := by simp [ey1]
                    have n2 : (ey != y) = true := by simp [ey1]
                    have HS : Hid ((B && !decide (((x, y) : Pt) ∈ L.take (kk + 1))) = true) := Lib.hid (by rw [hs, Bool.not_or, ← Bool.and_assoc, hb]; simp [Ne.symm ey1])
                    clear hs hb
                    go_wp2_with fail
                    go_quiet (fail)
                    go_wp2_with fail
                    exact ⟨⟨kk + 1, true, by omega, by go_num, rfl, HS.out, kp_drewN HKW.out _⟩, by simp [intOf]; omega⟩
                · have n1 : (ex == x) = false := by simp [ex1]
                  have n2 : (ex != x) = true := by simp [ex1]
                  have HS : Hid ((B && !decide (((x, y) : Pt) ∈ L.take (kk + 1))) = true) := Lib.hid (by rw [hs, Bool.not_or, ← Bool.and_assoc, hb]; simp [eq_comm (a := x), ex1])
                  clear hs hb
                  go_wp2_with fail
                  go_quiet (fail)
                  go_wp2_with fail
                  exact ⟨⟨kk + 1, true, by omega, by go_num, rfl, HS.out, kp_drewN HKW.out _⟩, by simp [intOf]; omega⟩
            · obtain rfl : kk = n := by omega
              have hb2 : (B && !decide (((x, y) : Pt) ∈ L)) = b := by rw [← hb]; congr 3; rw [← HLN.out, List.take_length]
              have HB := Lib.hid hb2
              clear hb hb2 hkw
              cases b
              · go_wp2_with fail
                exact ⟨⟨k + 1, by omega, by go_num, by rw [HNO.out HB.out]; exact HOi.out, HBi.out⟩, by simp [intOf]; omega⟩
              · go_wp2_with (at_builtin; refine wpList_append_own_at _ rfl _ _ 23 rfl W1.heap.size 25 i0 (.agg #[.int .i64 0, .int .i64 0]) 2 16 Try.underlying23 HI.out HZ0.out HZ1.out HZ2.out rfl (by decide) _ _ _ rfl (HOi.out.kp (kp_alloc (kp_refl _) _)) ⟨wr.heap.size, 0, none⟩ 1 1 [.int .i64 x, .int .i64 y] rfl rfl (cell_two_pt _ _ _ _) (by simp [Value.oneCell']) (by have := HN.out; unfold maxLen; (try simp) <;> omega) (by have := HN.out; (try simp) <;> omega) (Below.size (kp_alloc HBi.out _)) ?_; intro v' w5 hown hgrow hnil hat; have HO3 := Lib.hid (OwnP.snoc hown); have HK3 := Lib.hid (kp_of_grown (kp_alloc HBi.out _) hgrow (HOi.out.kp (kp_alloc (kp_refl _) _))); clear hown hgrow hnil hat)
                exact ⟨⟨k + 1, by omega, by go_num, by rw [HY.out HB.out]; exact HO3.out, HK3.out⟩, by simp [intOf]; omega⟩
      · have hf2 : F k = onS (x, y) (ax, ay) (bx, bY) := by rw [← HEF.out]; unfold endF; rw [if_neg h1k, HEP.out, hxy]
        clear hf
        have hr1 := fun w => ron_any x y cx cy dx dy w
        have hr2 := fun w => ron_any x y ax ay bx bY w
        generalize onS (x, y) (cx, cy) (dx, dy) = B0 at hr1
        generalize hB : onS (x, y) (ax, ay) (bx, bY) = B at hr2 hf2
        have H2 := Lib.hid hr2
        clear hr2
        rw [hf2] at hyes hno
        have H1 := Lib.hid hr1
        have HY := Lib.hid hyes
        have HNO := Lib.hid hno
        clear hr1 hyes hno hf2 hB hxy
        rcases hrd.2 with ⟨rfl, hLn⟩ | ⟨g, off, cap, rfl, hpl⟩
        · clear hrd
          subst hLn
          go_upto_region 8 with fail
          go_region_held3 (fun w' => Kp wo w' ∧ w'.cell? ⟨w.heap.size, 0, none⟩ = some (.int .i64 ax) ∧ w'.cell? ⟨w.heap.size, 1, none⟩ = some (.int .i64 ay) ∧ w'.cell? ⟨w.heap.size + 1, 0, none⟩ = some (.int .i64 bx) ∧ w'.cell? ⟨w.heap.size + 1, 1, none⟩ = some (.int .i64 bY) ∧ w'.cell? ⟨w.heap.size + 1 + 1, 0, none⟩ = some (.int .i64 cx) ∧ w'.cell? ⟨w.heap.size + 1 + 1, 1, none⟩ = some (.int .i64 cy) ∧ w'.cell? ⟨w.heap.size + 1 + 1 + 1, 0, none⟩ = some (.int .i64 dx) ∧ w'.cell? ⟨w.heap.size + 1 + 1 + 1, 1, none⟩ = some (.int .i64 dy) ∧ w'.cell? ⟨LB, k * 2, none⟩ = some (.int .i64 x) ∧ w'.cell? ⟨LB, k * 2 + 1, none⟩ = some (.int .i64 y)) ((first | (with_reducible exact ⟨K, c0_0, c0_1, c1_0, c1_1, c2_0, c2_1, c3_0, c3_1, p0, p1⟩) | (with_reducible exact ⟨kp_drew K, cell_d c0_0, cell_d c0_1, cell_d c1_0, cell_d c1_1, cell_d c2_0, cell_d c2_1, cell_d c3_0, cell_d c3_1, cell_d p0, cell_d p1⟩) | (with_reducible exact ⟨kp_alloc K _, cell_a c0_0 _, cell_a c0_1 _, cell_a c1_0 _, cell_a c1_1 _, cell_a c2_0 _, cell_a c2_1 _, cell_a c3_0 _, cell_a c3_1 _, cell_a p0 _, cell_a p1 _⟩) | (with_reducible exact ⟨kp_alloc (kp_drew K) _, cell_a (cell_d c0_0) _, cell_a (cell_d c0_1) _, cell_a (cell_d c1_0) _, cell_a (cell_d c1_1) _, cell_a (cell_d c2_0) _, cell_a (cell_d c2_1) _, cell_a (cell_d c3_0) _, cell_a (cell_d c3_1) _, cell_a (cell_d p0) _, cell_a (cell_d p1) _⟩) | (with_reducible exact ⟨kp_alloc (kp_alloc K _) _, cell_a (cell_a c0_0 _) _, cell_a (cell_a c0_1 _) _, cell_a (cell_a c1_0 _) _, cell_a (cell_a c1_1 _) _, cell_a (cell_a c2_0 _) _, cell_a (cell_a c2_1 _) _, cell_a (cell_a c3_0 _) _, cell_a (cell_a c3_1 _) _, cell_a (cell_a p0 _) _, cell_a (cell_a p1 _) _⟩) | (with_reducible exact ⟨kp_alloc (kp_alloc (kp_drew K) _) _, cell_a (cell_a (cell_d c0_0) _) _, cell_a (cell_a (cell_d c0_1) _) _, cell_a (cell_a (cell_d c1_0) _) _, cell_a (cell_a (cell_d c1_1) _) _, cell_a (cell_a (cell_d c2_0) _) _, cell_a (cell_a (cell_d c2_1) _) _, cell_a (cell_a (cell_d c3_0) _) _, cell_a (cell_a (cell_d c3_1) _) _, cell_a (cell_a (cell_d p0) _) _, cell_a (cell_a (cell_d p1) _) _⟩)))
            (first
              | (go_at_call 64; refine (H1.out _).mono ?_; rintro e w2 ⟨rfl, hk⟩; replace c0_0 : w2.cell? ⟨w.heap.size, 0, none⟩ = some (.int .i64 ax) := kp_cell hk (by first | exact c0_0 | exact cell_a c0_0 _ | exact cell_a (cell_a c0_0 _) _ | exact cell_a (cell_a (cell_a c0_0 _) _) _); replace c0_1 : w2.cell? ⟨w.heap.size, 1, none⟩ = some (.int .i64 ay) := kp_cell hk (by first | exact c0_1 | exact cell_a c0_1 _ | exact cell_a (cell_a c0_1 _) _ | exact cell_a (cell_a (cell_a c0_1 _) _) _); replace c1_0 : w2.cell? ⟨w.heap.size + 1, 0, none⟩ = some (.int .i64 bx) := kp_cell hk (by first | exact c1_0 | exact cell_a c1_0 _ | exact cell_a (cell_a c1_0 _) _ | exact cell_a (cell_a (cell_a c1_0 _) _) _); replace c1_1 : w2.cell? ⟨w.heap.size + 1, 1, none⟩ = some (.int .i64 bY) := kp_cell hk (by first | exact c1_1 | exact cell_a c1_1 _ | exact cell_a (cell_a c1_1 _) _ | exact cell_a (cell_a (cell_a c1_1 _) _) _); replace c2_0 : w2.cell? ⟨w.heap.size + 1 + 1, 0, none⟩ = some (.int .i64 cx) := kp_cell hk (by first | exact c2_0 | exact cell_a c2_0 _ | exact cell_a (cell_a c2_0 _) _ | exact cell_a (cell_a (cell_a c2_0 _) _) _); replace c2_1 : w2.cell? ⟨w.heap.size + 1 + 1, 1, none⟩ = some (.int .i64 cy) := kp_cell hk (by first | exact c2_1 | exact cell_a c2_1 _ | exact cell_a (cell_a c2_1 _) _ | exact cell_a (cell_a (cell_a c2_1 _) _) _); replace c3_0 : w2.cell? ⟨w.heap.size + 1 + 1 + 1, 0, none⟩ = some (.int .i64 dx) := kp_cell hk (by first | exact c3_0 | exact cell_a c3_0 _ | exact cell_a (cell_a c3_0 _) _ | exact cell_a (cell_a (cell_a c3_0 _) _) _); replace c3_1 : w2.cell? ⟨w.heap.size + 1 + 1 + 1, 1, none⟩ = some (.int .i64 dy) := kp_cell hk (by first | exact c3_1 | exact cell_a c3_1 _ | exact cell_a (cell_a c3_1 _) _ | exact cell_a (cell_a (cell_a c3_1 _) _) _); replace p0 : w2.cell? ⟨LB, k * 2, none⟩ = some (.int .i64 x) := kp_cell hk (by first | exact p0 | exact cell_a p0 _ | exact cell_a (cell_a p0 _) _ | exact cell_a (cell_a (cell_a p0 _) _) _); replace p1 : w2.cell? ⟨LB, k * 2 + 1, none⟩ = some (.int .i64 y) := kp_cell hk (by first | exact p1 | exact cell_a p1 _ | exact cell_a (cell_a p1 _) _ | exact cell_a (cell_a (cell_a p1 _) _) _); replace K : Kp wo w2 := kp_trans (by repeat (first | exact K | apply kp_alloc | apply kp_drew | apply kp_drewN)) hk; replace l0_0 : w.heap.size < w2.heap.size := cell_lt c0_0; replace l1_0 : w.heap.size + 1 < w2.heap.size := cell_lt c1_0; replace l2_0 : w.heap.size + 1 + 1 < w2.heap.size := cell_lt c2_0; replace l3_0 : w.heap.size + 1 + 1 + 1 < w2.heap.size := cell_lt c3_0; clear hk))
          go_upto_region 10 with fail
          go_region_held3 (fun w' => Kp wo w' ∧ w'.cell? ⟨w.heap.size, 0, none⟩ = some (.int .i64 ax) ∧ w'.cell? ⟨w.heap.size, 1, none⟩ = some (.int .i64 ay) ∧ w'.cell? ⟨w.heap.size + 1, 0, none⟩ = some (.int .i64 bx) ∧ w'.cell? ⟨w.heap.size + 1, 1, none⟩ = some (.int .i64 bY) ∧ w'.cell? ⟨w.heap.size + 1 + 1, 0, none⟩ = some (.int .i64 cx) ∧ w'.cell? ⟨w.heap.size + 1 + 1, 1, none⟩ = some (.int .i64 cy) ∧ w'.cell? ⟨w.heap.size + 1 + 1 + 1, 0, none⟩ = some (.int .i64 dx) ∧ w'.cell? ⟨w.heap.size + 1 + 1 + 1, 1, none⟩ = some (.int .i64 dy) ∧ w'.cell? ⟨LB, k * 2, none⟩ = some (.int .i64 x) ∧ w'.cell? ⟨LB, k * 2 + 1, none⟩ = some (.int .i64 y)) ((first | (with_reducible exact ⟨K, c0_0, c0_1, c1_0, c1_1, c2_0, c2_1, c3_0, c3_1, p0, p1⟩) | (with_reducible exact ⟨kp_drew K, cell_d c0_0, cell_d c0_1, cell_d c1_0, cell_d c1_1, cell_d c2_0, cell_d c2_1, cell_d c3_0, cell_d c3_1, cell_d p0, cell_d p1⟩) | (with_reducible exact ⟨kp_alloc K _, cell_a c0_0 _, cell_a c0_1 _, cell_a c1_0 _, cell_a c1_1 _, cell_a c2_0 _, cell_a c2_1 _, cell_a c3_0 _, cell_a c3_1 _, cell_a p0 _, cell_a p1 _⟩) | (with_reducible exact ⟨kp_alloc (kp_drew K) _, cell_a (cell_d c0_0) _, cell_a (cell_d c0_1) _, cell_a (cell_d c1_0) _, cell_a (cell_d c1_1) _, cell_a (cell_d c2_0) _, cell_a (cell_d c2_1) _, cell_a (cell_d c3_0) _, cell_a (cell_d c3_1) _, cell_a (cell_d p0) _, cell_a (cell_d p1) _⟩) | (with_reducible exact ⟨kp_alloc (kp_alloc K _) _, cell_a (cell_a c0_0 _) _, cell_a (cell_a c0_1 _) _, cell_a (cell_a c1_0 _) _, cell_a (cell_a c1_1 _) _, cell_a (cell_a c2_0 _) _, cell_a (cell_a c2_1 _) _, cell_a (cell_a c3_0 _) _, cell_a (cell_a c3_1 _) _, cell_a (cell_a p0 _) _, cell_a (cell_a p1 _) _⟩) | (with_reducible exact ⟨kp_alloc (kp_alloc (kp_drew K) _) _, cell_a (cell_a (cell_d c0_0) _) _, cell_a (cell_a (cell_d c0_1) _) _, cell_a (cell_a (cell_d c1_0) _) _, cell_a (cell_a (cell_d c1_1) _) _, cell_a (cell_a (cell_d c2_0) _) _, cell_a (cell_a (cell_d c2_1) _) _, cell_a (cell_a (cell_d c3_0) _) _, cell_a (cell_a (cell_d c3_1) _) _, cell_a (cell_a (cell_d p0) _) _, cell_a (cell_a (cell_d p1) _) _⟩)))
            (first
              | (go_at_call 64; refine (H2.out _).mono ?_; rintro e w4 ⟨rfl, hk⟩; replace c0_0 : w4.cell? ⟨w.heap.size, 0, none⟩ = some (.int .i64 ax) := kp_cell hk (by first | exact c0_0 | exact cell_a c0_0 _ | exact cell_a (cell_a c0_0 _) _ | exact cell_a (cell_a (cell_a c0_0 _) _) _); replace c0_1 : w4.cell? ⟨w.heap.size, 1, none⟩ = some (.int .i64 ay) := kp_cell hk (by first | exact c0_1 | exact cell_a c0_1 _ | exact cell_a (cell_a c0_1 _) _ | exact cell_a (cell_a (cell_a c0_1 _) _) _); replace c1_0 : w4.cell? ⟨w.heap.size + 1, 0, none⟩ = some (.int .i64 bx) := kp_cell hk (by first | exact c1_0 | exact cell_a c1_0 _ | exact cell_a (cell_a c1_0 _) _ | exact cell_a (cell_a (cell_a c1_0 _) _) _); replace c1_1 : w4.cell? ⟨w.heap.size + 1, 1, none⟩ = some (.int .i64 bY) := kp_cell hk (by first | exact c1_1 | exact cell_a c1_1 _ | exact cell_a (cell_a c1_1 _) _ | exact cell_a (cell_a (cell_a c1_1 _) _) _); replace c2_0 : w4.cell? ⟨w.heap.size + 1 + 1, 0, none⟩ = some (.int .i64 cx) := kp_cell hk (by first | exact c2_0 | exact cell_a c2_0 _ | exact cell_a (cell_a c2_0 _) _ | exact cell_a (cell_a (cell_a c2_0 _) _) _); replace c2_1 : w4.cell? ⟨w.heap.size + 1 + 1, 1, none⟩ = some (.int .i64 cy) := kp_cell hk (by first | exact c2_1 | exact cell_a c2_1 _ | exact cell_a (cell_a c2_1 _) _ | exact cell_a (cell_a (cell_a c2_1 _) _) _); replace c3_0 : w4.cell? ⟨w.heap.size + 1 + 1 + 1, 0, none⟩ = some (.int .i64 dx) := kp_cell hk (by first | exact c3_0 | exact cell_a c3_0 _ | exact cell_a (cell_a c3_0 _) _ | exact cell_a (cell_a (cell_a c3_0 _) _) _); replace c3_1 : w4.cell? ⟨w.heap.size + 1 + 1 + 1, 1, none⟩ = some (.int .i64 dy) := kp_cell hk (by first | exact c3_1 | exact cell_a c3_1 _ | exact cell_a (cell_a c3_1 _) _ | exact cell_a (cell_a (cell_a c3_1 _) _) _); replace p0 : w4.cell? ⟨LB, k * 2, none⟩ = some (.int .i64 x) := kp_cell hk (by first | exact p0 | exact cell_a p0 _ | exact cell_a (cell_a p0 _) _ | exact cell_a (cell_a (cell_a p0 _) _) _); replace p1 : w4.cell? ⟨LB, k * 2 + 1, none⟩ = some (.int .i64 y) := kp_cell hk (by first | exact p1 | exact cell_a p1 _ | exact cell_a (cell_a p1 _) _ | exact cell_a (cell_a (cell_a p1 _) _) _); replace K : Kp wo w4 := kp_trans (by repeat (first | exact K | apply kp_alloc | apply kp_drew | apply kp_drewN)) hk; replace l0_0 : w.heap.size < w4.heap.size := cell_lt c0_0; replace l1_0 : w.heap.size + 1 < w4.heap.size := cell_lt c1_0; replace l2_0 : w.heap.size + 1 + 1 < w4.heap.size := cell_lt c2_0; replace l3_0 : w.heap.size + 1 + 1 + 1 < w4.heap.size := cell_lt c3_0; clear hk))
          have P0 := Lib.hid p0
          have P1 := Lib.hid p1
          have hK := Lib.hid K
          have ho2 := HO.out
          have HOx := Lib.hid (ho2.kp K)
          have HBx := Lib.hid (kp_trans HKP.out K)
          clear K ho2 c0_0 c0_1 c1_0 c1_1 c2_0 c2_1 c3_0 c3_1 p0 p1 l0_0 l1_0 l2_0 l3_0 HKP HO
          have hd : decide ((k : Int) < 4) = true := by simp; omega
          go_wp2_with fail
          try simp only [hd]
          go_loopw [12, 13] (fun v j wi => ∃ (kk : Nat) (b : Bool), kk ≤ 0 ∧ j = .int .i64 kk ∧ v = .bool b ∧ (B && !decide (((x, y) : Pt) ∈ ([] : List Pt))) = b ∧ Kp w4 wi) (fun _ j _ => 0 - (intOf j).toNat)
          case atStart => exact ⟨0, B, by omega, rfl, rfl, by simp, kp_refl _⟩
          case round =>
            obtain ⟨kk, b, hkk, rfl, rfl, hb, hkw⟩ := hrel
            have p0 : wr.cell? ⟨LB, k * 2, none⟩ = some (.int .i64 x) := kp_cell hkw P0.out
            have p1 : wr.cell? ⟨LB, k * 2 + 1, none⟩ = some (.int .i64 y) := kp_cell hkw P1.out
            have HOi := Lib.hid (HOx.out.kp hkw)
            have HBi := Lib.hid (kp_trans HBx.out hkw)
            obtain rfl : kk = 0 := by omega
            have hb2 := hb
            have HB := Lib.hid hb2
            clear hb hb2 hkw
            cases b
            · go_wp2_with fail
              exact ⟨⟨k + 1, by omega, by go_num, by rw [HNO.out HB.out]; exact HOi.out, HBi.out⟩, by simp [intOf]; omega⟩
            · go_wp2_with (at_builtin; refine wpList_append_own_at _ rfl _ _ 23 rfl W1.heap.size 25 i0 (.agg #[.int .i64 0, .int .i64 0]) 2 16 Try.underlying23 HI.out HZ0.out HZ1.out HZ2.out rfl (by decide) _ _ _ rfl (HOi.out.kp (kp_alloc (kp_refl _) _)) ⟨wr.heap.size, 0, none⟩ 1 1 [.int .i64 x, .int .i64 y] rfl rfl (cell_two_pt _ _ _ _) (by simp [Value.oneCell']) (by have := HN.out; unfold maxLen; (try simp) <;> omega) (by have := HN.out; (try simp) <;> omega) (Below.size (kp_alloc HBi.out _)) ?_; intro v' w5 hown hgrow hnil hat; have HO3 := Lib.hid (OwnP.snoc hown); have HK3 := Lib.hid (kp_of_grown (kp_alloc HBi.out _) hgrow (HOi.out.kp (kp_alloc (kp_refl _) _))); clear hown hgrow hnil hat)
              exact ⟨⟨k + 1, by omega, by go_num, by rw [HY.out HB.out]; exact HO3.out, HK3.out⟩, by simp [intOf]; omega⟩
        · clear hrd
          have HPL := Lib.hid hpl
          obtain ⟨n, hn⟩ : ∃ n, L.length = n := ⟨_, rfl⟩
          have HLN := Lib.hid hn
          have hn4 : n ≤ 4 := by have := HN.out; omega
          rw [hn]
          clear hpl hn
          go_upto_region 8 with fail
          go_region_held3 (fun w' => Kp wo w' ∧ w'.cell? ⟨w.heap.size, 0, none⟩ = some (.int .i64 ax) ∧ w'.cell? ⟨w.heap.size, 1, none⟩ = some (.int .i64 ay) ∧ w'.cell? ⟨w.heap.size + 1, 0, none⟩ = some (.int .i64 bx) ∧ w'.cell? ⟨w.heap.size + 1, 1, none⟩ = some (.int .i64 bY) ∧ w'.cell? ⟨w.heap.size + 1 + 1, 0, none⟩ = some (.int .i64 cx) ∧ w'.cell? ⟨w.heap.size + 1 + 1, 1, none⟩ = some (.int .i64 cy) ∧ w'.cell? ⟨w.heap.size + 1 + 1 + 1, 0, none⟩ = some (.int .i64 dx) ∧ w'.cell? ⟨w.heap.size + 1 + 1 + 1, 1, none⟩ = some (.int .i64 dy) ∧ w'.cell? ⟨LB, k * 2, none⟩ = some (.int .i64 x) ∧ w'.cell? ⟨LB, k * 2 + 1, none⟩ = some (.int .i64 y)) ((first | (with_reducible exact ⟨K, c0_0, c0_1, c1_0, c1_1, c2_0, c2_1, c3_0, c3_1, p0, p1⟩) | (with_reducible exact ⟨kp_drew K, cell_d c0_0, cell_d c0_1, cell_d c1_0, cell_d c1_1, cell_d c2_0, cell_d c2_1, cell_d c3_0, cell_d c3_1, cell_d p0, cell_d p1⟩) | (with_reducible exact ⟨kp_alloc K _, cell_a c0_0 _, cell_a c0_1 _, cell_a c1_0 _, cell_a c1_1 _, cell_a c2_0 _, cell_a c2_1 _, cell_a c3_0 _, cell_a c3_1 _, cell_a p0 _, cell_a p1 _⟩) | (with_reducible exact ⟨kp_alloc (kp_drew K) _, cell_a (cell_d c0_0) _, cell_a (cell_d c0_1) _, cell_a (cell_d c1_0) _, cell_a (cell_d c1_1) _, cell_a (cell_d c2_0) _, cell_a (cell_d c2_1) _, cell_a (cell_d c3_0) _, cell_a (cell_d c3_1) _, cell_a (cell_d p0) _, cell_a (cell_d p1) _⟩) | (with_reducible exact ⟨kp_alloc (kp_alloc K _) _, cell_a (cell_a c0_0 _) _, cell_a (cell_a c0_1 _) _, cell_a (cell_a c1_0 _) _, cell_a (cell_a c1_1 _) _, cell_a (cell_a c2_0 _) _, cell_a (cell_a c2_1 _) _, cell_a (cell_a c3_0 _) _, cell_a (cell_a c3_1 _) _, cell_a (cell_a p0 _) _, cell_a (cell_a p1 _) _⟩) | (with_reducible exact ⟨kp_alloc (kp_alloc (kp_drew K) _) _, cell_a (cell_a (cell_d c0_0) _) _, cell_a (cell_a (cell_d c0_1) _) _, cell_a (cell_a (cell_d c1_0) _) _, cell_a (cell_a (cell_d c1_1) _) _, cell_a (cell_a (cell_d c2_0) _) _, cell_a (cell_a (cell_d c2_1) _) _, cell_a (cell_a (cell_d c3_0) _) _, cell_a (cell_a (cell_d c3_1) _) _, cell_a (cell_a (cell_d p0) _) _, cell_a (cell_a (cell_d p1) _) _⟩)))
            (first
              | (go_at_call 64; refine (H1.out _).mono ?_; rintro e w2 ⟨rfl, hk⟩; replace c0_0 : w2.cell? ⟨w.heap.size, 0, none⟩ = some (.int .i64 ax) := kp_cell hk (by first | exact c0_0 | exact cell_a c0_0 _ | exact cell_a (cell_a c0_0 _) _ | exact cell_a (cell_a (cell_a c0_0 _) _) _); replace c0_1 : w2.cell? ⟨w.heap.size, 1, none⟩ = some (.int .i64 ay) := kp_cell hk (by first | exact c0_1 | exact cell_a c0_1 _ | exact cell_a (cell_a c0_1 _) _ | exact cell_a (cell_a (cell_a c0_1 _) _) _); replace c1_0 : w2.cell? ⟨w.heap.size + 1, 0, none⟩ = some (.int .i64 bx) := kp_cell hk (by first | exact c1_0 | exact cell_a c1_0 _ | exact cell_a (cell_a c1_0 _) _ | exact cell_a (cell_a (cell_a c1_0 _) _) _); replace c1_1 : w2.cell? ⟨w.heap.size + 1, 1, none⟩ = some (.int .i64 bY) := kp_cell hk (by first | exact c1_1 | exact cell_a c1_1 _ | exact cell_a (cell_a c1_1 _) _ | exact cell_a (cell_a (cell_a c1_1 _) _) _); replace c2_0 : w2.cell? ⟨w.heap.size + 1 + 1, 0, none⟩ = some (.int .i64 cx) := kp_cell hk (by first | exact c2_0 | exact cell_a c2_0 _ | exact cell_a (cell_a c2_0 _) _ | exact cell_a (cell_a (cell_a c2_0 _) _) _); replace c2_1 : w2.cell? ⟨w.heap.size + 1 + 1, 1, none⟩ = some (.int .i64 cy) := kp_cell hk (by first | exact c2_1 | exact cell_a c2_1 _ | exact cell_a (cell_a c2_1 _) _ | exact cell_a (cell_a (cell_a c2_1 _) _) _); replace c3_0 : w2.cell? ⟨w.heap.size + 1 + 1 + 1, 0, none⟩ = some (.int .i64 dx) := kp_cell hk (by first | exact c3_0 | exact cell_a c3_0 _ | exact cell_a (cell_a c3_0 _) _ | exact cell_a (cell_a (cell_a c3_0 _) _) _); replace c3_1 : w2.cell? ⟨w.heap.size + 1 + 1 + 1, 1, none⟩ = some (.int .i64 dy) := kp_cell hk (by first | exact c3_1 | exact cell_a c3_1 _ | exact cell_a (cell_a c3_1 _) _ | exact cell_a (cell_a (cell_a c3_1 _) _) _); replace p0 : w2.cell? ⟨LB, k * 2, none⟩ = some (.int .i64 x) := kp_cell hk (by first | exact p0 | exact cell_a p0 _ | exact cell_a (cell_a p0 _) _ | exact cell_a (cell_a (cell_a p0 _) _) _); replace p1 : w2.cell? ⟨LB, k * 2 + 1, none⟩ = some (.int .i64 y) := kp_cell hk (by first | exact p1 | exact cell_a p1 _ | exact cell_a (cell_a p1 _) _ | exact cell_a (cell_a (cell_a p1 _) _) _); replace K : Kp wo w2 := kp_trans (by repeat (first | exact K | apply kp_alloc | apply kp_drew | apply kp_drewN)) hk; replace l0_0 : w.heap.size < w2.heap.size := cell_lt c0_0; replace l1_0 : w.heap.size + 1 < w2.heap.size := cell_lt c1_0; replace l2_0 : w.heap.size + 1 + 1 < w2.heap.size := cell_lt c2_0; replace l3_0 : w.heap.size + 1 + 1 + 1 < w2.heap.size := cell_lt c3_0; clear hk))
          go_upto_region 10 with fail
          go_region_held3 (fun w' => Kp wo w' ∧ w'.cell? ⟨w.heap.size, 0, none⟩ = some (.int .i64 ax) ∧ w'.cell? ⟨w.heap.size, 1, none⟩ = some (.int .i64 ay) ∧ w'.cell? ⟨w.heap.size + 1, 0, none⟩ = some (.int .i64 bx) ∧ w'.cell? ⟨w.heap.size + 1, 1, none⟩ = some (.int .i64 bY) ∧ w'.cell? ⟨w.heap.size + 1 + 1, 0, none⟩ = some (.int .i64 cx) ∧ w'.cell? ⟨w.heap.size + 1 + 1, 1, none⟩ = some (.int .i64 cy) ∧ w'.cell? ⟨w.heap.size + 1 + 1 + 1, 0, none⟩ = some (.int .i64 dx) ∧ w'.cell? ⟨w.heap.size + 1 + 1 + 1, 1, none⟩ = some (.int .i64 dy) ∧ w'.cell? ⟨LB, k * 2, none⟩ = some (.int .i64 x) ∧ w'.cell? ⟨LB, k * 2 + 1, none⟩ = some (.int .i64 y)) ((first | (with_reducible exact ⟨K, c0_0, c0_1, c1_0, c1_1, c2_0, c2_1, c3_0, c3_1, p0, p1⟩) | (with_reducible exact ⟨kp_drew K, cell_d c0_0, cell_d c0_1, cell_d c1_0, cell_d c1_1, cell_d c2_0, cell_d c2_1, cell_d c3_0, cell_d c3_1, cell_d p0, cell_d p1⟩) | (with_reducible exact ⟨kp_alloc K _, cell_a c0_0 _, cell_a c0_1 _, cell_a c1_0 _, cell_a c1_1 _, cell_a c2_0 _, cell_a c2_1 _, cell_a c3_0 _, cell_a c3_1 _, cell_a p0 _, cell_a p1 _⟩) | (with_reducible exact ⟨kp_alloc (kp_drew K) _, cell_a (cell_d c0_0) _, cell_a (cell_d c0_1) _, cell_a (cell_d c1_0) _, cell_a (cell_d c1_1) _, cell_a (cell_d c2_0) _, cell_a (cell_d c2_1) _, cell_a (cell_d c3_0) _, cell_a (cell_d c3_1) _, cell_a (cell_d p0) _, cell_a (cell_d p1) _⟩) | (with_reducible exact ⟨kp_alloc (kp_alloc K _) _, cell_a (cell_a c0_0 _) _, cell_a (cell_a c0_1 _) _, cell_a (cell_a c1_0 _) _, cell_a (cell_a c1_1 _) _, cell_a (cell_a c2_0 _) _, cell_a (cell_a c2_1 _) _, cell_a (cell_a c3_0 _) _, cell_a (cell_a c3_1 _) _, cell_a (cell_a p0 _) _, cell_a (cell_a p1 _) _⟩) | (with_reducible exact ⟨kp_alloc (kp_alloc (kp_drew K) _) _, cell_a (cell_a (cell_d c0_0) _) _, cell_a (cell_a (cell_d c0_1) _) _, cell_a (cell_a (cell_d c1_0) _) _, cell_a (cell_a (cell_d c1_1) _) _, cell_a (cell_a (cell_d c2_0) _) _, cell_a (cell_a (cell_d c2_1) _) _, cell_a (cell_a (cell_d c3_0) _) _, cell_a (cell_a (cell_d c3_1) _) _, cell_a (cell_a (cell_d p0) _) _, cell_a (cell_a (cell_d p1) _) _⟩)))
            (first
              | (go_at_call 64; refine (H2.out _).mono ?_; rintro e w4 ⟨rfl, hk⟩; replace c0_0 : w4.cell? ⟨w.heap.size, 0, none⟩ = some (.int .i64 ax) := kp_cell hk (by first | exact c0_0 | exact cell_a c0_0 _ | exact cell_a (cell_a c0_0 _) _ | exact cell_a (cell_a (cell_a c0_0 _) _) _); replace c0_1 : w4.cell? ⟨w.heap.size, 1, none⟩ = some (.int .i64 ay) := kp_cell hk (by first | exact c0_1 | exact cell_a c0_1 _ | exact cell_a (cell_a c0_1 _) _ | exact cell_a (cell_a (cell_a c0_1 _) _) _); replace c1_0 : w4.cell? ⟨w.heap.size + 1, 0, none⟩ = some (.int .i64 bx) := kp_cell hk (by first | exact c1_0 | exact cell_a c1_0 _ | exact cell_a (cell_a c1_0 _) _ | exact cell_a (cell_a (cell_a c1_0 _) _) _); replace c1_1 : w4.cell? ⟨w.heap.size + 1, 1, none⟩ = some (.int .i64 bY) := kp_cell hk (by first | exact c1_1 | exact cell_a c1_1 _ | exact cell_a (cell_a c1_1 _) _ | exact cell_a (cell_a (cell_a c1_1 _) _) _); replace c2_0 : w4.cell? ⟨w.heap.size + 1 + 1, 0, none⟩ = some (.int .i64 cx) := kp_cell hk (by first | exact c2_0 | exact cell_a c2_0 _ | exact cell_a (cell_a c2_0 _) _ | exact cell_a (cell_a (cell_a c2_0 _) _) _); replace c2_1 : w4.cell? ⟨w.heap.size + 1 + 1, 1, none⟩ = some (.int .i64 cy) := kp_cell hk (by first | exact c2_1 | exact cell_a c2_1 _ | exact cell_a (cell_a c2_1 _) _ | exact cell_a (cell_a (cell_a c2_1 _) _) _); replace c3_0 : w4.cell? ⟨w.heap.size + 1 + 1 + 1, 0, none⟩ = some (.int .i64 dx) := kp_cell hk (by first | exact c3_0 | exact cell_a c3_0 _ | exact cell_a (cell_a c3_0 _) _ | exact cell_a (cell_a (cell_a c3_0 _) _) _); replace c3_1 : w4.cell? ⟨w.heap.size + 1 + 1 + 1, 1, none⟩ = some (.int .i64 dy) := kp_cell hk (by first | exact c3_1 | exact cell_a c3_1 _ | exact cell_a (cell_a c3_1 _) _ | exact cell_a (cell_a (cell_a c3_1 _) _) _); replace p0 : w4.cell? ⟨LB, k * 2, none⟩ = some (.int .i64 x) := kp_cell hk (by first | exact p0 | exact cell_a p0 _ | exact cell_a (cell_a p0 _) _ | exact cell_a (cell_a (cell_a p0 _) _) _); replace p1 : w4.cell? ⟨LB, k * 2 + 1, none⟩ = some (.int .i64 y) := kp_cell hk (by first | exact p1 | exact cell_a p1 _ | exact cell_a (cell_a p1 _) _ | exact cell_a (cell_a (cell_a p1 _) _) _); replace K : Kp wo w4 := kp_trans (by repeat (first | exact K | apply kp_alloc | apply kp_drew | apply kp_drewN)) hk; replace l0_0 : w.heap.size < w4.heap.size := cell_lt c0_0; replace l1_0 : w.heap.size + 1 < w4.heap.size := cell_lt c1_0; replace l2_0 : w.heap.size + 1 + 1 < w4.heap.size := cell_lt c2_0; replace l3_0 : w.heap.size + 1 + 1 + 1 < w4.heap.size := cell_lt c3_0; clear hk))
          have P0 := Lib.hid p0
          have P1 := Lib.hid p1
          have hK := Lib.hid K
          have ho2 := HO.out
          rw [HLN.out] at ho2
          have HOx := Lib.hid (ho2.kp K)
          have HBx := Lib.hid (kp_trans HKP.out K)
          clear K ho2 c0_0 c0_1 c1_0 c1_1 c2_0 c2_1 c3_0 c3_1 p0 p1 l0_0 l1_0 l2_0 l3_0 HKP HO
          have hd : decide ((k : Int) < 4) = true := by simp; omega
          go_wp2_with fail
          try simp only [hd]
          go_loopw [12, 13] (fun v j wi => ∃ (kk : Nat) (b : Bool), kk ≤ n ∧ j = .int .i64 kk ∧ v = .bool b ∧ (B && !decide (((x, y) : Pt) ∈ L.take kk)) = b ∧ Kp w4 wi) (fun _ j _ => n - (intOf j).toNat)
          case atStart => exact ⟨0, B, by omega, rfl, rfl, by simp, kp_refl _⟩
          case round =>
            obtain ⟨kk, b, hkk, rfl, rfl, hb, hkw⟩ := hrel
            have p0 : wr.cell? ⟨LB, k * 2, none⟩ = some (.int .i64 x) := kp_cell hkw P0.out
            have p1 : wr.cell? ⟨LB, k * 2 + 1, none⟩ = some (.int .i64 y) := kp_cell hkw P1.out
            have HOi := Lib.hid (HOx.out.kp hkw)
            have HBi := Lib.hid (kp_trans HBx.out hkw)
            by_cases hlt2 : kk < n
            · have hlt3 : kk < L.length := by rw [HLN.out]; exact hlt2
              obtain ⟨ex, ey, hxy2⟩ : ∃ ex ey, L[kk] = (ex, ey) := ⟨_, _, rfl⟩
              have hs := in_take (x, y) L kk hlt3
              have hq := (HPL.out.kp (kp_trans hK.out hkw)) kk hlt3
              rw [hxy2] at hs hq
              obtain ⟨q0, q1⟩ := hq
              simp only at q0 q1
              have c1 : 0 ≤ (kk : Int) := by omega
              have c2 : (kk : Int) < (n : Int) := by omega
              have HKW := Lib.hid hkw
              clear hkw hxy2 hlt3
              cases b
              · skip
                have HS : Hid ((B && !decide (((x, y) : Pt) ∈ L.take (kk + 1))) = false) := Lib.hid (by rw [hs, Bool.not_or, ← Bool.and_assoc, hb]; rfl)
                clear hs hb
                go_wp2_with fail
                go_quiet (fail)
                go_wp2_with fail
                exact ⟨⟨kk + 1, false, by omega, by go_num, rfl, HS.out, kp_drewN HKW.out _⟩, by simp [intOf]; omega⟩
              · by_cases ex1 : ex = x
                · obtain rfl := ex1.symm
                  by_cases ey1 : ey = y
                  · obtain rfl := ey1.symm
                    have HS : Hid ((B && !decide (((x, y) : Pt) ∈ L.take (kk + 1))) = false) := Lib.hid (by rw [hs, Bool.not_or, ← Bool.and_assoc, hb]; simp)
                    clear hs hb
                    go_wp2_with fail
                    go_quiet (fail)
                    go_wp2_with fail
                    exact ⟨⟨kk + 1, false, by omega, by go_num, rfl, HS.out, kp_drewN HKW.out _⟩, by simp [intOf]; omega⟩
                  · have n1 : (ey == y) = false := by simp [ey1]
                    have n2 : (ey != y) = true := by simp [ey1]
                    have HS : Hid ((B && !decide (((x, y) : Pt) ∈ L.take (kk + 1))) = true) := Lib.hid (by rw [hs, Bool.not_or, ← Bool.and_assoc, hb]; simp [Ne.symm ey1])
                    clear hs hb
                    go_wp2_with fail
                    go_quiet (fail)
                    go_wp2_with fail
                    exact ⟨⟨kk + 1, true, by omega, by go_num, rfl, HS.out, kp_drewN HKW.out _⟩, by simp [intOf]; omega⟩
                · have n1 : (ex == x) = false := by simp [ex1]
                  have n2 : (ex != x) = true := by simp [ex1]
                  have HS : Hid ((B && !decide (((x, y) : Pt) ∈ L.take (kk + 1))) = true) := Lib.hid (by rw [hs, Bool.not_or, ← Bool.and_assoc, hb]; simp [eq_comm (a := x), ex1])
                  clear hs hb
                  go_wp2_with fail
                  go_quiet (fail)
                  go_wp2_with fail
                  exact ⟨⟨kk + 1, true, by omega, by go_num, rfl, HS.out, kp_drewN HKW.out _⟩, by simp [intOf]; omega⟩
            · obtain rfl : kk = n := by omega
              have hb2 : (B && !decide (((x, y) : Pt) ∈ L)) = b := by rw [← hb]; congr 3; rw [← HLN.out, List.take_length]
              have HB := Lib.hid hb2
              clear hb hb2 hkw
              cases b
              · go_wp2_with fail
                exact ⟨⟨k + 1, by omega, by go_num, by rw [HNO.out HB.out]; exact HOi.out, HBi.out⟩, by simp [intOf]; omega⟩
              · go_wp2_with (at_builtin; refine wpList_append_own_at _ rfl _ _ 23 rfl W1.heap.size 25 i0 (.agg #[.int .i64 0, .int .i64 0]) 2 16 Try.underlying23 HI.out HZ0.out HZ1.out HZ2.out rfl (by decide) _ _ _ rfl (HOi.out.kp (kp_alloc (kp_refl _) _)) ⟨wr.heap.size, 0, none⟩ 1 1 [.int .i64 x, .int .i64 y] rfl rfl (cell_two_pt _ _ _ _) (by simp [Value.oneCell']) (by have := HN.out; unfold maxLen; (try simp) <;> omega) (by have := HN.out; (try simp) <;> omega) (Below.size (kp_alloc HBi.out _)) ?_; intro v' w5 hown hgrow hnil hat; have HO3 := Lib.hid (OwnP.snoc hown); have HK3 := Lib.hid (kp_of_grown (kp_alloc HBi.out _) hgrow (HOi.out.kp (kp_alloc (kp_refl _) _))); clear hown hgrow hnil hat)
                exact ⟨⟨k + 1, by omega, by go_num, by rw [HY.out HB.out]; exact HO3.out, HK3.out⟩, by simp [intOf]; omega⟩
    · obtain rfl : k = 4 := by omega
      have HO : Hid (OwnP wr W1.heap.size _ (ends (ax, ay) (bx, bY) (cx, cy) (dx, dy))) := Lib.hid (by rw [← HE.out, hL]; exact ho)
      have HKW := Lib.hid hkp
      clear ho hkp hL
      go_wp2_with fail
      go_ret
      exact ⟨_, rfl, HO.out.mono (Below.size HK.out), kp_trans HK.out HKW.out⟩
theorem rends_any (ax ay bx bY cx cy dx dy : Int) (w : World) : Calls Try.prog 78 #[pv ax ay, pv bx bY, pv cx cy, pv dx dy] w (OwnEnd w (ends (ax, ay) (bx, bY) (cx, cy) (dx, dy))) := by
  cases h : (may (ax, ay) (bx, bY) && may (cx, cy) (dx, dy))
  · exact rends_no _ _ _ _ _ _ _ _ h w
  · rw [Bool.and_eq_true] at h
    exact rends_yes _ _ _ _ _ _ _ _ h.1 h.2 w
end Go.Proofs.Ytcpbemoiodbliaa
