/- The walk of PointLaws. -/
import Derived.Test.YtjgphjhanoakkaaW8
import Derived.Deep.DeepCutAuto
import Derived.WalkSmall
namespace Go.Proofs.Ytjgphjhanoakkaa
open Go.RowKit Go.Proofs.Geo

theorem laws_move {a b c d : Pt} : mvE a d = 0 → mvE b d = 0 → mvE c d = 0 → turn (mvP a d) (mvP b d) (mvP c d) = turn a b c ∧ onS (mvP c d) (mvP a d) (mvP b d) = onS c a b := by
  intro h1 h2 h3
  obtain ⟨a1, _, a2⟩ := mvE_zero h1
  obtain ⟨b1, _, b2⟩ := mvE_zero h2
  obtain ⟨c1, _, c2⟩ := mvE_zero h3
  rw [mvP_zero h1, mvP_zero h2, mvP_zero h3]
  exact ⟨turn_mv a1 b1 c1 a2 b2 c2, onS_mv c1 a1 b1 c2 a2 b2⟩
theorem laws_valid {a b c : Pt} (h : (okP a && okP b && okP c) = true) : okP a = true ∧ okP b = true ∧ okP c = true := by
  simp only [Bool.and_eq_true] at h; exact ⟨h.1.1, h.1.2, h.2⟩

set_option maxHeartbeats 4000000 in
set_option maxRecDepth 100000 in
theorem laws_bad (ax ay bx bY cx cy dx dy : Int) (h : (okP (ax, ay) && okP (bx, bY) && okP (cx, cy)) = false) (w : World) : Calls Try.prog 7 #[pv ax ay, pv bx bY, pv cx cy, pv dx dy] w fun e w' => e = .returned (.bool true) ∧ Kp w w' := by
  cases ha : okP (ax, ay)
  · have HH := Lib.hid h
    clear h
    go_enter Try.func7, Try.ntmps7
    go_wp2_with (first
        | (go_at_call 11; refine (awake07_any _).mono ?_; rintro e w1 ⟨rfl, hk⟩; have c0 : w1.cell? ⟨w.heap.size, 0, none⟩ = some (.int .i64 ax) := kp_cell hk (by simp [go_sem]); have c1 : w1.cell? ⟨w.heap.size, 1, none⟩ = some (.int .i64 ay) := kp_cell hk (by simp [go_sem]); have c2 : w1.cell? ⟨w.heap.size + 1, 0, none⟩ = some (.int .i64 bx) := kp_cell hk (by simp [go_sem]); have c3 : w1.cell? ⟨w.heap.size + 1, 1, none⟩ = some (.int .i64 bY) := kp_cell hk (by simp [go_sem]); have c4 : w1.cell? ⟨w.heap.size + 1 + 1, 0, none⟩ = some (.int .i64 cx) := kp_cell hk (by simp [go_sem]); have c5 : w1.cell? ⟨w.heap.size + 1 + 1, 1, none⟩ = some (.int .i64 cy) := kp_cell hk (by simp [go_sem]); have c6 : w1.cell? ⟨w.heap.size + 1 + 1 + 1, 0, none⟩ = some (.int .i64 dx) := kp_cell hk (by simp [go_sem]); have c7 : w1.cell? ⟨w.heap.size + 1 + 1 + 1, 1, none⟩ = some (.int .i64 dy) := kp_cell hk (by simp [go_sem]); have K : Kp w w1 := kp_trans (by repeat (first | exact kp_refl _ | apply kp_alloc)) hk; have l0 : w.heap.size < w1.heap.size := cell_lt c0; have l2 : w.heap.size + 1 < w1.heap.size := cell_lt c2; have l4 : w.heap.size + 1 + 1 < w1.heap.size := cell_lt c4; have l6 : w.heap.size + 1 + 1 + 1 < w1.heap.size := cell_lt c6; clear hk)
        | (go_at_call 18; refine (valid_any _ _ _).mono ?_; rintro e w2 ⟨rfl, hk⟩; replace c0 : w2.cell? ⟨w.heap.size, 0, none⟩ = some (.int .i64 ax) := kp_cell hk (by first | exact c0 | exact cell_a c0 _); replace c1 : w2.cell? ⟨w.heap.size, 1, none⟩ = some (.int .i64 ay) := kp_cell hk (by first | exact c1 | exact cell_a c1 _); replace c2 : w2.cell? ⟨w.heap.size + 1, 0, none⟩ = some (.int .i64 bx) := kp_cell hk (by first | exact c2 | exact cell_a c2 _); replace c3 : w2.cell? ⟨w.heap.size + 1, 1, none⟩ = some (.int .i64 bY) := kp_cell hk (by first | exact c3 | exact cell_a c3 _); replace c4 : w2.cell? ⟨w.heap.size + 1 + 1, 0, none⟩ = some (.int .i64 cx) := kp_cell hk (by first | exact c4 | exact cell_a c4 _); replace c5 : w2.cell? ⟨w.heap.size + 1 + 1, 1, none⟩ = some (.int .i64 cy) := kp_cell hk (by first | exact c5 | exact cell_a c5 _); replace c6 : w2.cell? ⟨w.heap.size + 1 + 1 + 1, 0, none⟩ = some (.int .i64 dx) := kp_cell hk (by first | exact c6 | exact cell_a c6 _); replace c7 : w2.cell? ⟨w.heap.size + 1 + 1 + 1, 1, none⟩ = some (.int .i64 dy) := kp_cell hk (by first | exact c7 | exact cell_a c7 _); replace K : Kp w w2 := kp_trans (by first | exact K | exact kp_drew K | exact kp_alloc K _) hk; replace l0 : w.heap.size < w2.heap.size := cell_lt c0; replace l2 : w.heap.size + 1 < w2.heap.size := cell_lt c2; replace l4 : w.heap.size + 1 + 1 < w2.heap.size := cell_lt c4; replace l6 : w.heap.size + 1 + 1 + 1 < w2.heap.size := cell_lt c6; clear hk))
    go_ret
    exact ⟨rfl, K⟩
  · cases hb : okP (bx, bY)
    · have HH := Lib.hid h
      clear h
      go_enter Try.func7, Try.ntmps7
      go_wp2_with (first
          | (go_at_call 11; refine (awake07_any _).mono ?_; rintro e w1 ⟨rfl, hk⟩; have c0 : w1.cell? ⟨w.heap.size, 0, none⟩ = some (.int .i64 ax) := kp_cell hk (by simp [go_sem]); have c1 : w1.cell? ⟨w.heap.size, 1, none⟩ = some (.int .i64 ay) := kp_cell hk (by simp [go_sem]); have c2 : w1.cell? ⟨w.heap.size + 1, 0, none⟩ = some (.int .i64 bx) := kp_cell hk (by simp [go_sem]); have c3 : w1.cell? ⟨w.heap.size + 1, 1, none⟩ = some (.int .i64 bY) := kp_cell hk (by simp [go_sem]); have c4 : w1.cell? ⟨w.heap.size + 1 + 1, 0, none⟩ = some (.int .i64 cx) := kp_cell hk (by simp [go_sem]); have c5 : w1.cell? ⟨w.heap.size + 1 + 1, 1, none⟩ = some (.int .i64 cy) := kp_cell hk (by simp [go_sem]); have c6 : w1.cell? ⟨w.heap.size + 1 + 1 + 1, 0, none⟩ = some (.int .i64 dx) := kp_cell hk (by simp [go_sem]); have c7 : w1.cell? ⟨w.heap.size + 1 + 1 + 1, 1, none⟩ = some (.int .i64 dy) := kp_cell hk (by simp [go_sem]); have K : Kp w w1 := kp_trans (by repeat (first | exact kp_refl _ | apply kp_alloc)) hk; have l0 : w.heap.size < w1.heap.size := cell_lt c0; have l2 : w.heap.size + 1 < w1.heap.size := cell_lt c2; have l4 : w.heap.size + 1 + 1 < w1.heap.size := cell_lt c4; have l6 : w.heap.size + 1 + 1 + 1 < w1.heap.size := cell_lt c6; clear hk)
          | (go_at_call 18; refine (valid_any _ _ _).mono ?_; rintro e w2 ⟨rfl, hk⟩; replace c0 : w2.cell? ⟨w.heap.size, 0, none⟩ = some (.int .i64 ax) := kp_cell hk (by first | exact c0 | exact cell_a c0 _); replace c1 : w2.cell? ⟨w.heap.size, 1, none⟩ = some (.int .i64 ay) := kp_cell hk (by first | exact c1 | exact cell_a c1 _); replace c2 : w2.cell? ⟨w.heap.size + 1, 0, none⟩ = some (.int .i64 bx) := kp_cell hk (by first | exact c2 | exact cell_a c2 _); replace c3 : w2.cell? ⟨w.heap.size + 1, 1, none⟩ = some (.int .i64 bY) := kp_cell hk (by first | exact c3 | exact cell_a c3 _); replace c4 : w2.cell? ⟨w.heap.size + 1 + 1, 0, none⟩ = some (.int .i64 cx) := kp_cell hk (by first | exact c4 | exact cell_a c4 _); replace c5 : w2.cell? ⟨w.heap.size + 1 + 1, 1, none⟩ = some (.int .i64 cy) := kp_cell hk (by first | exact c5 | exact cell_a c5 _); replace c6 : w2.cell? ⟨w.heap.size + 1 + 1 + 1, 0, none⟩ = some (.int .i64 dx) := kp_cell hk (by first | exact c6 | exact cell_a c6 _); replace c7 : w2.cell? ⟨w.heap.size + 1 + 1 + 1, 1, none⟩ = some (.int .i64 dy) := kp_cell hk (by first | exact c7 | exact cell_a c7 _); replace K : Kp w w2 := kp_trans (by first | exact K | exact kp_drew K | exact kp_alloc K _) hk; replace l0 : w.heap.size < w2.heap.size := cell_lt c0; replace l2 : w.heap.size + 1 < w2.heap.size := cell_lt c2; replace l4 : w.heap.size + 1 + 1 < w2.heap.size := cell_lt c4; replace l6 : w.heap.size + 1 + 1 + 1 < w2.heap.size := cell_lt c6; clear hk))
      go_ret
      exact ⟨rfl, K⟩
    · cases hc : okP (cx, cy)
      · have HH := Lib.hid h
        clear h
        go_enter Try.func7, Try.ntmps7
        go_wp2_with (first
            | (go_at_call 11; refine (awake07_any _).mono ?_; rintro e w1 ⟨rfl, hk⟩; have c0 : w1.cell? ⟨w.heap.size, 0, none⟩ = some (.int .i64 ax) := kp_cell hk (by simp [go_sem]); have c1 : w1.cell? ⟨w.heap.size, 1, none⟩ = some (.int .i64 ay) := kp_cell hk (by simp [go_sem]); have c2 : w1.cell? ⟨w.heap.size + 1, 0, none⟩ = some (.int .i64 bx) := kp_cell hk (by simp [go_sem]); have c3 : w1.cell? ⟨w.heap.size + 1, 1, none⟩ = some (.int .i64 bY) := kp_cell hk (by simp [go_sem]); have c4 : w1.cell? ⟨w.heap.size + 1 + 1, 0, none⟩ = some (.int .i64 cx) := kp_cell hk (by simp [go_sem]); have c5 : w1.cell? ⟨w.heap.size + 1 + 1, 1, none⟩ = some (.int .i64 cy) := kp_cell hk (by simp [go_sem]); have c6 : w1.cell? ⟨w.heap.size + 1 + 1 + 1, 0, none⟩ = some (.int .i64 dx) := kp_cell hk (by simp [go_sem]); have c7 : w1.cell? ⟨w.heap.size + 1 + 1 + 1, 1, none⟩ = some (.int .i64 dy) := kp_cell hk (by simp [go_sem]); have K : Kp w w1 := kp_trans (by repeat (first | exact kp_refl _ | apply kp_alloc)) hk; have l0 : w.heap.size < w1.heap.size := cell_lt c0; have l2 : w.heap.size + 1 < w1.heap.size := cell_lt c2; have l4 : w.heap.size + 1 + 1 < w1.heap.size := cell_lt c4; have l6 : w.heap.size + 1 + 1 + 1 < w1.heap.size := cell_lt c6; clear hk)
            | (go_at_call 18; refine (valid_any _ _ _).mono ?_; rintro e w2 ⟨rfl, hk⟩; replace c0 : w2.cell? ⟨w.heap.size, 0, none⟩ = some (.int .i64 ax) := kp_cell hk (by first | exact c0 | exact cell_a c0 _); replace c1 : w2.cell? ⟨w.heap.size, 1, none⟩ = some (.int .i64 ay) := kp_cell hk (by first | exact c1 | exact cell_a c1 _); replace c2 : w2.cell? ⟨w.heap.size + 1, 0, none⟩ = some (.int .i64 bx) := kp_cell hk (by first | exact c2 | exact cell_a c2 _); replace c3 : w2.cell? ⟨w.heap.size + 1, 1, none⟩ = some (.int .i64 bY) := kp_cell hk (by first | exact c3 | exact cell_a c3 _); replace c4 : w2.cell? ⟨w.heap.size + 1 + 1, 0, none⟩ = some (.int .i64 cx) := kp_cell hk (by first | exact c4 | exact cell_a c4 _); replace c5 : w2.cell? ⟨w.heap.size + 1 + 1, 1, none⟩ = some (.int .i64 cy) := kp_cell hk (by first | exact c5 | exact cell_a c5 _); replace c6 : w2.cell? ⟨w.heap.size + 1 + 1 + 1, 0, none⟩ = some (.int .i64 dx) := kp_cell hk (by first | exact c6 | exact cell_a c6 _); replace c7 : w2.cell? ⟨w.heap.size + 1 + 1 + 1, 1, none⟩ = some (.int .i64 dy) := kp_cell hk (by first | exact c7 | exact cell_a c7 _); replace K : Kp w w2 := kp_trans (by first | exact K | exact kp_drew K | exact kp_alloc K _) hk; replace l0 : w.heap.size < w2.heap.size := cell_lt c0; replace l2 : w.heap.size + 1 < w2.heap.size := cell_lt c2; replace l4 : w.heap.size + 1 + 1 < w2.heap.size := cell_lt c4; replace l6 : w.heap.size + 1 + 1 + 1 < w2.heap.size := cell_lt c6; clear hk))
        go_ret
        exact ⟨rfl, K⟩
      · rw [ha, hb, hc] at h; cases h

/-- What the law asks of a turn, of points that may be. -/
structure LawFacts (ax ay bx bY cx cy : Int) (T : Int) : Prop where
  t1 : turn (ax, ay) (bx, bY) (cx, cy) = T
  lo : -1 ≤ T
  hi : T ≤ 1
  t2 : turn (bx, bY) (cx, cy) (ax, ay) = T
  t3 : turn (cx, cy) (ax, ay) (bx, bY) = T
  t4 : turn (bx, bY) (ax, ay) (cx, cy) = -T
  t5 : turn (ax, ay) (cx, cy) (bx, bY) = -T
  t6 : turn (ax, ay) (ax, ay) (cx, cy) = 0
  t7 : turn (ax, ay) (bx, bY) (ax, ay) = 0
  t8 : turn (-ax, ay) (-bx, bY) (-cx, cy) = -T
  t9 : turn (ay, ax) (bY, bx) (cy, cx) = -T
theorem lawFacts (ax ay bx bY cx cy : Int) : LawFacts ax ay bx bY cx cy (turn (ax, ay) (bx, bY) (cx, cy)) where
  t1 := rfl
  lo := (turn_bd _ _ _).1
  hi := (turn_bd _ _ _).2
  t2 := turn_cyc _ _ _
  t3 := by rw [turn_cyc (bx, bY) (cx, cy) (ax, ay), turn_cyc]
  t4 := turn_swap _ _ _
  t5 := turn_swap' _ _ _
  t6 := turn_aac _ _
  t7 := turn_aba _ _
  t8 := turn_flip (ax, ay) (bx, bY) (cx, cy)
  t9 := turn_transp (ax, ay) (bx, bY) (cx, cy)
theorem laws_on {ax ay bx bY cx cy : Int} (ha : okP (ax, ay) = true) (hb : okP (bx, bY) = true) (hc : okP (cx, cy) = true) :
    (onS (cx, cy) (ax, ay) (bx, bY) = true ∧ turn (ax, ay) (bx, bY) (cx, cy) = 0) ∨
    (onS (cx, cy) (ax, ay) (bx, bY) = false ∧ onS (ax, ay) (bx, bY) (cx, cy) = true ∧ turn (ax, ay) (bx, bY) (cx, cy) = 0) ∨
    (onS (cx, cy) (ax, ay) (bx, bY) = false ∧ onS (ax, ay) (bx, bY) (cx, cy) = false ∧ onS (bx, bY) (ax, ay) (cx, cy) = true ∧ turn (ax, ay) (bx, bY) (cx, cy) = 0) ∨
    (onS (cx, cy) (ax, ay) (bx, bY) = false ∧ onS (ax, ay) (bx, bY) (cx, cy) = false ∧ onS (bx, bY) (ax, ay) (cx, cy) = false ∧ (turn (ax, ay) (bx, bY) (cx, cy) == 0) = false) := by
  have k := turn_zero_iff ha hb hc
  cases h1 : onS (cx, cy) (ax, ay) (bx, bY)
  · cases h2 : onS (ax, ay) (bx, bY) (cx, cy)
    · cases h3 : onS (bx, bY) (ax, ay) (cx, cy)
      · right; right; right; refine ⟨rfl, rfl, rfl, ?_⟩
        rw [beq_eq_false_iff_ne]; intro e; have := k.1 e; simp [h1, h2, h3] at this
      · right; right; left; exact ⟨rfl, rfl, rfl, k.2 (.inr (.inr h3))⟩
    · right; left; exact ⟨rfl, rfl, k.2 (.inr (.inl h2))⟩
  · left; exact ⟨rfl, k.2 (.inl h1)⟩

set_option maxHeartbeats 8000000 in
set_option maxRecDepth 100000 in
theorem laws_good (ax ay bx bY cx cy dx dy : Int) (h : (okP (ax, ay) && okP (bx, bY) && okP (cx, cy)) = true) (w : World) : Calls Try.prog 7 #[pv ax ay, pv bx bY, pv cx cy, pv dx dy] w fun e w' => e = .returned (.bool true) ∧ Kp w w' := by
  obtain ⟨ha, hb, hc⟩ := laws_valid h
  clear h
  have HO := Lib.hid (laws_on ha hb hc)
  have e4 := onS_left ha hb
  have e5 := onS_right ha hb
  have e6 : onS (cx, cy) (bx, bY) (ax, ay) = onS (cx, cy) (ax, ay) (bx, bY) := onS_comm _ _ _
  have hL := lawFacts ax ay bx bY cx cy
  have HM := Lib.hid (laws_move (a := (ax, ay)) (b := (bx, bY)) (c := (cx, cy)) (d := (dx, dy)))
  obtain ⟨⟨a1, a2⟩, a3, a4⟩ := okP_iff.1 ha
  obtain ⟨⟨b1, b2⟩, b3, b4⟩ := okP_iff.1 hb
  obtain ⟨⟨c1', c2'⟩, c3', c4'⟩ := okP_iff.1 hc
  simp only at a1 a2 a3 a4 b1 b2 b3 b4 c1' c2' c3' c4'
  obtain ⟨T, hT⟩ : ∃ T, turn (ax, ay) (bx, bY) (cx, cy) = T := ⟨_, rfl⟩
  obtain ⟨O, hO⟩ : ∃ O, onS (cx, cy) (ax, ay) (bx, bY) = O := ⟨_, rfl⟩
  rw [hT] at hL
  rw [hO] at e6
  have HO0 := HO.out
  rw [hO, hT] at HO0
  clear HO
  have HO : Hid ((O = true ∧ (T == 0) = true) ∨ (O = false ∧ onS (ax, ay) (bx, bY) (cx, cy) = true ∧ (T == 0) = true) ∨
      (O = false ∧ onS (ax, ay) (bx, bY) (cx, cy) = false ∧ onS (bx, bY) (ax, ay) (cx, cy) = true ∧ (T == 0) = true) ∨
      (O = false ∧ onS (ax, ay) (bx, bY) (cx, cy) = false ∧ onS (bx, bY) (ax, ay) (cx, cy) = false ∧ (T == 0) = false)) := by
    rcases HO0 with ⟨h1, h2⟩ | ⟨h1, h2, h3⟩ | ⟨h1, h2, h3, h4⟩ | ⟨h1, h2, h3, h4⟩
    · exact Lib.hid (.inl ⟨h1, by simp [h2]⟩)
    · exact Lib.hid (.inr (.inl ⟨h1, h2, by simp [h3]⟩))
    · exact Lib.hid (.inr (.inr (.inl ⟨h1, h2, h3, by simp [h4]⟩)))
    · exact Lib.hid (.inr (.inr (.inr ⟨h1, h2, h3, h4⟩)))
  have HZ : Hid (O = true → T = 0) := by
    rcases HO0 with ⟨h1, h2⟩ | ⟨h1, h2, h3⟩ | ⟨h1, h2, h3, h4⟩ | ⟨h1, h2, h3, h4⟩
    · exact Lib.hid fun _ => h2
    · exact Lib.hid fun _ => h3
    · exact Lib.hid fun _ => h4
    · exact Lib.hid fun k => by rw [h1] at k; cases k
  clear HO0
  obtain ⟨t1, lo, hi, t2, t3, t4, t5, t6, t7, t8, t9⟩ := hL
  clear hT
  go_enter Try.func7, Try.ntmps7
  go_upto_region 7 with (first
      | (go_at_call 11; refine (awake07_any _).mono ?_; rintro e w1 ⟨rfl, hk⟩; have c0 : w1.cell? ⟨w.heap.size, 0, none⟩ = some (.int .i64 ax) := kp_cell hk (by simp [go_sem]); have c1 : w1.cell? ⟨w.heap.size, 1, none⟩ = some (.int .i64 ay) := kp_cell hk (by simp [go_sem]); have c2 : w1.cell? ⟨w.heap.size + 1, 0, none⟩ = some (.int .i64 bx) := kp_cell hk (by simp [go_sem]); have c3 : w1.cell? ⟨w.heap.size + 1, 1, none⟩ = some (.int .i64 bY) := kp_cell hk (by simp [go_sem]); have c4 : w1.cell? ⟨w.heap.size + 1 + 1, 0, none⟩ = some (.int .i64 cx) := kp_cell hk (by simp [go_sem]); have c5 : w1.cell? ⟨w.heap.size + 1 + 1, 1, none⟩ = some (.int .i64 cy) := kp_cell hk (by simp [go_sem]); have c6 : w1.cell? ⟨w.heap.size + 1 + 1 + 1, 0, none⟩ = some (.int .i64 dx) := kp_cell hk (by simp [go_sem]); have c7 : w1.cell? ⟨w.heap.size + 1 + 1 + 1, 1, none⟩ = some (.int .i64 dy) := kp_cell hk (by simp [go_sem]); have K : Kp w w1 := kp_trans (by repeat (first | exact kp_refl _ | apply kp_alloc)) hk; have l0 : w.heap.size < w1.heap.size := cell_lt c0; have l2 : w.heap.size + 1 < w1.heap.size := cell_lt c2; have l4 : w.heap.size + 1 + 1 < w1.heap.size := cell_lt c4; have l6 : w.heap.size + 1 + 1 + 1 < w1.heap.size := cell_lt c6; clear hk)
      | (go_at_call 18; refine (valid_any _ _ _).mono ?_; rintro e w2 ⟨rfl, hk⟩; replace c0 : w2.cell? ⟨w.heap.size, 0, none⟩ = some (.int .i64 ax) := kp_cell hk (by first | exact c0 | exact cell_a c0 _); replace c1 : w2.cell? ⟨w.heap.size, 1, none⟩ = some (.int .i64 ay) := kp_cell hk (by first | exact c1 | exact cell_a c1 _); replace c2 : w2.cell? ⟨w.heap.size + 1, 0, none⟩ = some (.int .i64 bx) := kp_cell hk (by first | exact c2 | exact cell_a c2 _); replace c3 : w2.cell? ⟨w.heap.size + 1, 1, none⟩ = some (.int .i64 bY) := kp_cell hk (by first | exact c3 | exact cell_a c3 _); replace c4 : w2.cell? ⟨w.heap.size + 1 + 1, 0, none⟩ = some (.int .i64 cx) := kp_cell hk (by first | exact c4 | exact cell_a c4 _); replace c5 : w2.cell? ⟨w.heap.size + 1 + 1, 1, none⟩ = some (.int .i64 cy) := kp_cell hk (by first | exact c5 | exact cell_a c5 _); replace c6 : w2.cell? ⟨w.heap.size + 1 + 1 + 1, 0, none⟩ = some (.int .i64 dx) := kp_cell hk (by first | exact c6 | exact cell_a c6 _); replace c7 : w2.cell? ⟨w.heap.size + 1 + 1 + 1, 1, none⟩ = some (.int .i64 dy) := kp_cell hk (by first | exact c7 | exact cell_a c7 _); replace K : Kp w w2 := kp_trans (by first | exact K | exact kp_drew K | exact kp_alloc K _) hk; replace l0 : w.heap.size < w2.heap.size := cell_lt c0; replace l2 : w.heap.size + 1 < w2.heap.size := cell_lt c2; replace l4 : w.heap.size + 1 + 1 < w2.heap.size := cell_lt c4; replace l6 : w.heap.size + 1 + 1 + 1 < w2.heap.size := cell_lt c6; clear hk)
      | (go_at_call 12; refine (turn_any _ _ _ _ _ _ _).mono ?_; rintro e w2 ⟨rfl, hk⟩; replace c0 : w2.cell? ⟨w.heap.size, 0, none⟩ = some (.int .i64 ax) := kp_cell hk (by first | exact c0 | exact cell_a c0 _); replace c1 : w2.cell? ⟨w.heap.size, 1, none⟩ = some (.int .i64 ay) := kp_cell hk (by first | exact c1 | exact cell_a c1 _); replace c2 : w2.cell? ⟨w.heap.size + 1, 0, none⟩ = some (.int .i64 bx) := kp_cell hk (by first | exact c2 | exact cell_a c2 _); replace c3 : w2.cell? ⟨w.heap.size + 1, 1, none⟩ = some (.int .i64 bY) := kp_cell hk (by first | exact c3 | exact cell_a c3 _); replace c4 : w2.cell? ⟨w.heap.size + 1 + 1, 0, none⟩ = some (.int .i64 cx) := kp_cell hk (by first | exact c4 | exact cell_a c4 _); replace c5 : w2.cell? ⟨w.heap.size + 1 + 1, 1, none⟩ = some (.int .i64 cy) := kp_cell hk (by first | exact c5 | exact cell_a c5 _); replace c6 : w2.cell? ⟨w.heap.size + 1 + 1 + 1, 0, none⟩ = some (.int .i64 dx) := kp_cell hk (by first | exact c6 | exact cell_a c6 _); replace c7 : w2.cell? ⟨w.heap.size + 1 + 1 + 1, 1, none⟩ = some (.int .i64 dy) := kp_cell hk (by first | exact c7 | exact cell_a c7 _); replace K : Kp w w2 := kp_trans (by first | exact K | exact kp_drew K | exact kp_alloc K _) hk; replace l0 : w.heap.size < w2.heap.size := cell_lt c0; replace l2 : w.heap.size + 1 < w2.heap.size := cell_lt c2; replace l4 : w.heap.size + 1 + 1 < w2.heap.size := cell_lt c4; replace l6 : w.heap.size + 1 + 1 + 1 < w2.heap.size := cell_lt c6; clear hk))
  go_cut [133] (fun s wx => s = .bool false ∧ Kp w wx ∧ wx.cell? ⟨w.heap.size, 0, none⟩ = some (.int .i64 ax) ∧ wx.cell? ⟨w.heap.size, 1, none⟩ = some (.int .i64 ay) ∧ wx.cell? ⟨w.heap.size + 1, 0, none⟩ = some (.int .i64 bx) ∧ wx.cell? ⟨w.heap.size + 1, 1, none⟩ = some (.int .i64 bY) ∧ wx.cell? ⟨w.heap.size + 1 + 1, 0, none⟩ = some (.int .i64 cx) ∧ wx.cell? ⟨w.heap.size + 1 + 1, 1, none⟩ = some (.int .i64 cy) ∧ wx.cell? ⟨w.heap.size + 1 + 1 + 1, 0, none⟩ = some (.int .i64 dx) ∧ wx.cell? ⟨w.heap.size + 1 + 1 + 1, 1, none⟩ = some (.int .i64 dy))
  case first =>
    have nax : IntKind.i64.wrap (-ax) = -ax := IntWalk.i64_in _ (by omega)
    have nbx : IntKind.i64.wrap (-bx) = -bx := IntWalk.i64_in _ (by omega)
    have ncx : IntKind.i64.wrap (-cx) = -cx := IntWalk.i64_in _ (by omega)
    have nT : IntKind.i64.wrap (-T) = -T := IntWalk.i64_in _ (by omega)
    go_region_held3 (fun w' => Kp w w' ∧ w'.cell? ⟨w.heap.size, 0, none⟩ = some (.int .i64 ax) ∧ w'.cell? ⟨w.heap.size, 1, none⟩ = some (.int .i64 ay) ∧ w'.cell? ⟨w.heap.size + 1, 0, none⟩ = some (.int .i64 bx) ∧ w'.cell? ⟨w.heap.size + 1, 1, none⟩ = some (.int .i64 bY) ∧ w'.cell? ⟨w.heap.size + 1 + 1, 0, none⟩ = some (.int .i64 cx) ∧ w'.cell? ⟨w.heap.size + 1 + 1, 1, none⟩ = some (.int .i64 cy) ∧ w'.cell? ⟨w.heap.size + 1 + 1 + 1, 0, none⟩ = some (.int .i64 dx) ∧ w'.cell? ⟨w.heap.size + 1 + 1 + 1, 1, none⟩ = some (.int .i64 dy)) ((first | exact ⟨K, c0, c1, c2, c3, c4, c5, c6, c7⟩ | exact ⟨kp_drew K, c0, c1, c2, c3, c4, c5, c6, c7⟩))
      (first
        | (go_at_call 13; refine (at07_any _ _ _).mono ?_; rintro e w2 ⟨rfl, hk⟩; replace c0 : w2.cell? ⟨w.heap.size, 0, none⟩ = some (.int .i64 ax) := kp_cell hk (by first | exact c0 | exact cell_a c0 _); replace c1 : w2.cell? ⟨w.heap.size, 1, none⟩ = some (.int .i64 ay) := kp_cell hk (by first | exact c1 | exact cell_a c1 _); replace c2 : w2.cell? ⟨w.heap.size + 1, 0, none⟩ = some (.int .i64 bx) := kp_cell hk (by first | exact c2 | exact cell_a c2 _); replace c3 : w2.cell? ⟨w.heap.size + 1, 1, none⟩ = some (.int .i64 bY) := kp_cell hk (by first | exact c3 | exact cell_a c3 _); replace c4 : w2.cell? ⟨w.heap.size + 1 + 1, 0, none⟩ = some (.int .i64 cx) := kp_cell hk (by first | exact c4 | exact cell_a c4 _); replace c5 : w2.cell? ⟨w.heap.size + 1 + 1, 1, none⟩ = some (.int .i64 cy) := kp_cell hk (by first | exact c5 | exact cell_a c5 _); replace c6 : w2.cell? ⟨w.heap.size + 1 + 1 + 1, 0, none⟩ = some (.int .i64 dx) := kp_cell hk (by first | exact c6 | exact cell_a c6 _); replace c7 : w2.cell? ⟨w.heap.size + 1 + 1 + 1, 1, none⟩ = some (.int .i64 dy) := kp_cell hk (by first | exact c7 | exact cell_a c7 _); replace K : Kp w w2 := kp_trans (by first | exact K | exact kp_drew K | exact kp_alloc K _) hk; replace l0 : w.heap.size < w2.heap.size := cell_lt c0; replace l2 : w.heap.size + 1 < w2.heap.size := cell_lt c2; replace l4 : w.heap.size + 1 + 1 < w2.heap.size := cell_lt c4; replace l6 : w.heap.size + 1 + 1 + 1 < w2.heap.size := cell_lt c6; clear hk)
        | (go_at_call 12; refine (turn_any _ _ _ _ _ _ _).mono ?_; rintro e w2 ⟨rfl, hk⟩; replace c0 : w2.cell? ⟨w.heap.size, 0, none⟩ = some (.int .i64 ax) := kp_cell hk (by first | exact c0 | exact cell_a c0 _); replace c1 : w2.cell? ⟨w.heap.size, 1, none⟩ = some (.int .i64 ay) := kp_cell hk (by first | exact c1 | exact cell_a c1 _); replace c2 : w2.cell? ⟨w.heap.size + 1, 0, none⟩ = some (.int .i64 bx) := kp_cell hk (by first | exact c2 | exact cell_a c2 _); replace c3 : w2.cell? ⟨w.heap.size + 1, 1, none⟩ = some (.int .i64 bY) := kp_cell hk (by first | exact c3 | exact cell_a c3 _); replace c4 : w2.cell? ⟨w.heap.size + 1 + 1, 0, none⟩ = some (.int .i64 cx) := kp_cell hk (by first | exact c4 | exact cell_a c4 _); replace c5 : w2.cell? ⟨w.heap.size + 1 + 1, 1, none⟩ = some (.int .i64 cy) := kp_cell hk (by first | exact c5 | exact cell_a c5 _); replace c6 : w2.cell? ⟨w.heap.size + 1 + 1 + 1, 0, none⟩ = some (.int .i64 dx) := kp_cell hk (by first | exact c6 | exact cell_a c6 _); replace c7 : w2.cell? ⟨w.heap.size + 1 + 1 + 1, 1, none⟩ = some (.int .i64 dy) := kp_cell hk (by first | exact c7 | exact cell_a c7 _); replace K : Kp w w2 := kp_trans (by first | exact K | exact kp_drew K | exact kp_alloc K _) hk; replace l0 : w.heap.size < w2.heap.size := cell_lt c0; replace l2 : w.heap.size + 1 < w2.heap.size := cell_lt c2; replace l4 : w.heap.size + 1 + 1 < w2.heap.size := cell_lt c4; replace l6 : w.heap.size + 1 + 1 + 1 < w2.heap.size := cell_lt c6; clear hk))
    go_wp2_with fail
    go_meet
    exact ⟨rfl, K, c0, c1, c2, c3, c4, c5, c6, c7⟩
  case rest => as_aux_lemma =>
    clear K c0 c1 c2 c3 c4 c5 c6 c7 l0 l2 l4 l6
    obtain ⟨rfl, K, c0, c1, c2, c3, c4, c5, c6, c7⟩ := hcut
    have l0 : w.heap.size < wc.heap.size := cell_lt c0; have l2 : w.heap.size + 1 < wc.heap.size := cell_lt c2; have l4 : w.heap.size + 1 + 1 < wc.heap.size := cell_lt c4; have l6 : w.heap.size + 1 + 1 + 1 < wc.heap.size := cell_lt c6
    go_upto_region 12 with (first
        | (go_at_call_of 16 (Value.agg #[Value.int .i64 ax, Value.int .i64 ay]); refine (move_any ax ay dx dy _).mono ?_; rintro e wa ⟨rfl, hk⟩; replace c0 : wa.cell? ⟨w.heap.size, 0, none⟩ = some (.int .i64 ax) := kp_cell hk (by first | exact c0 | exact cell_a c0 _); replace c1 : wa.cell? ⟨w.heap.size, 1, none⟩ = some (.int .i64 ay) := kp_cell hk (by first | exact c1 | exact cell_a c1 _); replace c2 : wa.cell? ⟨w.heap.size + 1, 0, none⟩ = some (.int .i64 bx) := kp_cell hk (by first | exact c2 | exact cell_a c2 _); replace c3 : wa.cell? ⟨w.heap.size + 1, 1, none⟩ = some (.int .i64 bY) := kp_cell hk (by first | exact c3 | exact cell_a c3 _); replace c4 : wa.cell? ⟨w.heap.size + 1 + 1, 0, none⟩ = some (.int .i64 cx) := kp_cell hk (by first | exact c4 | exact cell_a c4 _); replace c5 : wa.cell? ⟨w.heap.size + 1 + 1, 1, none⟩ = some (.int .i64 cy) := kp_cell hk (by first | exact c5 | exact cell_a c5 _); replace c6 : wa.cell? ⟨w.heap.size + 1 + 1 + 1, 0, none⟩ = some (.int .i64 dx) := kp_cell hk (by first | exact c6 | exact cell_a c6 _); replace c7 : wa.cell? ⟨w.heap.size + 1 + 1 + 1, 1, none⟩ = some (.int .i64 dy) := kp_cell hk (by first | exact c7 | exact cell_a c7 _); replace K : Kp w wa := kp_trans (by first | exact K | exact kp_drew K | exact kp_alloc K _) hk; replace l0 : w.heap.size < wa.heap.size := cell_lt c0; replace l2 : w.heap.size + 1 < wa.heap.size := cell_lt c2; replace l4 : w.heap.size + 1 + 1 < wa.heap.size := cell_lt c4; replace l6 : w.heap.size + 1 + 1 + 1 < wa.heap.size := cell_lt c6; clear hk)
        | (go_at_call_of 16 (Value.agg #[Value.int .i64 bx, Value.int .i64 bY]); refine (move_any bx bY dx dy _).mono ?_; rintro e wb ⟨rfl, hk⟩; replace c0 : wb.cell? ⟨w.heap.size, 0, none⟩ = some (.int .i64 ax) := kp_cell hk (by first | exact c0 | exact cell_a c0 _); replace c1 : wb.cell? ⟨w.heap.size, 1, none⟩ = some (.int .i64 ay) := kp_cell hk (by first | exact c1 | exact cell_a c1 _); replace c2 : wb.cell? ⟨w.heap.size + 1, 0, none⟩ = some (.int .i64 bx) := kp_cell hk (by first | exact c2 | exact cell_a c2 _); replace c3 : wb.cell? ⟨w.heap.size + 1, 1, none⟩ = some (.int .i64 bY) := kp_cell hk (by first | exact c3 | exact cell_a c3 _); replace c4 : wb.cell? ⟨w.heap.size + 1 + 1, 0, none⟩ = some (.int .i64 cx) := kp_cell hk (by first | exact c4 | exact cell_a c4 _); replace c5 : wb.cell? ⟨w.heap.size + 1 + 1, 1, none⟩ = some (.int .i64 cy) := kp_cell hk (by first | exact c5 | exact cell_a c5 _); replace c6 : wb.cell? ⟨w.heap.size + 1 + 1 + 1, 0, none⟩ = some (.int .i64 dx) := kp_cell hk (by first | exact c6 | exact cell_a c6 _); replace c7 : wb.cell? ⟨w.heap.size + 1 + 1 + 1, 1, none⟩ = some (.int .i64 dy) := kp_cell hk (by first | exact c7 | exact cell_a c7 _); have x0 : wb.cell? ⟨wa.heap.size, 0, none⟩ = some (.int .i64 (mvP (ax, ay) (dx, dy)).1) := kp_cell hk (by simp [go_sem]); have x1 : wb.cell? ⟨wa.heap.size, 1, none⟩ = some (.int .i64 (mvP (ax, ay) (dx, dy)).2) := kp_cell hk (by simp [go_sem]); replace K : Kp w wb := kp_trans (by first | exact K | exact kp_drew K | exact kp_alloc K _) hk; replace l0 : w.heap.size < wb.heap.size := cell_lt c0; replace l2 : w.heap.size + 1 < wb.heap.size := cell_lt c2; replace l4 : w.heap.size + 1 + 1 < wb.heap.size := cell_lt c4; replace l6 : w.heap.size + 1 + 1 + 1 < wb.heap.size := cell_lt c6; have lx0 : wa.heap.size < wb.heap.size := cell_lt x0; clear hk)
        | (go_at_call_of 16 (Value.agg #[Value.int .i64 cx, Value.int .i64 cy]); refine (move_any cx cy dx dy _).mono ?_; rintro e wd ⟨rfl, hk⟩; replace c0 : wd.cell? ⟨w.heap.size, 0, none⟩ = some (.int .i64 ax) := kp_cell hk (by first | exact c0 | exact cell_a c0 _); replace c1 : wd.cell? ⟨w.heap.size, 1, none⟩ = some (.int .i64 ay) := kp_cell hk (by first | exact c1 | exact cell_a c1 _); replace c2 : wd.cell? ⟨w.heap.size + 1, 0, none⟩ = some (.int .i64 bx) := kp_cell hk (by first | exact c2 | exact cell_a c2 _); replace c3 : wd.cell? ⟨w.heap.size + 1, 1, none⟩ = some (.int .i64 bY) := kp_cell hk (by first | exact c3 | exact cell_a c3 _); replace c4 : wd.cell? ⟨w.heap.size + 1 + 1, 0, none⟩ = some (.int .i64 cx) := kp_cell hk (by first | exact c4 | exact cell_a c4 _); replace c5 : wd.cell? ⟨w.heap.size + 1 + 1, 1, none⟩ = some (.int .i64 cy) := kp_cell hk (by first | exact c5 | exact cell_a c5 _); replace c6 : wd.cell? ⟨w.heap.size + 1 + 1 + 1, 0, none⟩ = some (.int .i64 dx) := kp_cell hk (by first | exact c6 | exact cell_a c6 _); replace c7 : wd.cell? ⟨w.heap.size + 1 + 1 + 1, 1, none⟩ = some (.int .i64 dy) := kp_cell hk (by first | exact c7 | exact cell_a c7 _); replace x0 : wd.cell? ⟨wa.heap.size, 0, none⟩ = some (.int .i64 (mvP (ax, ay) (dx, dy)).1) := kp_cell hk (by first | exact x0 | exact cell_a x0 _); replace x1 : wd.cell? ⟨wa.heap.size, 1, none⟩ = some (.int .i64 (mvP (ax, ay) (dx, dy)).2) := kp_cell hk (by first | exact x1 | exact cell_a x1 _); have y0 : wd.cell? ⟨wb.heap.size, 0, none⟩ = some (.int .i64 (mvP (bx, bY) (dx, dy)).1) := kp_cell hk (by simp [go_sem]); have y1 : wd.cell? ⟨wb.heap.size, 1, none⟩ = some (.int .i64 (mvP (bx, bY) (dx, dy)).2) := kp_cell hk (by simp [go_sem]); replace K : Kp w wd := kp_trans (by first | exact K | exact kp_drew K | exact kp_alloc K _) hk; replace l0 : w.heap.size < wd.heap.size := cell_lt c0; replace l2 : w.heap.size + 1 < wd.heap.size := cell_lt c2; replace l4 : w.heap.size + 1 + 1 < wd.heap.size := cell_lt c4; replace l6 : w.heap.size + 1 + 1 + 1 < wd.heap.size := cell_lt c6; replace lx0 : wa.heap.size < wd.heap.size := cell_lt x0; have ly0 : wb.heap.size < wd.heap.size := cell_lt y0; clear hk))
    go_cut [180] (fun s wx => s = .bool false ∧ Kp w wx ∧ wx.cell? ⟨w.heap.size, 0, none⟩ = some (.int .i64 ax) ∧ wx.cell? ⟨w.heap.size, 1, none⟩ = some (.int .i64 ay) ∧ wx.cell? ⟨w.heap.size + 1, 0, none⟩ = some (.int .i64 bx) ∧ wx.cell? ⟨w.heap.size + 1, 1, none⟩ = some (.int .i64 bY) ∧ wx.cell? ⟨w.heap.size + 1 + 1, 0, none⟩ = some (.int .i64 cx) ∧ wx.cell? ⟨w.heap.size + 1 + 1, 1, none⟩ = some (.int .i64 cy))
    case first =>
      clear c6 c7 l6
      replace c0 : (wd.alloc (.cells #[.int .i64 (mvP (cx, cy) (dx, dy)).1, .int .i64 (mvP (cx, cy) (dx, dy)).2] 23)).cell? ⟨w.heap.size, 0, none⟩ = some (.int .i64 ax) := cell_a c0 _
      replace c1 : (wd.alloc (.cells #[.int .i64 (mvP (cx, cy) (dx, dy)).1, .int .i64 (mvP (cx, cy) (dx, dy)).2] 23)).cell? ⟨w.heap.size, 1, none⟩ = some (.int .i64 ay) := cell_a c1 _
      replace c2 : (wd.alloc (.cells #[.int .i64 (mvP (cx, cy) (dx, dy)).1, .int .i64 (mvP (cx, cy) (dx, dy)).2] 23)).cell? ⟨w.heap.size + 1, 0, none⟩ = some (.int .i64 bx) := cell_a c2 _
      replace c3 : (wd.alloc (.cells #[.int .i64 (mvP (cx, cy) (dx, dy)).1, .int .i64 (mvP (cx, cy) (dx, dy)).2] 23)).cell? ⟨w.heap.size + 1, 1, none⟩ = some (.int .i64 bY) := cell_a c3 _
      replace c4 : (wd.alloc (.cells #[.int .i64 (mvP (cx, cy) (dx, dy)).1, .int .i64 (mvP (cx, cy) (dx, dy)).2] 23)).cell? ⟨w.heap.size + 1 + 1, 0, none⟩ = some (.int .i64 cx) := cell_a c4 _
      replace c5 : (wd.alloc (.cells #[.int .i64 (mvP (cx, cy) (dx, dy)).1, .int .i64 (mvP (cx, cy) (dx, dy)).2] 23)).cell? ⟨w.heap.size + 1 + 1, 1, none⟩ = some (.int .i64 cy) := cell_a c5 _
      replace x0 : (wd.alloc (.cells #[.int .i64 (mvP (cx, cy) (dx, dy)).1, .int .i64 (mvP (cx, cy) (dx, dy)).2] 23)).cell? ⟨wa.heap.size, 0, none⟩ = some (.int .i64 (mvP (ax, ay) (dx, dy)).1) := cell_a x0 _
      replace x1 : (wd.alloc (.cells #[.int .i64 (mvP (cx, cy) (dx, dy)).1, .int .i64 (mvP (cx, cy) (dx, dy)).2] 23)).cell? ⟨wa.heap.size, 1, none⟩ = some (.int .i64 (mvP (ax, ay) (dx, dy)).2) := cell_a x1 _
      replace y0 : (wd.alloc (.cells #[.int .i64 (mvP (cx, cy) (dx, dy)).1, .int .i64 (mvP (cx, cy) (dx, dy)).2] 23)).cell? ⟨wb.heap.size, 0, none⟩ = some (.int .i64 (mvP (bx, bY) (dx, dy)).1) := cell_a y0 _
      replace y1 : (wd.alloc (.cells #[.int .i64 (mvP (cx, cy) (dx, dy)).1, .int .i64 (mvP (cx, cy) (dx, dy)).2] 23)).cell? ⟨wb.heap.size, 1, none⟩ = some (.int .i64 (mvP (bx, bY) (dx, dy)).2) := cell_a y1 _
      have z0 : (wd.alloc (.cells #[.int .i64 (mvP (cx, cy) (dx, dy)).1, .int .i64 (mvP (cx, cy) (dx, dy)).2] 23)).cell? ⟨wd.heap.size, 0, none⟩ = some (.int .i64 (mvP (cx, cy) (dx, dy)).1) := by simp [go_sem]
      have z1 : (wd.alloc (.cells #[.int .i64 (mvP (cx, cy) (dx, dy)).1, .int .i64 (mvP (cx, cy) (dx, dy)).2] 23)).cell? ⟨wd.heap.size, 1, none⟩ = some (.int .i64 (mvP (cx, cy) (dx, dy)).2) := by simp [go_sem]
      replace K : Kp w (wd.alloc (.cells #[.int .i64 (mvP (cx, cy) (dx, dy)).1, .int .i64 (mvP (cx, cy) (dx, dy)).2] 23)) := kp_alloc K _
      clear l0 l2 l4
      have l0 : w.heap.size < (wd.alloc (.cells #[.int .i64 (mvP (cx, cy) (dx, dy)).1, .int .i64 (mvP (cx, cy) (dx, dy)).2] 23)).heap.size := cell_lt c0
      have l2 : w.heap.size + 1 < (wd.alloc (.cells #[.int .i64 (mvP (cx, cy) (dx, dy)).1, .int .i64 (mvP (cx, cy) (dx, dy)).2] 23)).heap.size := cell_lt c2
      have l4 : w.heap.size + 1 + 1 < (wd.alloc (.cells #[.int .i64 (mvP (cx, cy) (dx, dy)).1, .int .i64 (mvP (cx, cy) (dx, dy)).2] 23)).heap.size := cell_lt c4
      have lx0 : wa.heap.size < (wd.alloc (.cells #[.int .i64 (mvP (cx, cy) (dx, dy)).1, .int .i64 (mvP (cx, cy) (dx, dy)).2] 23)).heap.size := cell_lt x0
      have ly0 : wb.heap.size < (wd.alloc (.cells #[.int .i64 (mvP (cx, cy) (dx, dy)).1, .int .i64 (mvP (cx, cy) (dx, dy)).2] 23)).heap.size := cell_lt y0
      have lz0 : wd.heap.size < (wd.alloc (.cells #[.int .i64 (mvP (cx, cy) (dx, dy)).1, .int .i64 (mvP (cx, cy) (dx, dy)).2] 23)).heap.size := cell_lt z0
      by_cases hE : mvE (ax, ay) (dx, dy) = 0
      · by_cases hF : mvE (bx, bY) (dx, dy) = 0
        · by_cases hG : mvE (cx, cy) (dx, dy) = 0
          · obtain ⟨m1, m2⟩ := HM.out hE hF hG
            have m1' : turn ((mvP (ax, ay) (dx, dy)).1, (mvP (ax, ay) (dx, dy)).2) ((mvP (bx, bY) (dx, dy)).1, (mvP (bx, bY) (dx, dy)).2) ((mvP (cx, cy) (dx, dy)).1, (mvP (cx, cy) (dx, dy)).2) = T := m1.trans t1
            have m2' : onS ((mvP (cx, cy) (dx, dy)).1, (mvP (cx, cy) (dx, dy)).2) ((mvP (ax, ay) (dx, dy)).1, (mvP (ax, ay) (dx, dy)).2) ((mvP (bx, bY) (dx, dy)).1, (mvP (bx, bY) (dx, dy)).2) = O := m2.trans hO
            have hE1 : (mvE (ax, ay) (dx, dy) == 0) = true := by simp [hE]
            have hF1 : (mvE (bx, bY) (dx, dy) == 0) = true := by simp [hF]
            have hG1 : (mvE (cx, cy) (dx, dy) == 0) = true := by simp [hG]
            clear m1 m2 hE hF hG
            go_region_held3 (fun w' => Kp w w' ∧ w'.cell? ⟨w.heap.size, 0, none⟩ = some (.int .i64 ax) ∧ w'.cell? ⟨w.heap.size, 1, none⟩ = some (.int .i64 ay) ∧ w'.cell? ⟨w.heap.size + 1, 0, none⟩ = some (.int .i64 bx) ∧ w'.cell? ⟨w.heap.size + 1, 1, none⟩ = some (.int .i64 bY) ∧ w'.cell? ⟨w.heap.size + 1 + 1, 0, none⟩ = some (.int .i64 cx) ∧ w'.cell? ⟨w.heap.size + 1 + 1, 1, none⟩ = some (.int .i64 cy) ∧ w'.cell? ⟨wa.heap.size, 0, none⟩ = some (.int .i64 (mvP (ax, ay) (dx, dy)).1) ∧ w'.cell? ⟨wa.heap.size, 1, none⟩ = some (.int .i64 (mvP (ax, ay) (dx, dy)).2) ∧ w'.cell? ⟨wb.heap.size, 0, none⟩ = some (.int .i64 (mvP (bx, bY) (dx, dy)).1) ∧ w'.cell? ⟨wb.heap.size, 1, none⟩ = some (.int .i64 (mvP (bx, bY) (dx, dy)).2) ∧ w'.cell? ⟨wd.heap.size, 0, none⟩ = some (.int .i64 (mvP (cx, cy) (dx, dy)).1) ∧ w'.cell? ⟨wd.heap.size, 1, none⟩ = some (.int .i64 (mvP (cx, cy) (dx, dy)).2)) ((first | exact ⟨K, c0, c1, c2, c3, c4, c5, x0, x1, y0, y1, z0, z1⟩ | exact ⟨kp_drew K, c0, c1, c2, c3, c4, c5, x0, x1, y0, y1, z0, z1⟩))
              (first
                | (go_at_call 12; refine (turn_any _ _ _ _ _ _ _).mono ?_; rintro e w2 ⟨rfl, hk⟩; replace c0 : w2.cell? ⟨w.heap.size, 0, none⟩ = some (.int .i64 ax) := kp_cell hk (by first | exact c0 | exact cell_a c0 _); replace c1 : w2.cell? ⟨w.heap.size, 1, none⟩ = some (.int .i64 ay) := kp_cell hk (by first | exact c1 | exact cell_a c1 _); replace c2 : w2.cell? ⟨w.heap.size + 1, 0, none⟩ = some (.int .i64 bx) := kp_cell hk (by first | exact c2 | exact cell_a c2 _); replace c3 : w2.cell? ⟨w.heap.size + 1, 1, none⟩ = some (.int .i64 bY) := kp_cell hk (by first | exact c3 | exact cell_a c3 _); replace c4 : w2.cell? ⟨w.heap.size + 1 + 1, 0, none⟩ = some (.int .i64 cx) := kp_cell hk (by first | exact c4 | exact cell_a c4 _); replace c5 : w2.cell? ⟨w.heap.size + 1 + 1, 1, none⟩ = some (.int .i64 cy) := kp_cell hk (by first | exact c5 | exact cell_a c5 _); replace x0 : w2.cell? ⟨wa.heap.size, 0, none⟩ = some (.int .i64 (mvP (ax, ay) (dx, dy)).1) := kp_cell hk (by first | exact x0 | exact cell_a x0 _); replace x1 : w2.cell? ⟨wa.heap.size, 1, none⟩ = some (.int .i64 (mvP (ax, ay) (dx, dy)).2) := kp_cell hk (by first | exact x1 | exact cell_a x1 _); replace y0 : w2.cell? ⟨wb.heap.size, 0, none⟩ = some (.int .i64 (mvP (bx, bY) (dx, dy)).1) := kp_cell hk (by first | exact y0 | exact cell_a y0 _); replace y1 : w2.cell? ⟨wb.heap.size, 1, none⟩ = some (.int .i64 (mvP (bx, bY) (dx, dy)).2) := kp_cell hk (by first | exact y1 | exact cell_a y1 _); replace z0 : w2.cell? ⟨wd.heap.size, 0, none⟩ = some (.int .i64 (mvP (cx, cy) (dx, dy)).1) := kp_cell hk (by first | exact z0 | exact cell_a z0 _); replace z1 : w2.cell? ⟨wd.heap.size, 1, none⟩ = some (.int .i64 (mvP (cx, cy) (dx, dy)).2) := kp_cell hk (by first | exact z1 | exact cell_a z1 _); replace K : Kp w w2 := kp_trans (by first | exact K | exact kp_drew K | exact kp_alloc K _) hk; replace l0 : w.heap.size < w2.heap.size := cell_lt c0; replace l2 : w.heap.size + 1 < w2.heap.size := cell_lt c2; replace l4 : w.heap.size + 1 + 1 < w2.heap.size := cell_lt c4; replace lx0 : wa.heap.size < w2.heap.size := cell_lt x0; replace ly0 : wb.heap.size < w2.heap.size := cell_lt y0; replace lz0 : wd.heap.size < w2.heap.size := cell_lt z0; clear hk)
                | (go_at_call 14; refine (on_any _ _ _ _ _ _ _).mono ?_; rintro e w2 ⟨rfl, hk⟩; replace c0 : w2.cell? ⟨w.heap.size, 0, none⟩ = some (.int .i64 ax) := kp_cell hk (by first | exact c0 | exact cell_a c0 _); replace c1 : w2.cell? ⟨w.heap.size, 1, none⟩ = some (.int .i64 ay) := kp_cell hk (by first | exact c1 | exact cell_a c1 _); replace c2 : w2.cell? ⟨w.heap.size + 1, 0, none⟩ = some (.int .i64 bx) := kp_cell hk (by first | exact c2 | exact cell_a c2 _); replace c3 : w2.cell? ⟨w.heap.size + 1, 1, none⟩ = some (.int .i64 bY) := kp_cell hk (by first | exact c3 | exact cell_a c3 _); replace c4 : w2.cell? ⟨w.heap.size + 1 + 1, 0, none⟩ = some (.int .i64 cx) := kp_cell hk (by first | exact c4 | exact cell_a c4 _); replace c5 : w2.cell? ⟨w.heap.size + 1 + 1, 1, none⟩ = some (.int .i64 cy) := kp_cell hk (by first | exact c5 | exact cell_a c5 _); replace x0 : w2.cell? ⟨wa.heap.size, 0, none⟩ = some (.int .i64 (mvP (ax, ay) (dx, dy)).1) := kp_cell hk (by first | exact x0 | exact cell_a x0 _); replace x1 : w2.cell? ⟨wa.heap.size, 1, none⟩ = some (.int .i64 (mvP (ax, ay) (dx, dy)).2) := kp_cell hk (by first | exact x1 | exact cell_a x1 _); replace y0 : w2.cell? ⟨wb.heap.size, 0, none⟩ = some (.int .i64 (mvP (bx, bY) (dx, dy)).1) := kp_cell hk (by first | exact y0 | exact cell_a y0 _); replace y1 : w2.cell? ⟨wb.heap.size, 1, none⟩ = some (.int .i64 (mvP (bx, bY) (dx, dy)).2) := kp_cell hk (by first | exact y1 | exact cell_a y1 _); replace z0 : w2.cell? ⟨wd.heap.size, 0, none⟩ = some (.int .i64 (mvP (cx, cy) (dx, dy)).1) := kp_cell hk (by first | exact z0 | exact cell_a z0 _); replace z1 : w2.cell? ⟨wd.heap.size, 1, none⟩ = some (.int .i64 (mvP (cx, cy) (dx, dy)).2) := kp_cell hk (by first | exact z1 | exact cell_a z1 _); replace K : Kp w w2 := kp_trans (by first | exact K | exact kp_drew K | exact kp_alloc K _) hk; replace l0 : w.heap.size < w2.heap.size := cell_lt c0; replace l2 : w.heap.size + 1 < w2.heap.size := cell_lt c2; replace l4 : w.heap.size + 1 + 1 < w2.heap.size := cell_lt c4; replace lx0 : wa.heap.size < w2.heap.size := cell_lt x0; replace ly0 : wb.heap.size < w2.heap.size := cell_lt y0; replace lz0 : wd.heap.size < w2.heap.size := cell_lt z0; clear hk))
            go_wp2_with fail
            go_meet
            exact ⟨rfl, K, c0, c1, c2, c3, c4, c5⟩
          · have hn : (mvE (cx, cy) (dx, dy) == 0) = false := by simp [hG]
            have hE1 : (mvE (ax, ay) (dx, dy) == 0) = true := by simp [hE]
            have hF1 : (mvE (bx, bY) (dx, dy) == 0) = true := by simp [hF]
            clear hE hF hG
            go_quiet (fail)
            go_wp2_with fail
            go_meet
            exact ⟨rfl, kp_drewN K _, c0, c1, c2, c3, c4, c5⟩
        · have hn : (mvE (bx, bY) (dx, dy) == 0) = false := by simp [hF]
          have hE1 : (mvE (ax, ay) (dx, dy) == 0) = true := by simp [hE]
          clear hE hF
          go_quiet (fail)
          go_wp2_with fail
          go_meet
          exact ⟨rfl, kp_drewN K _, c0, c1, c2, c3, c4, c5⟩
      · have hn : (mvE (ax, ay) (dx, dy) == 0) = false := by simp [hE]
        clear hE
        go_quiet (fail)
        go_wp2_with fail
        go_meet
        exact ⟨rfl, kp_drewN K _, c0, c1, c2, c3, c4, c5⟩
    case rest => as_aux_lemma =>
      clear K c0 c1 c2 c3 c4 c5 c6 c7 l0 l2 l4 l6 x0 x1 y0 y1 lx0 ly0
      obtain ⟨rfl, K, c0, c1, c2, c3, c4, c5⟩ := hcut
      have l0 : w.heap.size < wc.heap.size := cell_lt c0; have l2 : w.heap.size + 1 < wc.heap.size := cell_lt c2; have l4 : w.heap.size + 1 + 1 < wc.heap.size := cell_lt c4
      go_upto_region 15 with (first
          | (go_at_call 14; refine (on_any _ _ _ _ _ _ _).mono ?_; rintro e w2 ⟨rfl, hk⟩; replace c0 : w2.cell? ⟨w.heap.size, 0, none⟩ = some (.int .i64 ax) := kp_cell hk (by first | exact c0 | exact cell_a c0 _); replace c1 : w2.cell? ⟨w.heap.size, 1, none⟩ = some (.int .i64 ay) := kp_cell hk (by first | exact c1 | exact cell_a c1 _); replace c2 : w2.cell? ⟨w.heap.size + 1, 0, none⟩ = some (.int .i64 bx) := kp_cell hk (by first | exact c2 | exact cell_a c2 _); replace c3 : w2.cell? ⟨w.heap.size + 1, 1, none⟩ = some (.int .i64 bY) := kp_cell hk (by first | exact c3 | exact cell_a c3 _); replace c4 : w2.cell? ⟨w.heap.size + 1 + 1, 0, none⟩ = some (.int .i64 cx) := kp_cell hk (by first | exact c4 | exact cell_a c4 _); replace c5 : w2.cell? ⟨w.heap.size + 1 + 1, 1, none⟩ = some (.int .i64 cy) := kp_cell hk (by first | exact c5 | exact cell_a c5 _); replace K : Kp w w2 := kp_trans (by first | exact K | exact kp_drew K | exact kp_alloc K _) hk; replace l0 : w.heap.size < w2.heap.size := cell_lt c0; replace l2 : w.heap.size + 1 < w2.heap.size := cell_lt c2; replace l4 : w.heap.size + 1 + 1 < w2.heap.size := cell_lt c4; clear hk))
      go_cut [211] (fun s wx => s = .bool false ∧ Kp w wx ∧ wx.cell? ⟨w.heap.size, 0, none⟩ = some (.int .i64 ax) ∧ wx.cell? ⟨w.heap.size, 1, none⟩ = some (.int .i64 ay) ∧ wx.cell? ⟨w.heap.size + 1, 0, none⟩ = some (.int .i64 bx) ∧ wx.cell? ⟨w.heap.size + 1, 1, none⟩ = some (.int .i64 bY) ∧ wx.cell? ⟨w.heap.size + 1 + 1, 0, none⟩ = some (.int .i64 cx) ∧ wx.cell? ⟨w.heap.size + 1 + 1, 1, none⟩ = some (.int .i64 cy))
      case first =>
        cases O
        · skip
          go_wp2_with (first
              | (go_at_call 14; refine (on_any _ _ _ _ _ _ _).mono ?_; rintro e w2 ⟨rfl, hk⟩; replace c0 : w2.cell? ⟨w.heap.size, 0, none⟩ = some (.int .i64 ax) := kp_cell hk (by first | exact c0 | exact cell_a c0 _); replace c1 : w2.cell? ⟨w.heap.size, 1, none⟩ = some (.int .i64 ay) := kp_cell hk (by first | exact c1 | exact cell_a c1 _); replace c2 : w2.cell? ⟨w.heap.size + 1, 0, none⟩ = some (.int .i64 bx) := kp_cell hk (by first | exact c2 | exact cell_a c2 _); replace c3 : w2.cell? ⟨w.heap.size + 1, 1, none⟩ = some (.int .i64 bY) := kp_cell hk (by first | exact c3 | exact cell_a c3 _); replace c4 : w2.cell? ⟨w.heap.size + 1 + 1, 0, none⟩ = some (.int .i64 cx) := kp_cell hk (by first | exact c4 | exact cell_a c4 _); replace c5 : w2.cell? ⟨w.heap.size + 1 + 1, 1, none⟩ = some (.int .i64 cy) := kp_cell hk (by first | exact c5 | exact cell_a c5 _); replace K : Kp w w2 := kp_trans (by first | exact K | exact kp_drew K | exact kp_alloc K _) hk; replace l0 : w.heap.size < w2.heap.size := cell_lt c0; replace l2 : w.heap.size + 1 < w2.heap.size := cell_lt c2; replace l4 : w.heap.size + 1 + 1 < w2.heap.size := cell_lt c4; clear hk))
          go_meet
          exact ⟨rfl, K, c0, c1, c2, c3, c4, c5⟩
        · have hz : (T != 0) = false := by have := HZ.out rfl; simp [this]
          go_wp2_with (first
              | (go_at_call 14; refine (on_any _ _ _ _ _ _ _).mono ?_; rintro e w2 ⟨rfl, hk⟩; replace c0 : w2.cell? ⟨w.heap.size, 0, none⟩ = some (.int .i64 ax) := kp_cell hk (by first | exact c0 | exact cell_a c0 _); replace c1 : w2.cell? ⟨w.heap.size, 1, none⟩ = some (.int .i64 ay) := kp_cell hk (by first | exact c1 | exact cell_a c1 _); replace c2 : w2.cell? ⟨w.heap.size + 1, 0, none⟩ = some (.int .i64 bx) := kp_cell hk (by first | exact c2 | exact cell_a c2 _); replace c3 : w2.cell? ⟨w.heap.size + 1, 1, none⟩ = some (.int .i64 bY) := kp_cell hk (by first | exact c3 | exact cell_a c3 _); replace c4 : w2.cell? ⟨w.heap.size + 1 + 1, 0, none⟩ = some (.int .i64 cx) := kp_cell hk (by first | exact c4 | exact cell_a c4 _); replace c5 : w2.cell? ⟨w.heap.size + 1 + 1, 1, none⟩ = some (.int .i64 cy) := kp_cell hk (by first | exact c5 | exact cell_a c5 _); replace K : Kp w w2 := kp_trans (by first | exact K | exact kp_drew K | exact kp_alloc K _) hk; replace l0 : w.heap.size < w2.heap.size := cell_lt c0; replace l2 : w.heap.size + 1 < w2.heap.size := cell_lt c2; replace l4 : w.heap.size + 1 + 1 < w2.heap.size := cell_lt c4; clear hk))
          go_meet
          exact ⟨rfl, K, c0, c1, c2, c3, c4, c5⟩
      case rest => as_aux_lemma =>
        clear K c0 c1 c2 c3 c4 c5 l0 l2 l4
        obtain ⟨rfl, K, c0, c1, c2, c3, c4, c5⟩ := hcut
        have l0 : w.heap.size < wc.heap.size := cell_lt c0; have l2 : w.heap.size + 1 < wc.heap.size := cell_lt c2; have l4 : w.heap.size + 1 + 1 < wc.heap.size := cell_lt c4
        rcases HO.out with ⟨rfl, hz⟩ | ⟨rfl, o2, hz⟩ | ⟨rfl, o2, o3, hz⟩ | ⟨rfl, o2, o3, hz⟩
        · go_wp2_with (first
              | (go_at_call 14; refine (on_any _ _ _ _ _ _ _).mono ?_; rintro e w2 ⟨rfl, hk⟩; replace c0 : w2.cell? ⟨w.heap.size, 0, none⟩ = some (.int .i64 ax) := kp_cell hk (by first | exact c0 | exact cell_a c0 _); replace c1 : w2.cell? ⟨w.heap.size, 1, none⟩ = some (.int .i64 ay) := kp_cell hk (by first | exact c1 | exact cell_a c1 _); replace c2 : w2.cell? ⟨w.heap.size + 1, 0, none⟩ = some (.int .i64 bx) := kp_cell hk (by first | exact c2 | exact cell_a c2 _); replace c3 : w2.cell? ⟨w.heap.size + 1, 1, none⟩ = some (.int .i64 bY) := kp_cell hk (by first | exact c3 | exact cell_a c3 _); replace c4 : w2.cell? ⟨w.heap.size + 1 + 1, 0, none⟩ = some (.int .i64 cx) := kp_cell hk (by first | exact c4 | exact cell_a c4 _); replace c5 : w2.cell? ⟨w.heap.size + 1 + 1, 1, none⟩ = some (.int .i64 cy) := kp_cell hk (by first | exact c5 | exact cell_a c5 _); replace K : Kp w w2 := kp_trans (by first | exact K | exact kp_drew K | exact kp_alloc K _) hk; replace l0 : w.heap.size < w2.heap.size := cell_lt c0; replace l2 : w.heap.size + 1 < w2.heap.size := cell_lt c2; replace l4 : w.heap.size + 1 + 1 < w2.heap.size := cell_lt c4; clear hk))
          go_ret
          exact ⟨rfl, K⟩
        · go_wp2_with (first
              | (go_at_call 14; refine (on_any _ _ _ _ _ _ _).mono ?_; rintro e w2 ⟨rfl, hk⟩; replace c0 : w2.cell? ⟨w.heap.size, 0, none⟩ = some (.int .i64 ax) := kp_cell hk (by first | exact c0 | exact cell_a c0 _); replace c1 : w2.cell? ⟨w.heap.size, 1, none⟩ = some (.int .i64 ay) := kp_cell hk (by first | exact c1 | exact cell_a c1 _); replace c2 : w2.cell? ⟨w.heap.size + 1, 0, none⟩ = some (.int .i64 bx) := kp_cell hk (by first | exact c2 | exact cell_a c2 _); replace c3 : w2.cell? ⟨w.heap.size + 1, 1, none⟩ = some (.int .i64 bY) := kp_cell hk (by first | exact c3 | exact cell_a c3 _); replace c4 : w2.cell? ⟨w.heap.size + 1 + 1, 0, none⟩ = some (.int .i64 cx) := kp_cell hk (by first | exact c4 | exact cell_a c4 _); replace c5 : w2.cell? ⟨w.heap.size + 1 + 1, 1, none⟩ = some (.int .i64 cy) := kp_cell hk (by first | exact c5 | exact cell_a c5 _); replace K : Kp w w2 := kp_trans (by first | exact K | exact kp_drew K | exact kp_alloc K _) hk; replace l0 : w.heap.size < w2.heap.size := cell_lt c0; replace l2 : w.heap.size + 1 < w2.heap.size := cell_lt c2; replace l4 : w.heap.size + 1 + 1 < w2.heap.size := cell_lt c4; clear hk))
          go_ret
          exact ⟨rfl, K⟩
        · go_wp2_with (first
              | (go_at_call 14; refine (on_any _ _ _ _ _ _ _).mono ?_; rintro e w2 ⟨rfl, hk⟩; replace c0 : w2.cell? ⟨w.heap.size, 0, none⟩ = some (.int .i64 ax) := kp_cell hk (by first | exact c0 | exact cell_a c0 _); replace c1 : w2.cell? ⟨w.heap.size, 1, none⟩ = some (.int .i64 ay) := kp_cell hk (by first | exact c1 | exact cell_a c1 _); replace c2 : w2.cell? ⟨w.heap.size + 1, 0, none⟩ = some (.int .i64 bx) := kp_cell hk (by first | exact c2 | exact cell_a c2 _); replace c3 : w2.cell? ⟨w.heap.size + 1, 1, none⟩ = some (.int .i64 bY) := kp_cell hk (by first | exact c3 | exact cell_a c3 _); replace c4 : w2.cell? ⟨w.heap.size + 1 + 1, 0, none⟩ = some (.int .i64 cx) := kp_cell hk (by first | exact c4 | exact cell_a c4 _); replace c5 : w2.cell? ⟨w.heap.size + 1 + 1, 1, none⟩ = some (.int .i64 cy) := kp_cell hk (by first | exact c5 | exact cell_a c5 _); replace K : Kp w w2 := kp_trans (by first | exact K | exact kp_drew K | exact kp_alloc K _) hk; replace l0 : w.heap.size < w2.heap.size := cell_lt c0; replace l2 : w.heap.size + 1 < w2.heap.size := cell_lt c2; replace l4 : w.heap.size + 1 + 1 < w2.heap.size := cell_lt c4; clear hk))
          go_ret
          exact ⟨rfl, K⟩
        · go_wp2_with (first
              | (go_at_call 14; refine (on_any _ _ _ _ _ _ _).mono ?_; rintro e w2 ⟨rfl, hk⟩; replace c0 : w2.cell? ⟨w.heap.size, 0, none⟩ = some (.int .i64 ax) := kp_cell hk (by first | exact c0 | exact cell_a c0 _); replace c1 : w2.cell? ⟨w.heap.size, 1, none⟩ = some (.int .i64 ay) := kp_cell hk (by first | exact c1 | exact cell_a c1 _); replace c2 : w2.cell? ⟨w.heap.size + 1, 0, none⟩ = some (.int .i64 bx) := kp_cell hk (by first | exact c2 | exact cell_a c2 _); replace c3 : w2.cell? ⟨w.heap.size + 1, 1, none⟩ = some (.int .i64 bY) := kp_cell hk (by first | exact c3 | exact cell_a c3 _); replace c4 : w2.cell? ⟨w.heap.size + 1 + 1, 0, none⟩ = some (.int .i64 cx) := kp_cell hk (by first | exact c4 | exact cell_a c4 _); replace c5 : w2.cell? ⟨w.heap.size + 1 + 1, 1, none⟩ = some (.int .i64 cy) := kp_cell hk (by first | exact c5 | exact cell_a c5 _); replace K : Kp w w2 := kp_trans (by first | exact K | exact kp_drew K | exact kp_alloc K _) hk; replace l0 : w.heap.size < w2.heap.size := cell_lt c0; replace l2 : w.heap.size + 1 < w2.heap.size := cell_lt c2; replace l4 : w.heap.size + 1 + 1 < w2.heap.size := cell_lt c4; clear hk))
          go_ret
          exact ⟨rfl, K⟩

theorem pointLaws_walk (ax ay bx bY cx cy dx dy : Int) (w : World) : Calls Try.prog 7 #[pv ax ay, pv bx bY, pv cx cy, pv dx dy] w fun e w' => e = .returned (.bool true) ∧ Kp w w' := by
  cases h : (okP (ax, ay) && okP (bx, bY) && okP (cx, cy))
  · exact laws_bad ax ay bx bY cx cy dx dy h w
  · exact laws_good ax ay bx bY cx cy dx dy h w
end Go.Proofs.Ytjgphjhanoakkaa
