/- Contract of the reference's back. -/
import Derived.Test.YtcpbemoiodbliaaRG1
import Derived.Test.YtcpbemoiodbliaaMG
import Derived.Test.YtcpbemoiodbliaaV
import Derived.Deep.DeepCutAuto
import Derived.RegionTactic
import Derived.BigRegion
namespace Go.Proofs.Ytcpbemoiodbliaa
open Go.RowKit Go.Proofs.Geo
set_option linter.unusedVariables false
/-- Three points in boxes of their own. -/
def ThreeBx (p q r : Pt) (s t u : Value) (w : World) : Prop :=
  ∃ B1 B2 B3 : Nat, s = .pointer (some ⟨B1, 0, none⟩) ∧ t = .pointer (some ⟨B2, 0, none⟩) ∧ u = .pointer (some ⟨B3, 0, none⟩) ∧ w.cell? ⟨B1, 0, none⟩ = some (.int .i64 p.1) ∧ w.cell? ⟨B1, 1, none⟩ = some (.int .i64 p.2) ∧ w.cell? ⟨B2, 0, none⟩ = some (.int .i64 q.1) ∧ w.cell? ⟨B2, 1, none⟩ = some (.int .i64 q.2) ∧ w.cell? ⟨B3, 0, none⟩ = some (.int .i64 r.1) ∧ w.cell? ⟨B3, 1, none⟩ = some (.int .i64 r.2)
/-- A point in a box that the call has made. -/
structure BxP (W : World) (B : Nat) (p : Pt) (w : World) : Prop where
  lo : W.heap.size ≤ B
  c0 : w.cell? ⟨B, 0, none⟩ = some (.int .i64 p.1)
  c1 : w.cell? ⟨B, 1, none⟩ = some (.int .i64 p.2)
  f0 : w.frozen? ⟨B, 0, none⟩ = false
  f1 : w.frozen? ⟨B, 1, none⟩ = false
theorem BxP.lt {W w : World} {B : Nat} {p : Pt} (h : BxP W B p w) : B < w.heap.size := cell_lt h.c0
theorem BxP.kp {W w w' : World} {B : Nat} {p : Pt} (h : BxP W B p w) (k : Kp w w') : BxP W B p w' := ⟨h.lo, kp_cell k h.c0, kp_cell k h.c1, kp_froz k h.c0 h.f0, kp_froz k h.c1 h.f1⟩
theorem BxP.new {W w : World} (h : Kp W w) : BxP W w.heap.size (0, 0) (w.alloc (.cells #[.int .i64 0, .int .i64 0] 25)) := ⟨Below.size h, by simp [go_sem], by simp [go_sem], by simp [go_sem], by simp [go_sem]⟩
theorem BxP.set {W w : World} {B : Nat} {u v x y : Int} (lo : W.heap.size ≤ B) (c0 : w.cell? ⟨B, 0, none⟩ = some (.int .i64 u)) (c1 : w.cell? ⟨B, 1, none⟩ = some (.int .i64 v)) (f0 : w.frozen? ⟨B, 0, none⟩ = false) (f1 : w.frozen? ⟨B, 1, none⟩ = false) :
    BxP W B (x, y) ((w.setCell ⟨B, 0, none⟩ (.int .i64 x)).setCell ⟨B, 1, none⟩ (.int .i64 y)) := ⟨lo, by simp [go_sem, c0], by simp [go_sem, c1], by simp [go_sem, f0], by simp [go_sem, f1]⟩
theorem BxP.off {W w : World} {B C : Nat} {p : Pt} {u v : Value} (h : BxP W B p w) (hne : B ≠ C) : BxP W B p ((w.setCell ⟨C, 0, none⟩ u).setCell ⟨C, 1, none⟩ v) := by
  obtain ⟨lo, c0, c1, f0, f1⟩ := h
  exact ⟨lo, by simp [go_sem, c0], by simp [go_sem, c1], by simp [go_sem, f0], by simp [go_sem, f1]⟩
set_option maxHeartbeats 16000000 in
set_option maxRecDepth 100000 in
theorem back_any (b off len cap : Nat) (l : List Pt) (i : Nat) (w : World) (hp : PtsAt w b off l) (hlen : len = l.length) (hi : i < len) (hl : len ≤ 100000) : Calls Try.prog 40 #[.slice (some ⟨b, off, none⟩) len cap, .int .i64 (i : Int)] w fun e w' => e = .returned (.bool (backB l i)) ∧ Kp w w' := by
  have hil : i < l.length := by omega
  obtain ⟨y0, y1⟩ := pt_lt hp hil
  have hbk : backB l i = (decide (turn (rat l ((i : Int) - 1)) (pt l i) (rat l ((i : Int) + 1)) = 0) && !onS (pt l i) (rat l ((i : Int) - 1)) (rat l ((i : Int) + 1))) := rfl
  have ca := fun (w : World) hp => rat9_any b off len cap l ((i : Int) - 1) w hp hlen (by omega) hl
  have cb := fun (w : World) hp => rat9_any b off len cap l ((i : Int) + 1) w hp hlen (by omega) hl
  have lb : b < w.heap.size := cell_lt y0
  have HP := Lib.hid hp
  generalize rat l ((i : Int) - 1) = pa at *
  generalize rat l ((i : Int) + 1) = pb at *
  generalize pt l i = pp at *
  obtain ⟨ax, ay⟩ := pa
  obtain ⟨bx, bY⟩ := pb
  obtain ⟨x, y⟩ := pp
  dsimp only at y0 y1 ca cb
  have ct := fun w => rturn_any ax ay x y bx bY w
  have co := fun w => ron_any x y ax ay bx bY w
  obtain ⟨T, hT⟩ : ∃ T, turn (ax, ay) (x, y) (bx, bY) = T := ⟨_, rfl⟩
  rw [hT] at ct hbk
  have CA := Lib.hid ca; have CB := Lib.hid cb; have CT := Lib.hid ct; have CO := Lib.hid co
  have HBK := Lib.hid hbk
  have c1 : (0 : Int) ≤ (i : Int) := by omega
  have c2 : (i : Int) < (len : Int) := by omega
  have wk1 : IntKind.i64.wrap ((i : Int) + 1) = (i : Int) + 1 := IntWalk.i64_in _ (by omega)
  have wk2 : IntKind.i64.wrap ((i : Int) - 1) = (i : Int) - 1 := IntWalk.i64_in _ (by omega)
  clear hp hlen ca cb ct co hT hbk hil
  go_enter Try.func40, Try.ntmps40
  go_upto_region 1 with fail
  go_cut [5, 6, 7] (fun s t u wx => ThreeBx (ax, ay) (x, y) (bx, bY) s t u wx ∧ Kp w wx)
  case first =>
    refine wp_region_any (by kernel_rfl) ?_
    (try change wpAny _ _ _ _ _ _ _ (World.drew _))
    refine wpAny_inv (fun listed a w' => ∃ (b0 b1 b2 b3 b4 b5 b6 b7 b8 b9 b10 b11 b12 b13 b14 b15 b16 b17 : Bool) (B1 B2 B3 : Nat), listed = #[b0, b1, b2, b3, b4, b5, b6, b7, b8, b9, b10, b11, b12, b13, b14, b15, b16, b17] ∧ a = { tmps := #[.slice (some ⟨b, off, none⟩) len cap, .int .i64 (i : Int), undef, undef, .bool false, cond b12 (.pointer (some ⟨B1, 0, none⟩)) undef, cond b13 (.pointer (some ⟨B2, 0, none⟩)) undef, cond b14 (.pointer (some ⟨B3, 0, none⟩)) undef, cond b0 (.slice (some ⟨b, off, none⟩) len cap) undef, cond b1 (.int .i64 (i : Int)) undef, cond b2 (.int .i64 ((i : Int) - 1)) undef, cond b3 (pv ax ay) undef, cond b4 (.slice (some ⟨b, off, none⟩) len cap) undef, cond b5 (.int .i64 (i : Int)) undef, cond b6 (.pointer (some ⟨b, off + i * 2, none⟩)) undef, cond b7 (pv x y) undef, cond b8 (.slice (some ⟨b, off, none⟩) len cap) undef, cond b9 (.int .i64 (i : Int)) undef, cond b10 (.int .i64 ((i : Int) + 1)) undef, cond b11 (pv bx bY) undef, undef, undef, undef, undef, undef, undef, undef, undef, undef, undef, undef, undef], defers := [] } ∧ Kp w w' ∧ (b12 = true → BxP w B1 (cond b15 (ax, ay) (0, 0)) w') ∧ (b13 = true → BxP w B2 (cond b16 (x, y) (0, 0)) w') ∧ (b14 = true → BxP w B3 (cond b17 (bx, bY) (0, 0)) w') ∧ (b12 = true → b13 = true → B1 ≠ B2) ∧ (b12 = true → b14 = true → B1 ≠ B3) ∧ (b13 = true → b14 = true → B2 ≠ B3) ∧ (b15 = true → b12 = true) ∧ (b16 = true → b13 = true) ∧ (b17 = true → b14 = true)) ?step ?done _ _ _ _ (by decide +kernel)
      ⟨false, false, false, false, false, false, false, false, false, false, false, false, false, false, false, false, false, false, 0, 0, 0, rfl, rfl, kp_drew (kp_refl _), by simp, by simp, by simp, by simp, by simp, by simp, by simp, by simp, by simp⟩
    case done =>
      rintro listed a w' ⟨b0, b1, b2, b3, b4, b5, b6, b7, b8, b9, b10, b11, b12, b13, b14, b15, b16, b17, B1, B2, B3, rfl, rfl, hk, h12, h13, h14, n1, n2, n3, q1, q2, q3⟩ hnil
      have nr := fun i o h1 h2 => ready_all hnil (i := i) (o := o) h1 h2
      have t0 := nr 0 _ rfl (by simp [Region.binds])
      simp at t0
      subst t0
      have t1 := nr 1 _ rfl (by simp [Region.binds])
      simp at t1
      subst t1
      have t2 := nr 2 _ rfl (by simp [Region.binds])
      simp at t2
      subst t2
      have t3 := nr 3 _ rfl (by simp [Region.binds])
      simp at t3
      subst t3
      have t4 := nr 4 _ rfl (by simp [Region.binds])
      simp at t4
      subst t4
      have t5 := nr 5 _ rfl (by simp [Region.binds])
      simp at t5
      subst t5
      have t6 := nr 6 _ rfl (by simp [Region.binds])
      simp at t6
      subst t6
      have t7 := nr 7 _ rfl (by simp [Region.binds])
      simp at t7
      subst t7
      have t8 := nr 8 _ rfl (by simp [Region.binds])
      simp at t8
      subst t8
      have t9 := nr 9 _ rfl (by simp [Region.binds])
      simp at t9
      subst t9
      have t10 := nr 10 _ rfl (by simp [Region.binds])
      simp at t10
      subst t10
      have t11 := nr 11 _ rfl (by simp [Region.binds])
      simp at t11
      subst t11
      have t12 := nr 12 _ rfl (by simp [Region.binds])
      simp at t12
      subst t12
      have t13 := nr 13 _ rfl (by simp [Region.binds])
      simp at t13
      subst t13
      have t14 := nr 14 _ rfl (by simp [Region.binds])
      simp at t14
      subst t14
      have t15 := nr 15 _ rfl (by simp [Region.binds])
      simp at t15
      subst t15
      have t16 := nr 16 _ rfl (by simp [Region.binds])
      simp at t16
      subst t16
      have t17 := nr 17 _ rfl (by simp [Region.binds])
      simp at t17
      subst t17
      have x1 := h12 rfl; have x2 := h13 rfl; have x3 := h14 rfl
      clear h12 h13 h14 n1 n2 n3 q1 q2 q3 nr hnil y0 y1
      have X := Lib.hid (And.intro x1 (And.intro x2 x3))
      have HK := Lib.hid hk
      clear x1 x2 x3 hk
      go_wp2_with fail
      go_meet
      exact ⟨⟨B1, B2, B3, rfl, rfl, rfl, X.out.1.c0, X.out.1.c1, X.out.2.1.c0, X.out.2.1.c1, X.out.2.2.c0, X.out.2.2.c1⟩, HK.out⟩
    case step =>
      rintro listed a w' i' ⟨b0, b1, b2, b3, b4, b5, b6, b7, b8, b9, b10, b11, b12, b13, b14, b15, b16, b17, B1, B2, B3, rfl, rfl, hk, h12, h13, h14, n1, n2, n3, q1, q2, q3⟩ hi'
      obtain ⟨hlt, hb, hrd⟩ := ready_mem hi'
      have hi18 : i' = 0 ∨ i' = 1 ∨ i' = 2 ∨ i' = 3 ∨ i' = 4 ∨ i' = 5 ∨ i' = 6 ∨ i' = 7 ∨ i' = 8 ∨ i' = 9 ∨ i' = 10 ∨ i' = 11 ∨ i' = 12 ∨ i' = 13 ∨ i' = 14 ∨ i' = 15 ∨ i' = 16 ∨ i' = 17 := by simp at hlt; omega
      clear hi'
      rcases hi18 with rfl | rfl | rfl | rfl | rfl | rfl | rfl | rfl | rfl | rfl | rfl | rfl | rfl | rfl | rfl | rfl | rfl | rfl
      · have hr := hrd _ rfl
        simp [Region.binds] at hb hr
        subst hb
        have y0' := kp_cell hk y0; have y1' := kp_cell hk y1; have lb' : b < w'.heap.size := cell_lt y0'
        have M12 := Lib.hid h12; have M13 := Lib.hid h13; have M14 := Lib.hid h14; have N1 := Lib.hid n1; have N2 := Lib.hid n2; have N3 := Lib.hid n3; have HKw := Lib.hid hk; have Q1 := Lib.hid q1; have Q2 := Lib.hid q2; have Q3 := Lib.hid q3
        clear h12 h13 h14 n1 n2 n3 hk q1 q2 q3
        refine wpOp_step rfl (fun K hK => ?_)
        go_simp
        refine hK _ _ ?_
        exact ⟨true, b1, b2, b3, b4, b5, b6, b7, b8, b9, b10, b11, b12, b13, b14, b15, b16, b17, B1, B2, B3, rfl, rfl, HKw.out, M12.out, M13.out, M14.out, N1.out, N2.out, N3.out, Q1.out, Q2.out, Q3.out⟩
      · have hr := hrd _ rfl
        simp [Region.binds] at hb hr
        subst hb
        have y0' := kp_cell hk y0; have y1' := kp_cell hk y1; have lb' : b < w'.heap.size := cell_lt y0'
        have M12 := Lib.hid h12; have M13 := Lib.hid h13; have M14 := Lib.hid h14; have N1 := Lib.hid n1; have N2 := Lib.hid n2; have N3 := Lib.hid n3; have HKw := Lib.hid hk; have Q1 := Lib.hid q1; have Q2 := Lib.hid q2; have Q3 := Lib.hid q3
        clear h12 h13 h14 n1 n2 n3 hk q1 q2 q3
        refine wpOp_step rfl (fun K hK => ?_)
        go_simp
        refine hK _ _ ?_
        exact ⟨b0, true, b2, b3, b4, b5, b6, b7, b8, b9, b10, b11, b12, b13, b14, b15, b16, b17, B1, B2, B3, rfl, rfl, HKw.out, M12.out, M13.out, M14.out, N1.out, N2.out, N3.out, Q1.out, Q2.out, Q3.out⟩
      · have hr := hrd _ rfl
        simp [Region.binds] at hb hr
        subst hb
        repeat (obtain ⟨h1, hr⟩ := hr; (first | subst h1 | clear h1))
        (first | subst hr | clear hr)
        have y0' := kp_cell hk y0; have y1' := kp_cell hk y1; have lb' : b < w'.heap.size := cell_lt y0'
        have M12 := Lib.hid h12; have M13 := Lib.hid h13; have M14 := Lib.hid h14; have N1 := Lib.hid n1; have N2 := Lib.hid n2; have N3 := Lib.hid n3; have HKw := Lib.hid hk; have Q1 := Lib.hid q1; have Q2 := Lib.hid q2; have Q3 := Lib.hid q3
        clear h12 h13 h14 n1 n2 n3 hk q1 q2 q3
        refine wpOp_step rfl (fun K hK => ?_)
        go_simp
        refine hK _ _ ?_
        exact ⟨b0, true, true, b3, b4, b5, b6, b7, b8, b9, b10, b11, b12, b13, b14, b15, b16, b17, B1, B2, B3, rfl, rfl, HKw.out, M12.out, M13.out, M14.out, N1.out, N2.out, N3.out, Q1.out, Q2.out, Q3.out⟩
      · have hr := hrd _ rfl
        simp [Region.binds] at hb hr
        subst hb
        repeat (obtain ⟨h1, hr⟩ := hr; (first | subst h1 | clear h1))
        (first | subst hr | clear hr)
        have y0' := kp_cell hk y0; have y1' := kp_cell hk y1; have lb' : b < w'.heap.size := cell_lt y0'
        have M12 := Lib.hid h12; have M13 := Lib.hid h13; have M14 := Lib.hid h14; have N1 := Lib.hid n1; have N2 := Lib.hid n2; have N3 := Lib.hid n3; have HKw := Lib.hid hk; have Q1 := Lib.hid q1; have Q2 := Lib.hid q2; have Q3 := Lib.hid q3
        clear h12 h13 h14 n1 n2 n3 hk q1 q2 q3
        refine wpOp_step rfl (fun K hK => ?_)
        go_simp
        refine (CA.out _ (HP.out.kp HKw.out)).mono ?_
        rintro e w2 ⟨rfl, hk2⟩
        refine hK _ _ ?_
        exact ⟨true, b1, true, true, b4, b5, b6, b7, b8, b9, b10, b11, b12, b13, b14, b15, b16, b17, B1, B2, B3, rfl, rfl, kp_trans HKw.out hk2, fun h => (M12.out h).kp hk2, fun h => (M13.out h).kp hk2, fun h => (M14.out h).kp hk2, N1.out, N2.out, N3.out, Q1.out, Q2.out, Q3.out⟩
      · have hr := hrd _ rfl
        simp [Region.binds] at hb hr
        subst hb
        have y0' := kp_cell hk y0; have y1' := kp_cell hk y1; have lb' : b < w'.heap.size := cell_lt y0'
        have M12 := Lib.hid h12; have M13 := Lib.hid h13; have M14 := Lib.hid h14; have N1 := Lib.hid n1; have N2 := Lib.hid n2; have N3 := Lib.hid n3; have HKw := Lib.hid hk; have Q1 := Lib.hid q1; have Q2 := Lib.hid q2; have Q3 := Lib.hid q3
        clear h12 h13 h14 n1 n2 n3 hk q1 q2 q3
        refine wpOp_step rfl (fun K hK => ?_)
        go_simp
        refine hK _ _ ?_
        exact ⟨b0, b1, b2, b3, true, b5, b6, b7, b8, b9, b10, b11, b12, b13, b14, b15, b16, b17, B1, B2, B3, rfl, rfl, HKw.out, M12.out, M13.out, M14.out, N1.out, N2.out, N3.out, Q1.out, Q2.out, Q3.out⟩
      · have hr := hrd _ rfl
        simp [Region.binds] at hb hr
        subst hb
        have y0' := kp_cell hk y0; have y1' := kp_cell hk y1; have lb' : b < w'.heap.size := cell_lt y0'
        have M12 := Lib.hid h12; have M13 := Lib.hid h13; have M14 := Lib.hid h14; have N1 := Lib.hid n1; have N2 := Lib.hid n2; have N3 := Lib.hid n3; have HKw := Lib.hid hk; have Q1 := Lib.hid q1; have Q2 := Lib.hid q2; have Q3 := Lib.hid q3
        clear h12 h13 h14 n1 n2 n3 hk q1 q2 q3
        refine wpOp_step rfl (fun K hK => ?_)
        go_simp
        refine hK _ _ ?_
        exact ⟨b0, b1, b2, b3, b4, true, b6, b7, b8, b9, b10, b11, b12, b13, b14, b15, b16, b17, B1, B2, B3, rfl, rfl, HKw.out, M12.out, M13.out, M14.out, N1.out, N2.out, N3.out, Q1.out, Q2.out, Q3.out⟩
      · have hr := hrd _ rfl
        simp [Region.binds] at hb hr
        subst hb
        repeat (obtain ⟨h1, hr⟩ := hr; (first | subst h1 | clear h1))
        (first | subst hr | clear hr)
        have y0' := kp_cell hk y0; have y1' := kp_cell hk y1; have lb' : b < w'.heap.size := cell_lt y0'
        have M12 := Lib.hid h12; have M13 := Lib.hid h13; have M14 := Lib.hid h14; have N1 := Lib.hid n1; have N2 := Lib.hid n2; have N3 := Lib.hid n3; have HKw := Lib.hid hk; have Q1 := Lib.hid q1; have Q2 := Lib.hid q2; have Q3 := Lib.hid q3
        clear h12 h13 h14 n1 n2 n3 hk q1 q2 q3
        refine wpOp_step rfl (fun K hK => ?_)
        go_simp
        refine hK _ _ ?_
        exact ⟨b0, b1, b2, b3, true, true, true, b7, b8, b9, b10, b11, b12, b13, b14, b15, b16, b17, B1, B2, B3, rfl, rfl, HKw.out, M12.out, M13.out, M14.out, N1.out, N2.out, N3.out, Q1.out, Q2.out, Q3.out⟩
      · have hr := hrd _ rfl
        simp [Region.binds] at hb hr
        subst hb
        repeat (obtain ⟨h1, hr⟩ := hr; (first | subst h1 | clear h1))
        (first | subst hr | clear hr)
        have y0' := kp_cell hk y0; have y1' := kp_cell hk y1; have lb' : b < w'.heap.size := cell_lt y0'
        have M12 := Lib.hid h12; have M13 := Lib.hid h13; have M14 := Lib.hid h14; have N1 := Lib.hid n1; have N2 := Lib.hid n2; have N3 := Lib.hid n3; have HKw := Lib.hid hk; have Q1 := Lib.hid q1; have Q2 := Lib.hid q2; have Q3 := Lib.hid q3
        clear h12 h13 h14 n1 n2 n3 hk q1 q2 q3
        refine wpOp_step rfl (fun K hK => ?_)
        go_simp
        refine hK _ _ ?_
        exact ⟨b0, b1, b2, b3, b4, b5, true, true, b8, b9, b10, b11, b12, b13, b14, b15, b16, b17, B1, B2, B3, rfl, rfl, HKw.out, M12.out, M13.out, M14.out, N1.out, N2.out, N3.out, Q1.out, Q2.out, Q3.out⟩
      · have hr := hrd _ rfl
        simp [Region.binds] at hb hr
        subst hb
        have y0' := kp_cell hk y0; have y1' := kp_cell hk y1; have lb' : b < w'.heap.size := cell_lt y0'
        have M12 := Lib.hid h12; have M13 := Lib.hid h13; have M14 := Lib.hid h14; have N1 := Lib.hid n1; have N2 := Lib.hid n2; have N3 := Lib.hid n3; have HKw := Lib.hid hk; have Q1 := Lib.hid q1; have Q2 := Lib.hid q2; have Q3 := Lib.hid q3
        clear h12 h13 h14 n1 n2 n3 hk q1 q2 q3
        refine wpOp_step rfl (fun K hK => ?_)
        go_simp
        refine hK _ _ ?_
        exact ⟨b0, b1, b2, b3, b4, b5, b6, b7, true, b9, b10, b11, b12, b13, b14, b15, b16, b17, B1, B2, B3, rfl, rfl, HKw.out, M12.out, M13.out, M14.out, N1.out, N2.out, N3.out, Q1.out, Q2.out, Q3.out⟩
      · have hr := hrd _ rfl
        simp [Region.binds] at hb hr
        subst hb
        have y0' := kp_cell hk y0; have y1' := kp_cell hk y1; have lb' : b < w'.heap.size := cell_lt y0'
        have M12 := Lib.hid h12; have M13 := Lib.hid h13; have M14 := Lib.hid h14; have N1 := Lib.hid n1; have N2 := Lib.hid n2; have N3 := Lib.hid n3; have HKw := Lib.hid hk; have Q1 := Lib.hid q1; have Q2 := Lib.hid q2; have Q3 := Lib.hid q3
        clear h12 h13 h14 n1 n2 n3 hk q1 q2 q3
        refine wpOp_step rfl (fun K hK => ?_)
        go_simp
        refine hK _ _ ?_
        exact ⟨b0, b1, b2, b3, b4, b5, b6, b7, b8, true, b10, b11, b12, b13, b14, b15, b16, b17, B1, B2, B3, rfl, rfl, HKw.out, M12.out, M13.out, M14.out, N1.out, N2.out, N3.out, Q1.out, Q2.out, Q3.out⟩
      · have hr := hrd _ rfl
        simp [Region.binds] at hb hr
        subst hb
        repeat (obtain ⟨h1, hr⟩ := hr; (first | subst h1 | clear h1))
        (first | subst hr | clear hr)
        have y0' := kp_cell hk y0; have y1' := kp_cell hk y1; have lb' : b < w'.heap.size := cell_lt y0'
        have M12 := Lib.hid h12; have M13 := Lib.hid h13; have M14 := Lib.hid h14; have N1 := Lib.hid n1; have N2 := Lib.hid n2; have N3 := Lib.hid n3; have HKw := Lib.hid hk; have Q1 := Lib.hid q1; have Q2 := Lib.hid q2; have Q3 := Lib.hid q3
        clear h12 h13 h14 n1 n2 n3 hk q1 q2 q3
        refine wpOp_step rfl (fun K hK => ?_)
        go_simp
        refine hK _ _ ?_
        exact ⟨b0, b1, b2, b3, b4, b5, b6, b7, b8, true, true, b11, b12, b13, b14, b15, b16, b17, B1, B2, B3, rfl, rfl, HKw.out, M12.out, M13.out, M14.out, N1.out, N2.out, N3.out, Q1.out, Q2.out, Q3.out⟩
      · have hr := hrd _ rfl
        simp [Region.binds] at hb hr
        subst hb
        repeat (obtain ⟨h1, hr⟩ := hr; (first | subst h1 | clear h1))
        (first | subst hr | clear hr)
        have y0' := kp_cell hk y0; have y1' := kp_cell hk y1; have lb' : b < w'.heap.size := cell_lt y0'
        have M12 := Lib.hid h12; have M13 := Lib.hid h13; have M14 := Lib.hid h14; have N1 := Lib.hid n1; have N2 := Lib.hid n2; have N3 := Lib.hid n3; have HKw := Lib.hid hk; have Q1 := Lib.hid q1; have Q2 := Lib.hid q2; have Q3 := Lib.hid q3
        clear h12 h13 h14 n1 n2 n3 hk q1 q2 q3
        refine wpOp_step rfl (fun K hK => ?_)
        go_simp
        refine (CB.out _ (HP.out.kp HKw.out)).mono ?_
        rintro e w2 ⟨rfl, hk2⟩
        refine hK _ _ ?_
        exact ⟨b0, b1, b2, true, b4, b5, b6, b7, true, b9, true, true, b12, b13, b14, b15, b16, b17, B1, B2, B3, rfl, rfl, kp_trans HKw.out hk2, fun h => (M12.out h).kp hk2, fun h => (M13.out h).kp hk2, fun h => (M14.out h).kp hk2, N1.out, N2.out, N3.out, Q1.out, Q2.out, Q3.out⟩
      · have hr := hrd _ rfl
        simp [Region.binds] at hb hr
        subst hb
        obtain rfl : b15 = false := by cases b15; rfl; exact absurd (q1 rfl) (by simp)
        have y0' := kp_cell hk y0; have y1' := kp_cell hk y1; have lb' : b < w'.heap.size := cell_lt y0'
        have M12 := Lib.hid h12; have M13 := Lib.hid h13; have M14 := Lib.hid h14; have N1 := Lib.hid n1; have N2 := Lib.hid n2; have N3 := Lib.hid n3; have HKw := Lib.hid hk; have Q1 := Lib.hid q1; have Q2 := Lib.hid q2; have Q3 := Lib.hid q3
        clear h12 h13 h14 n1 n2 n3 hk q1 q2 q3
        refine wpOp_step rfl (fun K hK => ?_)
        go_simp
        refine hK _ _ ?_
        exact ⟨b0, b1, b2, b3, b4, b5, b6, b7, b8, b9, b10, b11, true, b13, b14, false, b16, b17, w'.heap.size, B2, B3, rfl, rfl, kp_alloc HKw.out _, fun _ => BxP.new HKw.out, fun h => (M13.out h).kp (kp_alloc (kp_refl _) _), fun h => (M14.out h).kp (kp_alloc (kp_refl _) _), fun _ h => Nat.ne_of_gt (M13.out h).lt, fun _ h => Nat.ne_of_gt (M14.out h).lt, N3.out, fun _ => rfl, Q2.out, Q3.out⟩
      · have hr := hrd _ rfl
        simp [Region.binds] at hb hr
        subst hb
        obtain rfl : b16 = false := by cases b16; rfl; exact absurd (q2 rfl) (by simp)
        have y0' := kp_cell hk y0; have y1' := kp_cell hk y1; have lb' : b < w'.heap.size := cell_lt y0'
        have M12 := Lib.hid h12; have M13 := Lib.hid h13; have M14 := Lib.hid h14; have N1 := Lib.hid n1; have N2 := Lib.hid n2; have N3 := Lib.hid n3; have HKw := Lib.hid hk; have Q1 := Lib.hid q1; have Q2 := Lib.hid q2; have Q3 := Lib.hid q3
        clear h12 h13 h14 n1 n2 n3 hk q1 q2 q3
        refine wpOp_step rfl (fun K hK => ?_)
        go_simp
        refine hK _ _ ?_
        exact ⟨b0, b1, b2, b3, b4, b5, b6, b7, b8, b9, b10, b11, b12, true, b14, b15, false, b17, B1, w'.heap.size, B3, rfl, rfl, kp_alloc HKw.out _, fun h => (M12.out h).kp (kp_alloc (kp_refl _) _), fun _ => BxP.new HKw.out, fun h => (M14.out h).kp (kp_alloc (kp_refl _) _), fun h _ => Nat.ne_of_lt (M12.out h).lt, N2.out, fun _ h => Nat.ne_of_gt (M14.out h).lt, Q1.out, fun _ => rfl, Q3.out⟩
      · have hr := hrd _ rfl
        simp [Region.binds] at hb hr
        subst hb
        obtain rfl : b17 = false := by cases b17; rfl; exact absurd (q3 rfl) (by simp)
        have y0' := kp_cell hk y0; have y1' := kp_cell hk y1; have lb' : b < w'.heap.size := cell_lt y0'
        have M12 := Lib.hid h12; have M13 := Lib.hid h13; have M14 := Lib.hid h14; have N1 := Lib.hid n1; have N2 := Lib.hid n2; have N3 := Lib.hid n3; have HKw := Lib.hid hk; have Q1 := Lib.hid q1; have Q2 := Lib.hid q2; have Q3 := Lib.hid q3
        clear h12 h13 h14 n1 n2 n3 hk q1 q2 q3
        refine wpOp_step rfl (fun K hK => ?_)
        go_simp
        refine hK _ _ ?_
        exact ⟨b0, b1, b2, b3, b4, b5, b6, b7, b8, b9, b10, b11, b12, b13, true, b15, b16, false, B1, B2, w'.heap.size, rfl, rfl, kp_alloc HKw.out _, fun h => (M12.out h).kp (kp_alloc (kp_refl _) _), fun h => (M13.out h).kp (kp_alloc (kp_refl _) _), fun _ => BxP.new HKw.out, N1.out, fun h _ => Nat.ne_of_lt (M12.out h).lt, fun h _ => Nat.ne_of_lt (M13.out h).lt, Q1.out, Q2.out, fun _ => rfl⟩
      · have hr := hrd _ rfl
        simp [Region.binds] at hb hr
        subst hb
        repeat (obtain ⟨h1, hr⟩ := hr; (first | subst h1 | clear h1))
        (first | subst hr | clear hr)
        have y0' := kp_cell hk y0; have y1' := kp_cell hk y1; have lb' : b < w'.heap.size := cell_lt y0'
        obtain ⟨lo, z0, z1, f0, f1⟩ := h12 rfl
        dsimp only [cond_false] at z0 z1
        have lB : B1 < w'.heap.size := cell_lt z0
        have M12 := Lib.hid h12; have M13 := Lib.hid h13; have M14 := Lib.hid h14; have N1 := Lib.hid n1; have N2 := Lib.hid n2; have N3 := Lib.hid n3; have HKw := Lib.hid hk; have Q1 := Lib.hid q1; have Q2 := Lib.hid q2; have Q3 := Lib.hid q3
        clear h12 h13 h14 n1 n2 n3 hk q1 q2 q3
        refine wpOp_step rfl (fun K hK => ?_)
        go_simp
        refine hK _ _ ?_
        exact ⟨true, true, true, true, b4, b5, b6, b7, b8, b9, b10, true, true, true, true, true, b16, b17, B1, B2, B3, rfl, rfl, kp_set (kp_set HKw.out lo _) lo _, fun _ => BxP.set lo z0 z1 f0 f1, fun _ => (M13.out rfl).off ((N1.out rfl rfl).symm), fun _ => (M14.out rfl).off ((N2.out rfl rfl).symm), N1.out, N2.out, N3.out, fun _ => rfl, fun _ => rfl, fun _ => rfl⟩
      · have hr := hrd _ rfl
        simp [Region.binds] at hb hr
        subst hb
        repeat (obtain ⟨h1, hr⟩ := hr; (first | subst h1 | clear h1))
        (first | subst hr | clear hr)
        have y0' := kp_cell hk y0; have y1' := kp_cell hk y1; have lb' : b < w'.heap.size := cell_lt y0'
        obtain ⟨lo, z0, z1, f0, f1⟩ := h13 rfl
        dsimp only [cond_false] at z0 z1
        have lB : B2 < w'.heap.size := cell_lt z0
        have M12 := Lib.hid h12; have M13 := Lib.hid h13; have M14 := Lib.hid h14; have N1 := Lib.hid n1; have N2 := Lib.hid n2; have N3 := Lib.hid n3; have HKw := Lib.hid hk; have Q1 := Lib.hid q1; have Q2 := Lib.hid q2; have Q3 := Lib.hid q3
        clear h12 h13 h14 n1 n2 n3 hk q1 q2 q3
        refine wpOp_step rfl (fun K hK => ?_)
        go_simp
        refine hK _ _ ?_
        exact ⟨true, true, true, true, true, true, true, true, b8, b9, b10, b11, true, true, true, true, true, b17, B1, B2, B3, rfl, rfl, kp_set (kp_set HKw.out lo _) lo _, fun _ => (M12.out rfl).off (N1.out rfl rfl), fun _ => BxP.set lo z0 z1 f0 f1, fun _ => (M14.out rfl).off ((N3.out rfl rfl).symm), N1.out, N2.out, N3.out, fun _ => rfl, fun _ => rfl, fun _ => rfl⟩
      · have hr := hrd _ rfl
        simp [Region.binds] at hb hr
        subst hb
        repeat (obtain ⟨h1, hr⟩ := hr; (first | subst h1 | clear h1))
        (first | subst hr | clear hr)
        have y0' := kp_cell hk y0; have y1' := kp_cell hk y1; have lb' : b < w'.heap.size := cell_lt y0'
        obtain ⟨lo, z0, z1, f0, f1⟩ := h14 rfl
        dsimp only [cond_false] at z0 z1
        have lB : B3 < w'.heap.size := cell_lt z0
        have M12 := Lib.hid h12; have M13 := Lib.hid h13; have M14 := Lib.hid h14; have N1 := Lib.hid n1; have N2 := Lib.hid n2; have N3 := Lib.hid n3; have HKw := Lib.hid hk; have Q1 := Lib.hid q1; have Q2 := Lib.hid q2; have Q3 := Lib.hid q3
        clear h12 h13 h14 n1 n2 n3 hk q1 q2 q3
        refine wpOp_step rfl (fun K hK => ?_)
        go_simp
        refine hK _ _ ?_
        exact ⟨true, true, true, true, true, true, true, true, true, true, true, true, true, true, true, true, true, true, B1, B2, B3, rfl, rfl, kp_set (kp_set HKw.out lo _) lo _, fun _ => (M12.out rfl).off (N2.out rfl rfl), fun _ => (M13.out rfl).off (N3.out rfl rfl), fun _ => BxP.set lo z0 z1 f0 f1, N1.out, N2.out, N3.out, fun _ => rfl, fun _ => rfl, fun _ => rfl⟩
  case rest =>
    obtain ⟨⟨B1, B2, B3, rfl, rfl, rfl, a0, a1, p0, p1, q0, q1⟩, hk⟩ := hcut
    have HK := Lib.hid hk
    have lA : B1 < wc.heap.size := cell_lt a0
    have lP : B2 < wc.heap.size := cell_lt p0
    have lQ : B3 < wc.heap.size := cell_lt q0
    clear hk y0 y1
    by_cases h0 : T = 0
    · subst h0
      go_wp2_with (first
        | (go_at_call 53; refine (CT.out _).mono ?_; rintro e w4 ⟨rfl, hk⟩; replace a0 := kp_cell hk a0; replace a1 := kp_cell hk a1; replace p0 := kp_cell hk p0; replace p1 := kp_cell hk p1; replace q0 := kp_cell hk q0; replace q1 := kp_cell hk q1; have K4 := Lib.hid (kp_trans HK.out hk); clear hk)
        | (go_at_call 64; refine (CO.out _).mono ?_; rintro e w5 ⟨rfl, hk⟩; have K5 := Lib.hid (kp_trans K4.out hk); clear hk))
      go_ret
      exact ⟨by rw [HBK.out]; simp, K5.out⟩
    · have t1 : (T == 0) = false := by simpa using h0
      have HD := Lib.hid (decide_eq_false h0)
      go_wp2_with (go_at_call 53; refine (CT.out _).mono ?_; rintro e w4 ⟨rfl, hk⟩; have K4 := Lib.hid (kp_trans HK.out hk); clear hk)
      go_ret
      exact ⟨by rw [HBK.out, HD.out]; rfl, K4.out⟩
end Go.Proofs.Ytcpbemoiodbliaa
