/- Contract: the document's Even. -/
import Derived.Test.YtcmijedhjebpkaaPE
namespace Go.Proofs.Ytcmijedhjebpkaa
open Go.RowKit Go.Proofs.Num Go.Proofs.Geo
set_option maxHeartbeats 8000000 in
set_option maxRecDepth 100000 in
theorem reven_core (a b c : Int) (ha : I64 a) (hb : I64 b) (hc : I64 c) (hc0 : c ≠ 0) (w : World) : Calls Try.prog 30 #[.int .i64 a, .int .i64 b, .int .i64 c] w fun e w' => e = .returned (.tuple #[.int .i64 (evR a b c).1, .int .i64 (evR a b c).2]) ∧ Kp w w' := by
  have ht := ev_tells a b c hc0
  have hms := mul_size ha hb
  have c1 := of_any a ha
  have c2 := of_any b hb
  have c3 := mulN_any a b ha hb
  have c4 := of_any c hc
  have hcp : 0 < c.natAbs := by omega
  have hc64 : c.natAbs ≤ 9223372036854775808 := by unfold I64 at hc; omega
  obtain ⟨sx, hsx⟩ : ∃ s, decide (a * b < 0) = s := ⟨_, rfl⟩
  obtain ⟨sc, hsc⟩ : ∃ s, decide (c < 0) = s := ⟨_, rfl⟩
  obtain ⟨X, hX⟩ : ∃ X, (a * b).natAbs = X := ⟨_, rfl⟩
  obtain ⟨C, hC⟩ : ∃ C, c.natAbs = C := ⟨_, rfl⟩
  have e3 : numI (a * b) = numC sx (d12 (X : Int)) := by unfold numI; rw [hsx, hX]
  have e4 : numI c = numC sc (d12 (C : Int)) := by unfold numI; rw [hsc, hC]
  rw [hX] at hms
  rw [hC] at hcp hc64
  have c5 := fun w => parts_any sx sc X C hms hcp hc64 w
  have hQ : X / C ≤ X := Nat.div_le_self _ _
  have hR : X % C < C := Nat.mod_lt _ hcp
  rw [hX, hC, hsx, hsc] at ht
  obtain ⟨Q, eQ⟩ : ∃ Q, X / C = Q := ⟨_, rfl⟩
  obtain ⟨R, eR⟩ : ∃ R, X % C = R := ⟨_, rfl⟩
  rw [eQ, eR] at ht c5
  rw [eQ] at hQ
  rw [eR] at hR
  obtain ⟨far, hfar⟩ : ∃ z, cmpI ((R + R : Nat) : Int) (C : Int) = z := ⟨_, rfl⟩
  rw [hfar] at c5
  obtain ⟨up, hup⟩ : ∃ u, evUp Q R C = u := ⟨_, rfl⟩
  rw [hup] at ht
  obtain ⟨U, hU⟩ : ∃ U, (Q + if up then 1 else 0) = U := ⟨_, rfl⟩
  rw [hU] at ht
  obtain ⟨nb, hnb⟩ : ∃ n, (!(sx == sc)) = n := ⟨_, rfl⟩
  rw [hnb] at ht
  obtain ⟨V, hV⟩ : ∃ V, (if nb then -(U : Int) else (U : Int)) = V := ⟨_, rfl⟩
  rw [hV] at ht
  have hU2 : U ≤ Q + 1 := by rw [← hU]; cases up <;> simp
  have hUt : (U : Int) < top12 := by unfold top12; omega
  have c8 := fun w => carrT nb U V hUt hV w
  have c9 := fun w => told_any V (by unfold Sm top12; rw [← hV]; cases nb <;> simp <;> omega) w
  rw [ht] at c9
  generalize (evR a b c).1 = r1 at *
  generalize (evR a b c).2 = r2 at *
  rw [e3] at c3
  rw [e4] at c4
  have hpl := plus_any (Q : Int) 1 (by unfold top12; omega)
  obtain ⟨q0, hq0⟩ : ∃ q, dg (Q : Int) 0 = q := ⟨_, rfl⟩
  have hq0b := dg_bd (Q : Int) 0
  rw [hq0] at hq0b
  have hq0m : q0 % 2 = (Q : Int) % 2 := by rw [← hq0]; show (Q : Int) % 65536 % 2 = _; omega
  have hodd : (q0.tmod 2 == 1) = decide (Q % 2 = 1) := by
    rw [Int.tmod_eq_emod_of_nonneg hq0b.1, hq0m]
    by_cases h : Q % 2 = 1
    · rw [decide_eq_true h, show (Q : Int) % 2 = 1 by omega]; rfl
    · rw [decide_eq_false h, show (Q : Int) % 2 = 0 by omega]; rfl
  have HODD := Lib.hid (show (q0 % 2 == 1) = decide (Q % 2 = 1) by rw [← hodd, Int.tmod_eq_emod_of_nonneg hq0b.1])
  have hfup : (0 < far ∧ up = true) ∨ (far = 0 ∧ up = decide (Q % 2 = 1)) ∨ (far < 0 ∧ up = false) := by
    rw [← hfar, ← hup]
    unfold evUp
    rcases Nat.lt_trichotomy (R + R) C with h | h | h
    · right; right; exact ⟨by rw [cmpI_lt (by omega)]; omega, by rw [decide_eq_false (by omega), decide_eq_false (by omega)]; rfl⟩
    · right; left; exact ⟨by rw [cmpI_eq (by omega)], by rw [decide_eq_false (by omega), decide_eq_true (show 2 * R = C by omega)]; rfl⟩
    · left; exact ⟨by rw [cmpI_gt (by omega)]; omega, by rw [decide_eq_true (by omega)]; rfl⟩
  have hcd : decide (c < 0) = sc := hsc
  have hc0b : (c == 0) = false := by simp [hc0]
  have C1 := Lib.hid c1
  have C2 := Lib.hid c2
  have C3 := Lib.hid c3
  have C8 := Lib.hid c8
  have C9 := Lib.hid c9
  obtain ⟨e0, e1, e2, e3', e4', e5, e6, e7, e8, e9, e10, e11, eDx⟩ := num12n X
  have c5' : ∀ w : World, Calls Try.prog 39 #[.agg #[.bool sx, .int .i64 e0, .int .i64 e1, .int .i64 e2, .int .i64 e3', .int .i64 e4', .int .i64 e5, .int .i64 e6, .int .i64 e7, .int .i64 e8, .int .i64 e9, .int .i64 e10, .int .i64 e11], .agg (numC sc (d12 (C : Int)))] w fun e w' => e = .returned (.tuple #[.agg (numI (Q : Int)), .int .i64 far, .bool (!decide (R = 0))]) ∧ Kp w w' := by
    rw [numI_nat]; rw [eDx] at c5; exact c5
  have C4 := Lib.hid c4
  have C5 := Lib.hid c5'
  have HDX := Lib.hid eDx
  have HFUP := Lib.hid hfup
  have HU := Lib.hid hU
  have HPL := Lib.hid hpl
  have HQ0 := Lib.hid hq0
  have HNB := Lib.hid hnb
  have HC0 := Lib.hid hc0
  have iN := Lib.hid (show (Try.prog.info? 69).map (·.size) = some (numC sx (d12 (X : Int))).size from info_num' (d12_length _))
  have iS := Lib.hid (show (numC sx (d12 (X : Int))).size = 13 from numC_size (d12_length _))
  have iO := Lib.hid (numC_one sx (d12 (X : Int)))
  clear c1 c2 c3 c4 c5 c5' c8 c9 ht hms hsx hsc hX hC e3 e4 hQ hR eQ eR hfar hup hU hV hU2 hUt hpl hq0 hq0m hfup hnb ha hb hc hcp hc64 eDx hc0
  go_enter Try.func30, Try.ntmps30
  go_wp2_with fail
  go_at_call 37; refine (C1.out _).mono ?_; rintro e w1 ⟨rfl, k1⟩
  go_wp2_with fail
  go_at_call 37; refine (C2.out _).mono ?_; rintro e w2 ⟨rfl, k2⟩
  go_wp2_with fail
  go_at_call 38; refine (C3.out _).mono ?_; rintro e w3 ⟨rfl, k3⟩
  have K3 := Lib.hid (kp_trans (kp_trans k1 k2) k3)
  clear k1 k2 k3
  go_upto_region 4 with ((with_reducible refine at_store 69 ?_); refine wpList_store_row rfl 69 _ _ rfl (w3.heap.size) (numC sx (d12 (X : Int))) rfl rfl 69 _ (heap_alloc_new w3 _) iN.out (by rw [iS.out]; rfl) iO.out ?_)
  obtain ⟨W4, hW4⟩ : ∃ W, (w3.alloc (.cells #[.bool false, .int .i64 0, .int .i64 0, .int .i64 0, .int .i64 0, .int .i64 0, .int .i64 0, .int .i64 0, .int .i64 0, .int .i64 0, .int .i64 0, .int .i64 0, .int .i64 0] 69)).setRow w3.heap.size (numC sx (d12 (X : Int))) = W := ⟨_, rfl⟩
  have hx : NumB W4 w3.heap.size sx (d12 (X : Int)) := by rw [← hW4]; exact ⟨setRow_heap _ _ _ _ _ _ (heap_alloc_new w3 _), d12_length _⟩
  have hk : Kp w W4 := by rw [← hW4]; exact kp_row (kp_alloc K3.out _) (Below.size K3.out) _
  rw [hW4]
  have hge := Below.size K3.out
  clear hW4 K3
  generalize w3.heap.size = BX at *
  have HX := Lib.hid hx
  have HK := Lib.hid hk
  clear hx hk
  dsimp only [Act.put]
  go_cut [9, 10, 11] from 20 to 53 (fun s t u wx => ∃ BQ, s = .pointer (some ⟨BQ, 0, none⟩) ∧ t = .int .i64 far ∧ u = .bool (!decide (R = 0)) ∧ ES w wx BX BQ sx X false Q)
  case first =>
    have hx2 := HX.out
    rw [HDX.out] at hx2
    have x0 : W4.cell? ⟨BX, 0, none⟩ = some (.bool sx) := hx2.sgn
    have x1 : W4.cell? ⟨BX, 1, none⟩ = some (.int .i64 e0) := hx2.cell 0 (by simp)
    have x2 : W4.cell? ⟨BX, 2, none⟩ = some (.int .i64 e1) := hx2.cell 1 (by simp)
    have x3 : W4.cell? ⟨BX, 3, none⟩ = some (.int .i64 e2) := hx2.cell 2 (by simp)
    have x4 : W4.cell? ⟨BX, 4, none⟩ = some (.int .i64 e3') := hx2.cell 3 (by simp)
    have x5 : W4.cell? ⟨BX, 5, none⟩ = some (.int .i64 e4') := hx2.cell 4 (by simp)
    have x6 : W4.cell? ⟨BX, 6, none⟩ = some (.int .i64 e5) := hx2.cell 5 (by simp)
    have x7 : W4.cell? ⟨BX, 7, none⟩ = some (.int .i64 e6) := hx2.cell 6 (by simp)
    have x8 : W4.cell? ⟨BX, 8, none⟩ = some (.int .i64 e7) := hx2.cell 7 (by simp)
    have x9 : W4.cell? ⟨BX, 9, none⟩ = some (.int .i64 e8) := hx2.cell 8 (by simp)
    have x10 : W4.cell? ⟨BX, 10, none⟩ = some (.int .i64 e9) := hx2.cell 9 (by simp)
    have x11 : W4.cell? ⟨BX, 11, none⟩ = some (.int .i64 e10) := hx2.cell 10 (by simp)
    have x12 : W4.cell? ⟨BX, 12, none⟩ = some (.int .i64 e11) := hx2.cell 11 (by simp)
    clear hx2
    have l4 : BX < W4.heap.size := HX.out.lt
    have s4 : w.heap.size ≤ W4.heap.size := Below.size HK.out
    go_region_with (first
      | (go_at_call 37; refine (C4.out _).mono ?_; rintro e w5 ⟨rfl, hk⟩; (try have hz : NumB w5 W4.heap.size false numZ := (NumB.new W4.drew false numZ rfl).kp hk); replace x0 : w5.cell? ⟨BX, 0, none⟩ = some (.bool sx) := kp_cell hk (by first | exact x0 | exact cell_d x0 | exact cell_a x0 _ | exact cell_a (cell_d x0) _); replace x1 : w5.cell? ⟨BX, 1, none⟩ = some (.int .i64 e0) := kp_cell hk (by first | exact x1 | exact cell_d x1 | exact cell_a x1 _ | exact cell_a (cell_d x1) _); replace x2 : w5.cell? ⟨BX, 2, none⟩ = some (.int .i64 e1) := kp_cell hk (by first | exact x2 | exact cell_d x2 | exact cell_a x2 _ | exact cell_a (cell_d x2) _); replace x3 : w5.cell? ⟨BX, 3, none⟩ = some (.int .i64 e2) := kp_cell hk (by first | exact x3 | exact cell_d x3 | exact cell_a x3 _ | exact cell_a (cell_d x3) _); replace x4 : w5.cell? ⟨BX, 4, none⟩ = some (.int .i64 e3') := kp_cell hk (by first | exact x4 | exact cell_d x4 | exact cell_a x4 _ | exact cell_a (cell_d x4) _); replace x5 : w5.cell? ⟨BX, 5, none⟩ = some (.int .i64 e4') := kp_cell hk (by first | exact x5 | exact cell_d x5 | exact cell_a x5 _ | exact cell_a (cell_d x5) _); replace x6 : w5.cell? ⟨BX, 6, none⟩ = some (.int .i64 e5) := kp_cell hk (by first | exact x6 | exact cell_d x6 | exact cell_a x6 _ | exact cell_a (cell_d x6) _); replace x7 : w5.cell? ⟨BX, 7, none⟩ = some (.int .i64 e6) := kp_cell hk (by first | exact x7 | exact cell_d x7 | exact cell_a x7 _ | exact cell_a (cell_d x7) _); replace x8 : w5.cell? ⟨BX, 8, none⟩ = some (.int .i64 e7) := kp_cell hk (by first | exact x8 | exact cell_d x8 | exact cell_a x8 _ | exact cell_a (cell_d x8) _); replace x9 : w5.cell? ⟨BX, 9, none⟩ = some (.int .i64 e8) := kp_cell hk (by first | exact x9 | exact cell_d x9 | exact cell_a x9 _ | exact cell_a (cell_d x9) _); replace x10 : w5.cell? ⟨BX, 10, none⟩ = some (.int .i64 e9) := kp_cell hk (by first | exact x10 | exact cell_d x10 | exact cell_a x10 _ | exact cell_a (cell_d x10) _); replace x11 : w5.cell? ⟨BX, 11, none⟩ = some (.int .i64 e10) := kp_cell hk (by first | exact x11 | exact cell_d x11 | exact cell_a x11 _ | exact cell_a (cell_d x11) _); replace x12 : w5.cell? ⟨BX, 12, none⟩ = some (.int .i64 e11) := kp_cell hk (by first | exact x12 | exact cell_d x12 | exact cell_a x12 _ | exact cell_a (cell_d x12) _); replace HX := Lib.hid (HX.out.kp (by first | exact hk | exact kp_trans (kp_drew (kp_refl _)) hk | exact kp_trans (kp_alloc (kp_refl _) _) hk | exact kp_trans (kp_alloc (kp_drew (kp_refl _)) _) hk)); have l5 : BX < w5.heap.size := HX.out.lt; replace HK := Lib.hid (kp_trans HK.out (by first | exact hk | exact kp_trans (kp_drew (kp_refl _)) hk | exact kp_trans (kp_alloc (kp_refl _) _) hk | exact kp_trans (kp_alloc (kp_drew (kp_refl _)) _) hk)); have s5 : w.heap.size ≤ w5.heap.size := Below.size HK.out; clear hk)
      | (go_at_call 39; refine (C5.out _).mono ?_; rintro e w6 ⟨rfl, hk⟩; have HX6 := Lib.hid (HX.out.kp (by first | exact hk | exact kp_trans (kp_drew (kp_refl _)) hk | exact kp_trans (kp_alloc (kp_refl _) _) hk | exact kp_trans (kp_alloc (kp_drew (kp_refl _)) _) hk)); have HK6 := Lib.hid (kp_trans HK.out (by first | exact hk | exact kp_trans (kp_drew (kp_refl _)) hk | exact kp_trans (kp_alloc (kp_refl _) _) hk | exact kp_trans (kp_alloc (kp_drew (kp_refl _)) _) hk)); have l6 : BX < w6.heap.size := HX6.out.lt; have s6 : w.heap.size ≤ w6.heap.size := Below.size HK6.out; (first
          | (have hz6 := hz.kp hk; have hst := run_cells_num (Q : Int) hz6; clear hk)
          | (have hz6 : NumB w6 w5.heap.size false numZ := (NumB.new w5 false numZ rfl).kp hk; have hst := run_cells_num (Q : Int) hz6; clear hk)
          | (have hz6 : NumB (w6.alloc (.cells #[.bool false, .int .i64 0, .int .i64 0, .int .i64 0, .int .i64 0, .int .i64 0, .int .i64 0, .int .i64 0, .int .i64 0, .int .i64 0, .int .i64 0, .int .i64 0, .int .i64 0] 69)) w6.heap.size false numZ := NumB.new w6 false numZ rfl; have hst := run_cells_num (Q : Int) hz6; clear hk))))
    all_goals go_wp2_with fail
    all_goals go_meet
    all_goals first
      | exact ⟨_, rfl, rfl, rfl, ⟨HX6.out.offRow _ (by omega), by rw [numI_nat]; exact hz6.row (d12_length _), by omega, by omega, by omega, kp_row HK6.out (by omega) _⟩⟩
      | exact ⟨_, rfl, rfl, rfl, ⟨(HX6.out.a _).offRow _ (by omega), by rw [numI_nat]; exact hz6.row (d12_length _), by omega, by omega, by omega, kp_row (kp_alloc HK6.out _) (by omega) _⟩⟩
  case rest =>
    obtain ⟨BQ, rfl, rfl, rfl, he⟩ := hcut
    have HE := Lib.hid he
    clear he HX HK
    go_upto_region 5 with fail
    go_cut [39] from 20 to 53 (fun s wx => s = .bool up ∧ ES w wx BX BQ sx X false Q)
    case first =>
      have y0 : wc.cell? ⟨BQ, 1, none⟩ = some (.int .i64 q0) := by have := HE.out.q.cell 0 (by rw [d12_length]; omega); rwa [d12_get, HQ0.out] at this
      rcases HFUP.out with ⟨h, hu⟩ | ⟨h, hu⟩ | ⟨h, hu⟩
      · subst hu
        have t1 : decide (0 < far) = true := decide_eq_true h
        go_wp2_with fail
        go_meet
        exact ⟨rfl, HE.out⟩
      · subst h
        rw [← hu] at hodd
        have hod2 := HODD.out
        rw [← hu] at hod2
        have HO2 := Lib.hid hod2
        go_wp2_with fail
        go_meet
        exact ⟨by first | rfl | rw [HO2.out] | rw [hu], HE.out⟩
      · subst hu
        have t1 : decide (0 < far) = false := decide_eq_false (by omega)
        have t2 : (far == 0) = false := by simp; omega
        go_wp2_with fail
        go_meet
        exact ⟨rfl, HE.out⟩
    case rest =>
      obtain ⟨rfl, he⟩ := hcut
      have HE := Lib.hid he
      clear he hodd HODD HFUP
      go_upto_if 39 with fail
      go_cut [9] from 20 to 53 (fun s wx => s = .pointer (some ⟨BQ, 0, none⟩) ∧ ES w wx BX BQ sx X false U)
      case first =>
        cases up
        · go_wp2_with fail
          go_meet
          exact ⟨rfl, by rw [← HU.out]; exact HE.out⟩
        · obtain ⟨f0, f1, f2, f3, f4, f5, f6, f7, f8, f9, f10, f11, eDq⟩ := num12n Q
          have hpl := HPL.out
          have eU : (Q : Int) + 1 = (U : Int) := by have := HU.out; simp at this; omega
          rw [numI_nat, eDq, eU] at hpl
          have cq' : ∀ w : World, Calls Try.prog 41 #[.agg #[.bool false, .int .i64 f0, .int .i64 f1, .int .i64 f2, .int .i64 f3, .int .i64 f4, .int .i64 f5, .int .i64 f6, .int .i64 f7, .int .i64 f8, .int .i64 f9, .int .i64 f10, .int .i64 f11], .agg (numI 1)] w fun e w' => e = .returned (.agg (numI (U : Int))) ∧ Kp w w' := hpl
          have co : ∀ w : World, Calls Try.prog 37 #[.int .i64 1] w fun e w' => e = .returned (.agg (numI 1)) ∧ Kp w w' := fun w => of_any 1 (by unfold I64; omega) w
          have CQ := Lib.hid cq'
          have CO := Lib.hid co
          have hx3 := HE.out.q
          rw [eDq] at hx3
          have z0 : wc.cell? ⟨BQ, 0, none⟩ = some (.bool false) := hx3.sgn
          have z1 : wc.cell? ⟨BQ, 1, none⟩ = some (.int .i64 f0) := hx3.cell 0 (by simp)
          have z2 : wc.cell? ⟨BQ, 2, none⟩ = some (.int .i64 f1) := hx3.cell 1 (by simp)
          have z3 : wc.cell? ⟨BQ, 3, none⟩ = some (.int .i64 f2) := hx3.cell 2 (by simp)
          have z4 : wc.cell? ⟨BQ, 4, none⟩ = some (.int .i64 f3) := hx3.cell 3 (by simp)
          have z5 : wc.cell? ⟨BQ, 5, none⟩ = some (.int .i64 f4) := hx3.cell 4 (by simp)
          have z6 : wc.cell? ⟨BQ, 6, none⟩ = some (.int .i64 f5) := hx3.cell 5 (by simp)
          have z7 : wc.cell? ⟨BQ, 7, none⟩ = some (.int .i64 f6) := hx3.cell 6 (by simp)
          have z8 : wc.cell? ⟨BQ, 8, none⟩ = some (.int .i64 f7) := hx3.cell 7 (by simp)
          have z9 : wc.cell? ⟨BQ, 9, none⟩ = some (.int .i64 f8) := hx3.cell 8 (by simp)
          have z10 : wc.cell? ⟨BQ, 10, none⟩ = some (.int .i64 f9) := hx3.cell 9 (by simp)
          have z11 : wc.cell? ⟨BQ, 11, none⟩ = some (.int .i64 f10) := hx3.cell 10 (by simp)
          have z12 : wc.cell? ⟨BQ, 12, none⟩ = some (.int .i64 f11) := hx3.cell 11 (by simp)
          clear hx3 cq' co hpl eDq eU
          go_upto_region 6 with fail
          go_region_with (first
            | (go_at_call 37; refine (CO.out _).mono ?_; rintro e w14 ⟨rfl, hk⟩; replace z0 : w14.cell? ⟨BQ, 0, none⟩ = some (.bool false) := kp_cell hk (by first | exact z0 | exact cell_d z0); replace z1 : w14.cell? ⟨BQ, 1, none⟩ = some (.int .i64 f0) := kp_cell hk (by first | exact z1 | exact cell_d z1); replace z2 : w14.cell? ⟨BQ, 2, none⟩ = some (.int .i64 f1) := kp_cell hk (by first | exact z2 | exact cell_d z2); replace z3 : w14.cell? ⟨BQ, 3, none⟩ = some (.int .i64 f2) := kp_cell hk (by first | exact z3 | exact cell_d z3); replace z4 : w14.cell? ⟨BQ, 4, none⟩ = some (.int .i64 f3) := kp_cell hk (by first | exact z4 | exact cell_d z4); replace z5 : w14.cell? ⟨BQ, 5, none⟩ = some (.int .i64 f4) := kp_cell hk (by first | exact z5 | exact cell_d z5); replace z6 : w14.cell? ⟨BQ, 6, none⟩ = some (.int .i64 f5) := kp_cell hk (by first | exact z6 | exact cell_d z6); replace z7 : w14.cell? ⟨BQ, 7, none⟩ = some (.int .i64 f6) := kp_cell hk (by first | exact z7 | exact cell_d z7); replace z8 : w14.cell? ⟨BQ, 8, none⟩ = some (.int .i64 f7) := kp_cell hk (by first | exact z8 | exact cell_d z8); replace z9 : w14.cell? ⟨BQ, 9, none⟩ = some (.int .i64 f8) := kp_cell hk (by first | exact z9 | exact cell_d z9); replace z10 : w14.cell? ⟨BQ, 10, none⟩ = some (.int .i64 f9) := kp_cell hk (by first | exact z10 | exact cell_d z10); replace z11 : w14.cell? ⟨BQ, 11, none⟩ = some (.int .i64 f10) := kp_cell hk (by first | exact z11 | exact cell_d z11); replace z12 : w14.cell? ⟨BQ, 12, none⟩ = some (.int .i64 f11) := kp_cell hk (by first | exact z12 | exact cell_d z12); replace HE := Lib.hid (HE.out.kp (by first | exact hk | exact kp_trans (kp_drew (kp_refl _)) hk)); clear hk)
            | (go_at_call 41; refine (CQ.out _).mono ?_; rintro e w15 ⟨rfl, hk⟩; replace z0 : w15.cell? ⟨BQ, 0, none⟩ = some (.bool false) := kp_cell hk (by first | exact z0 | exact cell_d z0); replace z1 : w15.cell? ⟨BQ, 1, none⟩ = some (.int .i64 f0) := kp_cell hk (by first | exact z1 | exact cell_d z1); replace z2 : w15.cell? ⟨BQ, 2, none⟩ = some (.int .i64 f1) := kp_cell hk (by first | exact z2 | exact cell_d z2); replace z3 : w15.cell? ⟨BQ, 3, none⟩ = some (.int .i64 f2) := kp_cell hk (by first | exact z3 | exact cell_d z3); replace z4 : w15.cell? ⟨BQ, 4, none⟩ = some (.int .i64 f3) := kp_cell hk (by first | exact z4 | exact cell_d z4); replace z5 : w15.cell? ⟨BQ, 5, none⟩ = some (.int .i64 f4) := kp_cell hk (by first | exact z5 | exact cell_d z5); replace z6 : w15.cell? ⟨BQ, 6, none⟩ = some (.int .i64 f5) := kp_cell hk (by first | exact z6 | exact cell_d z6); replace z7 : w15.cell? ⟨BQ, 7, none⟩ = some (.int .i64 f6) := kp_cell hk (by first | exact z7 | exact cell_d z7); replace z8 : w15.cell? ⟨BQ, 8, none⟩ = some (.int .i64 f7) := kp_cell hk (by first | exact z8 | exact cell_d z8); replace z9 : w15.cell? ⟨BQ, 9, none⟩ = some (.int .i64 f8) := kp_cell hk (by first | exact z9 | exact cell_d z9); replace z10 : w15.cell? ⟨BQ, 10, none⟩ = some (.int .i64 f9) := kp_cell hk (by first | exact z10 | exact cell_d z10); replace z11 : w15.cell? ⟨BQ, 11, none⟩ = some (.int .i64 f10) := kp_cell hk (by first | exact z11 | exact cell_d z11); replace z12 : w15.cell? ⟨BQ, 12, none⟩ = some (.int .i64 f11) := kp_cell hk (by first | exact z12 | exact cell_d z12); have HE15 := Lib.hid (HE.out.kp (by first | exact hk | exact kp_trans (kp_drew (kp_refl _)) hk)); have hst := run_cells_num (U : Int) HE15.out.q; clear hk))
          all_goals go_wp2_with fail
          all_goals go_meet
          all_goals exact ⟨rfl, HE15.out.setQ U⟩
      case rest =>
        obtain ⟨rfl, he⟩ := hcut
        have hnb := HNB.out
        have s1 := he.x.sgn
        have s2 := he.q.sgn
        have f2 := he.q.froz 0
        have l1 := he.x.lt
        have l2 := he.q.lt
        have HE2 := Lib.hid (he.setN nb)
        clear he HE
        go_upto_region 8 with fail
        obtain ⟨W9, hW9⟩ : ∃ W, wc.setCell ⟨BQ, 0, none⟩ (.bool nb) = W := ⟨_, rfl⟩
        rw [hW9] at HE2 ⊢
        clear hW9 s1 s2 f2
        go_wp2_with (first
          | ((with_reducible refine at_slot 49 ?_); refine wpList_load_row rfl 69 _ rfl (BQ) rfl 69 _ (0, 0) _ HE2.out.q.1 Try.underlying69 rfl (info_num' (d12_length _)) ?_)
          | (go_at_call 43; refine (C8.out _).mono ?_; rintro e w21 ⟨rfl, hk⟩; have k21 := Lib.hid (kp_trans HE2.out.k hk); clear hk)
          | (go_at_call 42; refine (C9.out _).mono ?_; rintro e w22 ⟨rfl, hk⟩; have k22 := Lib.hid (kp_trans k21.out hk); clear hk))
        go_ret2
        exact ⟨rfl, k22.out⟩
end Go.Proofs.Ytcmijedhjebpkaa
