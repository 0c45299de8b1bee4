/- Contract: the document's 'greater'. -/
import Derived.Test.YtcmijedhjebpkaaRM
namespace Go.Proofs.Ytcmijedhjebpkaa
open Go.RowKit Go.Proofs.Num Go.Proofs.Geo
set_option linter.unusedVariables false
theorem gt_bd {a b c d : Int} (ha : I64 a) (hb : I64 b) (hc : I64 c) (hd : I64 d) : ((a * b).natAbs : Int) + ((-(c * d)).natAbs : Int) < top12 ∧ (a * b + -(c * d)).natAbs ≤ 170141183460469231731687303715884105728 := by
  have m1 := mul_size ha hb
  have m2 := mul_size hc hd
  unfold top12
  omega
set_option maxHeartbeats 16000000 in
set_option maxRecDepth 100000 in
theorem greater_core (z a n b m s X Y V1 V2 D : Int) (s1 s2 : Bool) (hz : I64 z) (ha : I64 a) (hn : I64 n) (hb : I64 b) (hm : I64 m) (hs : I64 s) (hX : z * a + -(n * s) = X) (hY : z * b + -(m * s) = Y) (hD : X + -Y = D)
    (h1 : decide (X < 0) = s1) (h2 : decide (Y < 0) = s2) (v1 : (X.natAbs : Int) = V1) (v2 : (Y.natAbs : Int) = V2) (w : World) :
    Calls Try.prog 28 #[.int .i64 z, .int .i64 a, .int .i64 n, .int .i64 b, .int .i64 m, .int .i64 s] w fun e w' => e = .returned (.bool (decide (0 < D.sign))) ∧ Kp w w' := by
  have g1 := gt_bd hz ha hn hs
  have g2 := gt_bd hz hb hm hs
  have p1 := mul_size hn hs
  have p2 := mul_size hm hs
  have oz := Lib.hid (of_any z hz); have oa := Lib.hid (of_any a ha); have on := Lib.hid (of_any n hn); have ob := Lib.hid (of_any b hb); have om := Lib.hid (of_any m hm); have os := Lib.hid (of_any s hs)
  have za := Lib.hid (mulN_any z a hz ha); have ns := Lib.hid (mulN_any n s hn hs); have zb := Lib.hid (mulN_any z b hz hb); have ms := Lib.hid (mulN_any m s hm hs)
  have l1 := Lib.hid (less_any (n * s) (by unfold Sm top12; omega)); have l2 := Lib.hid (less_any (m * s) (by unfold Sm top12; omega))
  have q1 := plus_any (z * a) (-(n * s)) g1.1
  have q2 := plus_any (z * b) (-(m * s)) g2.1
  have g3 := g1.2; have g4 := g2.2
  rw [hX] at q1 g3; rw [hY] at q2 g4
  have q3 := less_any Y (by unfold Sm top12; omega)
  have q4 := plus_any X (-Y) (by unfold top12; omega)
  have q5 := sgn_any (X + -Y) (by unfold Sm top12; omega)
  rw [hD] at q4 q5
  have e1 : numI X = numC s1 (d12 V1) := by unfold numI; rw [h1, v1]
  have e2 : numI Y = numC s2 (d12 V2) := by unfold numI; rw [h2, v2]
  have i1 := info_numI X
  have j1 : (numI X).size = 13 := numC_size (d12_length _)
  have k1 := numC_one s1 (d12 V1)
  have i2 := info_numI Y
  have j2 : (numI Y).size = 13 := numC_size (d12_length _)
  have k2 := numC_one s2 (d12 V2)
  rw [e1] at q1 q4 i1 j1
  rw [e2] at q2 q3 i2 j2
  have r3 : ∀ w : World, Calls Try.prog 44 #[.agg #[.bool s2, .int .i64 (dg V2 0), .int .i64 (dg V2 1), .int .i64 (dg V2 2), .int .i64 (dg V2 3), .int .i64 (dg V2 4), .int .i64 (dg V2 5), .int .i64 (dg V2 6), .int .i64 (dg V2 7), .int .i64 (dg V2 8), .int .i64 (dg V2 9), .int .i64 (dg V2 10), .int .i64 (dg V2 11)]] w fun e w' => e = .returned (.agg (numI (-Y))) ∧ Kp w w' := q3
  have r4 : ∀ w : World, Calls Try.prog 41 #[.agg #[.bool s1, .int .i64 (dg V1 0), .int .i64 (dg V1 1), .int .i64 (dg V1 2), .int .i64 (dg V1 3), .int .i64 (dg V1 4), .int .i64 (dg V1 5), .int .i64 (dg V1 6), .int .i64 (dg V1 7), .int .i64 (dg V1 8), .int .i64 (dg V1 9), .int .i64 (dg V1 10), .int .i64 (dg V1 11)], .agg (numI (-Y))] w fun e w' => e = .returned (.agg (numI D)) ∧ Kp w w' := q4
  have Q1 := Lib.hid q1; have Q2 := Lib.hid q2; have Q3 := Lib.hid r3; have Q4 := Lib.hid r4; have Q5 := Lib.hid q5
  have I1 := Lib.hid i1; have I2 := Lib.hid i2; have J1 := Lib.hid j1; have J2 := Lib.hid j2; have O1 := Lib.hid k1; have O2 := Lib.hid k2
  clear g1 g2 g3 g4 p1 p2 hz ha hn hb hm hs q1 q2 q3 q4 q5 r3 r4 i1 i2 j1 j2 k1 k2 e1 e2 h1 h2 v1 v2 hX hY hD
  generalize z * a = za' at *
  generalize n * s = ns' at *
  generalize z * b = zb' at *
  generalize m * s = ms' at *
  generalize D.sign = T at *
  go_enter Try.func28, Try.ntmps28
  go_wp2_with fail
  go_at_call 37; refine (oz.out _).mono ?_; rintro e w10 ⟨rfl, k0⟩
  go_wp2_with fail
  go_at_call 37; refine (oa.out _).mono ?_; rintro e w11 ⟨rfl, k1⟩
  go_wp2_with fail
  go_at_call 38; refine (za.out _).mono ?_; rintro e w12 ⟨rfl, k2⟩
  go_wp2_with fail
  go_at_call 37; refine (on.out _).mono ?_; rintro e w13 ⟨rfl, k3⟩
  go_wp2_with fail
  go_at_call 37; refine (os.out _).mono ?_; rintro e w14 ⟨rfl, k4⟩
  go_wp2_with fail
  go_at_call 38; refine (ns.out _).mono ?_; rintro e w15 ⟨rfl, k5⟩
  go_wp2_with fail
  go_at_call 44; refine (l1.out _).mono ?_; rintro e w16 ⟨rfl, k6⟩
  go_wp2_with fail
  go_at_call 41; refine (Q1.out _).mono ?_; rintro e w17 ⟨rfl, k7⟩
  have K3 := Lib.hid (kp_trans (kp_trans (kp_trans (kp_trans (kp_trans (kp_trans (kp_trans k0 k1) k2) k3) k4) k5) k6) k7)
  clear k0 k1 k2 k3 k4 k5 k6 k7
  go_upto_region 2 with ((with_reducible refine at_store 69 ?_); refine wpList_store_row rfl 69 _ _ rfl (w17.heap.size) (numC s1 (d12 V1)) rfl rfl 69 _ (heap_alloc_new w17 _) I1.out (by rw [J1.out]; rfl) O1.out ?_)
  obtain ⟨U1, hU⟩ : ∃ W, (w17.alloc (.cells #[.bool false, .int .i64 0, .int .i64 0, .int .i64 0, .int .i64 0, .int .i64 0, .int .i64 0, .int .i64 0, .int .i64 0, .int .i64 0, .int .i64 0, .int .i64 0, .int .i64 0] 69)).setRow w17.heap.size (numC s1 (d12 V1)) = W := ⟨_, rfl⟩
  have hx1 : NumB U1 w17.heap.size s1 (d12 V1) := by rw [← hU]; exact ⟨setRow_heap _ _ _ _ _ _ (heap_alloc_new w17 _), d12_length _⟩
  have hk1 : Kp w U1 := by rw [← hU]; exact kp_row (kp_alloc K3.out _) (Below.size K3.out) _
  rw [hU]
  clear hU K3
  generalize w17.heap.size = B1 at *
  go_wp2_with fail
  go_at_call 37; refine (oz.out _).mono ?_; rintro e w20 ⟨rfl, k0⟩
  go_wp2_with fail
  go_at_call 37; refine (ob.out _).mono ?_; rintro e w21 ⟨rfl, k1⟩
  go_wp2_with fail
  go_at_call 38; refine (zb.out _).mono ?_; rintro e w22 ⟨rfl, k2⟩
  go_wp2_with fail
  go_at_call 37; refine (om.out _).mono ?_; rintro e w23 ⟨rfl, k3⟩
  go_wp2_with fail
  go_at_call 37; refine (os.out _).mono ?_; rintro e w24 ⟨rfl, k4⟩
  go_wp2_with fail
  go_at_call 38; refine (ms.out _).mono ?_; rintro e w25 ⟨rfl, k5⟩
  go_wp2_with fail
  go_at_call 44; refine (l2.out _).mono ?_; rintro e w26 ⟨rfl, k6⟩
  go_wp2_with fail
  go_at_call 41; refine (Q2.out _).mono ?_; rintro e w27 ⟨rfl, k7⟩
  have K3 := Lib.hid (kp_trans (kp_trans (kp_trans (kp_trans (kp_trans (kp_trans (kp_trans k0 k1) k2) k3) k4) k5) k6) k7)
  clear k0 k1 k2 k3 k4 k5 k6 k7
  go_upto_region 3 with ((with_reducible refine at_store 69 ?_); refine wpList_store_row rfl 69 _ _ rfl (w27.heap.size) (numC s2 (d12 V2)) rfl rfl 69 _ (heap_alloc_new w27 _) I2.out (by rw [J2.out]; rfl) O2.out ?_)
  obtain ⟨U2, hU⟩ : ∃ W, (w27.alloc (.cells #[.bool false, .int .i64 0, .int .i64 0, .int .i64 0, .int .i64 0, .int .i64 0, .int .i64 0, .int .i64 0, .int .i64 0, .int .i64 0, .int .i64 0, .int .i64 0, .int .i64 0] 69)).setRow w27.heap.size (numC s2 (d12 V2)) = W := ⟨_, rfl⟩
  have hx2 : NumB U2 w27.heap.size s2 (d12 V2) := by rw [← hU]; exact ⟨setRow_heap _ _ _ _ _ _ (heap_alloc_new w27 _), d12_length _⟩
  have hk2 : Kp U1 U2 := by rw [← hU]; exact kp_row (kp_alloc K3.out _) (Below.size K3.out) _
  rw [hU]
  clear hU K3
  generalize w27.heap.size = B2 at *
  have hx1' := hx1.kp hk2
  have K := kp_trans hk1 hk2
  have x0 : U2.cell? ⟨B1, 0, none⟩ = some (.bool s1) := hx1'.sgn
  have x1 : U2.cell? ⟨B1, 1, none⟩ = some (.int .i64 (dg V1 0)) := by have := hx1'.cell 0 (by rw [d12_length]; omega); rwa [d12_get] at this
  have x2 : U2.cell? ⟨B1, 2, none⟩ = some (.int .i64 (dg V1 1)) := by have := hx1'.cell 1 (by rw [d12_length]; omega); rwa [d12_get] at this
  have x3 : U2.cell? ⟨B1, 3, none⟩ = some (.int .i64 (dg V1 2)) := by have := hx1'.cell 2 (by rw [d12_length]; omega); rwa [d12_get] at this
  have x4 : U2.cell? ⟨B1, 4, none⟩ = some (.int .i64 (dg V1 3)) := by have := hx1'.cell 3 (by rw [d12_length]; omega); rwa [d12_get] at this
  have x5 : U2.cell? ⟨B1, 5, none⟩ = some (.int .i64 (dg V1 4)) := by have := hx1'.cell 4 (by rw [d12_length]; omega); rwa [d12_get] at this
  have x6 : U2.cell? ⟨B1, 6, none⟩ = some (.int .i64 (dg V1 5)) := by have := hx1'.cell 5 (by rw [d12_length]; omega); rwa [d12_get] at this
  have x7 : U2.cell? ⟨B1, 7, none⟩ = some (.int .i64 (dg V1 6)) := by have := hx1'.cell 6 (by rw [d12_length]; omega); rwa [d12_get] at this
  have x8 : U2.cell? ⟨B1, 8, none⟩ = some (.int .i64 (dg V1 7)) := by have := hx1'.cell 7 (by rw [d12_length]; omega); rwa [d12_get] at this
  have x9 : U2.cell? ⟨B1, 9, none⟩ = some (.int .i64 (dg V1 8)) := by have := hx1'.cell 8 (by rw [d12_length]; omega); rwa [d12_get] at this
  have x10 : U2.cell? ⟨B1, 10, none⟩ = some (.int .i64 (dg V1 9)) := by have := hx1'.cell 9 (by rw [d12_length]; omega); rwa [d12_get] at this
  have x11 : U2.cell? ⟨B1, 11, none⟩ = some (.int .i64 (dg V1 10)) := by have := hx1'.cell 10 (by rw [d12_length]; omega); rwa [d12_get] at this
  have x12 : U2.cell? ⟨B1, 12, none⟩ = some (.int .i64 (dg V1 11)) := by have := hx1'.cell 11 (by rw [d12_length]; omega); rwa [d12_get] at this
  have y0 : U2.cell? ⟨B2, 0, none⟩ = some (.bool s2) := hx2.sgn
  have y1 : U2.cell? ⟨B2, 1, none⟩ = some (.int .i64 (dg V2 0)) := by have := hx2.cell 0 (by rw [d12_length]; omega); rwa [d12_get] at this
  have y2 : U2.cell? ⟨B2, 2, none⟩ = some (.int .i64 (dg V2 1)) := by have := hx2.cell 1 (by rw [d12_length]; omega); rwa [d12_get] at this
  have y3 : U2.cell? ⟨B2, 3, none⟩ = some (.int .i64 (dg V2 2)) := by have := hx2.cell 2 (by rw [d12_length]; omega); rwa [d12_get] at this
  have y4 : U2.cell? ⟨B2, 4, none⟩ = some (.int .i64 (dg V2 3)) := by have := hx2.cell 3 (by rw [d12_length]; omega); rwa [d12_get] at this
  have y5 : U2.cell? ⟨B2, 5, none⟩ = some (.int .i64 (dg V2 4)) := by have := hx2.cell 4 (by rw [d12_length]; omega); rwa [d12_get] at this
  have y6 : U2.cell? ⟨B2, 6, none⟩ = some (.int .i64 (dg V2 5)) := by have := hx2.cell 5 (by rw [d12_length]; omega); rwa [d12_get] at this
  have y7 : U2.cell? ⟨B2, 7, none⟩ = some (.int .i64 (dg V2 6)) := by have := hx2.cell 6 (by rw [d12_length]; omega); rwa [d12_get] at this
  have y8 : U2.cell? ⟨B2, 8, none⟩ = some (.int .i64 (dg V2 7)) := by have := hx2.cell 7 (by rw [d12_length]; omega); rwa [d12_get] at this
  have y9 : U2.cell? ⟨B2, 9, none⟩ = some (.int .i64 (dg V2 8)) := by have := hx2.cell 8 (by rw [d12_length]; omega); rwa [d12_get] at this
  have y10 : U2.cell? ⟨B2, 10, none⟩ = some (.int .i64 (dg V2 9)) := by have := hx2.cell 9 (by rw [d12_length]; omega); rwa [d12_get] at this
  have y11 : U2.cell? ⟨B2, 11, none⟩ = some (.int .i64 (dg V2 10)) := by have := hx2.cell 10 (by rw [d12_length]; omega); rwa [d12_get] at this
  have y12 : U2.cell? ⟨B2, 12, none⟩ = some (.int .i64 (dg V2 11)) := by have := hx2.cell 11 (by rw [d12_length]; omega); rwa [d12_get] at this
  have lB1 := hx1'.lt
  have lB2 := hx2.lt
  clear hx1 hx1' hx2 hk1 hk2
  go_region_held3 (fun w' => Kp w w' ∧ w'.cell? ⟨B1, 0, none⟩ = some (.bool s1) ∧ w'.cell? ⟨B1, 1, none⟩ = some (.int .i64 (dg V1 0)) ∧ w'.cell? ⟨B1, 2, none⟩ = some (.int .i64 (dg V1 1)) ∧ w'.cell? ⟨B1, 3, none⟩ = some (.int .i64 (dg V1 2)) ∧ w'.cell? ⟨B1, 4, none⟩ = some (.int .i64 (dg V1 3)) ∧ w'.cell? ⟨B1, 5, none⟩ = some (.int .i64 (dg V1 4)) ∧ w'.cell? ⟨B1, 6, none⟩ = some (.int .i64 (dg V1 5)) ∧ w'.cell? ⟨B1, 7, none⟩ = some (.int .i64 (dg V1 6)) ∧ w'.cell? ⟨B1, 8, none⟩ = some (.int .i64 (dg V1 7)) ∧ w'.cell? ⟨B1, 9, none⟩ = some (.int .i64 (dg V1 8)) ∧ w'.cell? ⟨B1, 10, none⟩ = some (.int .i64 (dg V1 9)) ∧ w'.cell? ⟨B1, 11, none⟩ = some (.int .i64 (dg V1 10)) ∧ w'.cell? ⟨B1, 12, none⟩ = some (.int .i64 (dg V1 11)) ∧ w'.cell? ⟨B2, 0, none⟩ = some (.bool s2) ∧ w'.cell? ⟨B2, 1, none⟩ = some (.int .i64 (dg V2 0)) ∧ w'.cell? ⟨B2, 2, none⟩ = some (.int .i64 (dg V2 1)) ∧ w'.cell? ⟨B2, 3, none⟩ = some (.int .i64 (dg V2 2)) ∧ w'.cell? ⟨B2, 4, none⟩ = some (.int .i64 (dg V2 3)) ∧ w'.cell? ⟨B2, 5, none⟩ = some (.int .i64 (dg V2 4)) ∧ w'.cell? ⟨B2, 6, none⟩ = some (.int .i64 (dg V2 5)) ∧ w'.cell? ⟨B2, 7, none⟩ = some (.int .i64 (dg V2 6)) ∧ w'.cell? ⟨B2, 8, none⟩ = some (.int .i64 (dg V2 7)) ∧ w'.cell? ⟨B2, 9, none⟩ = some (.int .i64 (dg V2 8)) ∧ w'.cell? ⟨B2, 10, none⟩ = some (.int .i64 (dg V2 9)) ∧ w'.cell? ⟨B2, 11, none⟩ = some (.int .i64 (dg V2 10)) ∧ w'.cell? ⟨B2, 12, none⟩ = some (.int .i64 (dg V2 11))) ((first | exact ⟨K, x0, x1, x2, x3, x4, x5, x6, x7, x8, x9, x10, x11, x12, y0, y1, y2, y3, y4, y5, y6, y7, y8, y9, y10, y11, y12⟩ | exact ⟨kp_drew K, x0, x1, x2, x3, x4, x5, x6, x7, x8, x9, x10, x11, x12, y0, y1, y2, y3, y4, y5, y6, y7, y8, y9, y10, y11, y12⟩))
    ((first
      | (go_at_call 40; refine (Q5.out _).mono ?_; rintro e w6 ⟨rfl, hk6⟩; replace x0 : w6.cell? ⟨B1, 0, none⟩ = some (.bool s1) := kp_cell hk6 x0; replace x1 : w6.cell? ⟨B1, 1, none⟩ = some (.int .i64 (dg V1 0)) := kp_cell hk6 x1; replace x2 : w6.cell? ⟨B1, 2, none⟩ = some (.int .i64 (dg V1 1)) := kp_cell hk6 x2; replace x3 : w6.cell? ⟨B1, 3, none⟩ = some (.int .i64 (dg V1 2)) := kp_cell hk6 x3; replace x4 : w6.cell? ⟨B1, 4, none⟩ = some (.int .i64 (dg V1 3)) := kp_cell hk6 x4; replace x5 : w6.cell? ⟨B1, 5, none⟩ = some (.int .i64 (dg V1 4)) := kp_cell hk6 x5; replace x6 : w6.cell? ⟨B1, 6, none⟩ = some (.int .i64 (dg V1 5)) := kp_cell hk6 x6; replace x7 : w6.cell? ⟨B1, 7, none⟩ = some (.int .i64 (dg V1 6)) := kp_cell hk6 x7; replace x8 : w6.cell? ⟨B1, 8, none⟩ = some (.int .i64 (dg V1 7)) := kp_cell hk6 x8; replace x9 : w6.cell? ⟨B1, 9, none⟩ = some (.int .i64 (dg V1 8)) := kp_cell hk6 x9; replace x10 : w6.cell? ⟨B1, 10, none⟩ = some (.int .i64 (dg V1 9)) := kp_cell hk6 x10; replace x11 : w6.cell? ⟨B1, 11, none⟩ = some (.int .i64 (dg V1 10)) := kp_cell hk6 x11; replace x12 : w6.cell? ⟨B1, 12, none⟩ = some (.int .i64 (dg V1 11)) := kp_cell hk6 x12; replace y0 : w6.cell? ⟨B2, 0, none⟩ = some (.bool s2) := kp_cell hk6 y0; replace y1 : w6.cell? ⟨B2, 1, none⟩ = some (.int .i64 (dg V2 0)) := kp_cell hk6 y1; replace y2 : w6.cell? ⟨B2, 2, none⟩ = some (.int .i64 (dg V2 1)) := kp_cell hk6 y2; replace y3 : w6.cell? ⟨B2, 3, none⟩ = some (.int .i64 (dg V2 2)) := kp_cell hk6 y3; replace y4 : w6.cell? ⟨B2, 4, none⟩ = some (.int .i64 (dg V2 3)) := kp_cell hk6 y4; replace y5 : w6.cell? ⟨B2, 5, none⟩ = some (.int .i64 (dg V2 4)) := kp_cell hk6 y5; replace y6 : w6.cell? ⟨B2, 6, none⟩ = some (.int .i64 (dg V2 5)) := kp_cell hk6 y6; replace y7 : w6.cell? ⟨B2, 7, none⟩ = some (.int .i64 (dg V2 6)) := kp_cell hk6 y7; replace y8 : w6.cell? ⟨B2, 8, none⟩ = some (.int .i64 (dg V2 7)) := kp_cell hk6 y8; replace y9 : w6.cell? ⟨B2, 9, none⟩ = some (.int .i64 (dg V2 8)) := kp_cell hk6 y9; replace y10 : w6.cell? ⟨B2, 10, none⟩ = some (.int .i64 (dg V2 9)) := kp_cell hk6 y10; replace y11 : w6.cell? ⟨B2, 11, none⟩ = some (.int .i64 (dg V2 10)) := kp_cell hk6 y11; replace y12 : w6.cell? ⟨B2, 12, none⟩ = some (.int .i64 (dg V2 11)) := kp_cell hk6 y12; replace K : Kp w w6 := kp_trans (by first | exact K | exact kp_drew K) hk6; clear hk6)
      | (go_at_call 41; refine (Q4.out _).mono ?_; rintro e w6 ⟨rfl, hk6⟩; replace x0 : w6.cell? ⟨B1, 0, none⟩ = some (.bool s1) := kp_cell hk6 x0; replace x1 : w6.cell? ⟨B1, 1, none⟩ = some (.int .i64 (dg V1 0)) := kp_cell hk6 x1; replace x2 : w6.cell? ⟨B1, 2, none⟩ = some (.int .i64 (dg V1 1)) := kp_cell hk6 x2; replace x3 : w6.cell? ⟨B1, 3, none⟩ = some (.int .i64 (dg V1 2)) := kp_cell hk6 x3; replace x4 : w6.cell? ⟨B1, 4, none⟩ = some (.int .i64 (dg V1 3)) := kp_cell hk6 x4; replace x5 : w6.cell? ⟨B1, 5, none⟩ = some (.int .i64 (dg V1 4)) := kp_cell hk6 x5; replace x6 : w6.cell? ⟨B1, 6, none⟩ = some (.int .i64 (dg V1 5)) := kp_cell hk6 x6; replace x7 : w6.cell? ⟨B1, 7, none⟩ = some (.int .i64 (dg V1 6)) := kp_cell hk6 x7; replace x8 : w6.cell? ⟨B1, 8, none⟩ = some (.int .i64 (dg V1 7)) := kp_cell hk6 x8; replace x9 : w6.cell? ⟨B1, 9, none⟩ = some (.int .i64 (dg V1 8)) := kp_cell hk6 x9; replace x10 : w6.cell? ⟨B1, 10, none⟩ = some (.int .i64 (dg V1 9)) := kp_cell hk6 x10; replace x11 : w6.cell? ⟨B1, 11, none⟩ = some (.int .i64 (dg V1 10)) := kp_cell hk6 x11; replace x12 : w6.cell? ⟨B1, 12, none⟩ = some (.int .i64 (dg V1 11)) := kp_cell hk6 x12; replace y0 : w6.cell? ⟨B2, 0, none⟩ = some (.bool s2) := kp_cell hk6 y0; replace y1 : w6.cell? ⟨B2, 1, none⟩ = some (.int .i64 (dg V2 0)) := kp_cell hk6 y1; replace y2 : w6.cell? ⟨B2, 2, none⟩ = some (.int .i64 (dg V2 1)) := kp_cell hk6 y2; replace y3 : w6.cell? ⟨B2, 3, none⟩ = some (.int .i64 (dg V2 2)) := kp_cell hk6 y3; replace y4 : w6.cell? ⟨B2, 4, none⟩ = some (.int .i64 (dg V2 3)) := kp_cell hk6 y4; replace y5 : w6.cell? ⟨B2, 5, none⟩ = some (.int .i64 (dg V2 4)) := kp_cell hk6 y5; replace y6 : w6.cell? ⟨B2, 6, none⟩ = some (.int .i64 (dg V2 5)) := kp_cell hk6 y6; replace y7 : w6.cell? ⟨B2, 7, none⟩ = some (.int .i64 (dg V2 6)) := kp_cell hk6 y7; replace y8 : w6.cell? ⟨B2, 8, none⟩ = some (.int .i64 (dg V2 7)) := kp_cell hk6 y8; replace y9 : w6.cell? ⟨B2, 9, none⟩ = some (.int .i64 (dg V2 8)) := kp_cell hk6 y9; replace y10 : w6.cell? ⟨B2, 10, none⟩ = some (.int .i64 (dg V2 9)) := kp_cell hk6 y10; replace y11 : w6.cell? ⟨B2, 11, none⟩ = some (.int .i64 (dg V2 10)) := kp_cell hk6 y11; replace y12 : w6.cell? ⟨B2, 12, none⟩ = some (.int .i64 (dg V2 11)) := kp_cell hk6 y12; replace K : Kp w w6 := kp_trans (by first | exact K | exact kp_drew K) hk6; clear hk6)
      | (go_at_call 44; refine (Q3.out _).mono ?_; rintro e w6 ⟨rfl, hk6⟩; replace x0 : w6.cell? ⟨B1, 0, none⟩ = some (.bool s1) := kp_cell hk6 x0; replace x1 : w6.cell? ⟨B1, 1, none⟩ = some (.int .i64 (dg V1 0)) := kp_cell hk6 x1; replace x2 : w6.cell? ⟨B1, 2, none⟩ = some (.int .i64 (dg V1 1)) := kp_cell hk6 x2; replace x3 : w6.cell? ⟨B1, 3, none⟩ = some (.int .i64 (dg V1 2)) := kp_cell hk6 x3; replace x4 : w6.cell? ⟨B1, 4, none⟩ = some (.int .i64 (dg V1 3)) := kp_cell hk6 x4; replace x5 : w6.cell? ⟨B1, 5, none⟩ = some (.int .i64 (dg V1 4)) := kp_cell hk6 x5; replace x6 : w6.cell? ⟨B1, 6, none⟩ = some (.int .i64 (dg V1 5)) := kp_cell hk6 x6; replace x7 : w6.cell? ⟨B1, 7, none⟩ = some (.int .i64 (dg V1 6)) := kp_cell hk6 x7; replace x8 : w6.cell? ⟨B1, 8, none⟩ = some (.int .i64 (dg V1 7)) := kp_cell hk6 x8; replace x9 : w6.cell? ⟨B1, 9, none⟩ = some (.int .i64 (dg V1 8)) := kp_cell hk6 x9; replace x10 : w6.cell? ⟨B1, 10, none⟩ = some (.int .i64 (dg V1 9)) := kp_cell hk6 x10; replace x11 : w6.cell? ⟨B1, 11, none⟩ = some (.int .i64 (dg V1 10)) := kp_cell hk6 x11; replace x12 : w6.cell? ⟨B1, 12, none⟩ = some (.int .i64 (dg V1 11)) := kp_cell hk6 x12; replace y0 : w6.cell? ⟨B2, 0, none⟩ = some (.bool s2) := kp_cell hk6 y0; replace y1 : w6.cell? ⟨B2, 1, none⟩ = some (.int .i64 (dg V2 0)) := kp_cell hk6 y1; replace y2 : w6.cell? ⟨B2, 2, none⟩ = some (.int .i64 (dg V2 1)) := kp_cell hk6 y2; replace y3 : w6.cell? ⟨B2, 3, none⟩ = some (.int .i64 (dg V2 2)) := kp_cell hk6 y3; replace y4 : w6.cell? ⟨B2, 4, none⟩ = some (.int .i64 (dg V2 3)) := kp_cell hk6 y4; replace y5 : w6.cell? ⟨B2, 5, none⟩ = some (.int .i64 (dg V2 4)) := kp_cell hk6 y5; replace y6 : w6.cell? ⟨B2, 6, none⟩ = some (.int .i64 (dg V2 5)) := kp_cell hk6 y6; replace y7 : w6.cell? ⟨B2, 7, none⟩ = some (.int .i64 (dg V2 6)) := kp_cell hk6 y7; replace y8 : w6.cell? ⟨B2, 8, none⟩ = some (.int .i64 (dg V2 7)) := kp_cell hk6 y8; replace y9 : w6.cell? ⟨B2, 9, none⟩ = some (.int .i64 (dg V2 8)) := kp_cell hk6 y9; replace y10 : w6.cell? ⟨B2, 10, none⟩ = some (.int .i64 (dg V2 9)) := kp_cell hk6 y10; replace y11 : w6.cell? ⟨B2, 11, none⟩ = some (.int .i64 (dg V2 10)) := kp_cell hk6 y11; replace y12 : w6.cell? ⟨B2, 12, none⟩ = some (.int .i64 (dg V2 11)) := kp_cell hk6 y12; replace K : Kp w w6 := kp_trans (by first | exact K | exact kp_drew K) hk6; clear hk6)))
  go_wp2_with fail
  go_ret
  exact ⟨rfl, K⟩
theorem greater_any (z a n b m s : Int) (hz : I64 z) (ha : I64 a) (hn : I64 n) (hb : I64 b) (hm : I64 m) (hs : I64 s) (w : World) :
    Calls Try.prog 28 #[.int .i64 z, .int .i64 a, .int .i64 n, .int .i64 b, .int .i64 m, .int .i64 s] w fun e w' => e = .returned (.bool (decide (z * b - m * s < z * a - n * s))) ∧ Kp w w' := by
  have h := greater_core z a n b m s _ _ _ _ _ _ _ hz ha hn hb hm hs rfl rfl rfl rfl rfl rfl rfl w
  have e : decide (0 < (z * a + -(n * s) + -(z * b + -(m * s))).sign) = decide (z * b - m * s < z * a - n * s) := by
    rw [decide_eq_decide, Int.sign_pos_iff]
    omega
  rw [e] at h
  exact h
end Go.Proofs.Ytcmijedhjebpkaa
