/- The walk of RingChecks. -/
import Derived.Test.YtcpbemoiodbliaaRG16
import Derived.Test.YtcpbemoiodbliaaMP
import Derived.Test.YtcpbemoiodbliaaA
import Derived.Deep.RegionHeld3
namespace Go.Proofs.Ytcpbemoiodbliaa
open Go.RowKit Go.Proofs.Geo
set_option linter.unusedVariables false
set_option maxHeartbeats 8000000 in
set_option maxRecDepth 100000 in
theorem ringChecks_walk (w : World) (a0 : Option Addr) (len0 cap0 : Nat) (hA0 : ∃ l : List Pt, len0 = l.length ∧ RdC w (.slice a0 len0 cap0) l) (ix : Int) : Calls Try.prog 6 #[.slice a0 len0 cap0, .int .i64 ix] w fun e w' => e = .returned (.bool true) ∧ Kp w w' := by
  obtain ⟨l, e0, R0⟩ := hA0
  have RL := Lib.hid R0
  have HE0 := Lib.hid e0
  have K : Kp w w := kp_refl _
  clear R0
  by_cases b0 : 210 < len0
  · have t0 : decide (210 < len0) = true := decide_eq_true b0
    clear e0
    go_enter Try.func6, Try.ntmps6
    go_wp2_with (go_at_call 19; refine (big_any _ _ _ _).mono ?_; rintro e w1 ⟨rfl, hk⟩; rw [t0]; replace K := kp_trans K hk; clear hk)
    go_ret
    exact ⟨rfl, K⟩
  have t0 : decide (210 < len0) = false := decide_eq_false b0
  have g0 : l.length ≤ 10000 := by omega
  have HG0 := Lib.hid (show l.length ≤ 210 by omega)
  have TU := Lib.hid (fun v w (h : RdL w v l) => turned_any v l w h.c g0)
  have FR := Lib.hid (fun v w (h : RdL w v l) => from_rd v l ix w h g0)
  have CK := Lib.hid (fun v w (h : RdL w v l) => check_any v l w h.c (by omega))
  have SG := Lib.hid (fun v w (h : RdL w v l) => ringSign_of check_any v l w h.c (by omega))
  have TU9 := Lib.hid (fun v w (h : RdC w v l) => turned9_any v l w h g0)
  have FR9 := Lib.hid (fun v w (h : RdC w v l) => from9_any v l ix w h g0)
  have CK9 := Lib.hid (fun v w (h : RdC w v l) => check9_any v l w h (by omega))
  have SG9 := Lib.hid (fun v w (h : RdC w v l) => ringSign9_any v l w h (by omega))
  have nm := fun v w (h : RdL w v l) => normal_any v l w h g0
  have nm9 := fun v w (h : RdC w v l) => normal9_any v l w h g0
  unfold NormEnd at nm nm9
  generalize decide (signR l ≠ 0) = d at *
  have NM := Lib.hid nm; have NM9 := Lib.hid nm9
  have G1 : Hid (l.reverse.length ≤ 10000 ∧ (frm l ix).length ≤ 10000 ∧ (normR l).length ≤ 10000 ∧ l.length ≤ 10000) := Lib.hid ⟨by simp; omega, by rw [frm_len]; omega, Nat.le_trans (norm_le l) g0, g0⟩
  clear nm nm9 g0 e0
  go_enter Try.func6, Try.ntmps6
  go_upto_region 4 with (first
    | (go_at_call 19; refine (big_any _ _ _ _).mono ?_; rintro e w1 ⟨rfl, hk⟩; rw [t0]; replace K := kp_trans K hk; clear hk)
    | (at_builtin; refine wpList_append_pts rfl (.tmp 16) (.tmp 17) rfl _ _ _ [] l rfl rfl (OwnP.none_lit _) (RL.out.kp (kp_alloc K _)) (by have := HG0.out; simp; omega) (by simp) ?_; intro v0 w0 ho hg; have HX0 := Lib.hid (show OwnP w0 _ v0 l from ho); have hk := kp_of_grown (kp_alloc (kp_refl _) _) hg (OwnP.none_lit _); clear ho hg; replace K := kp_trans K hk; clear hk))
  have RI := Lib.hid (HX0.out.rdl (by have := HG0.out; omega))
  replace RL := Lib.hid (RL.out.kp K)
  obtain ⟨Wi, hWi⟩ : ∃ W, w0 = W := ⟨_, rfl⟩
  rw [hWi] at HX0 RI RL K ⊢
  clear hWi HX0
  have KW := Lib.hid K
  clear K
  have K : Kp Wi Wi := kp_refl _
  have RI0 := RI
  have RL0 := RL
  go_upto_region 5 with (first
    | (go_at_call 20; (with_reducible refine (TU.out _ _ RI.out).mono ?_); rintro e wn ⟨vVA, rfl, ho, hk⟩; (try replace RL := Lib.hid (RL.out.kp hk)); (try replace RI := Lib.hid (RI.out.kp hk)); (try replace VA := Lib.hid (VA.out.kp hk)); (try replace VB := Lib.hid (VB.out.kp hk)); (try replace VN := Lib.hid (VN.out.kp hk)); (try replace RM := Lib.hid (RM.out.kp hk)); (try replace z0 := kp_cell hk z0); (try replace z1 := kp_cell hk z1); replace K := kp_trans K hk; have VA := Lib.hid ho; clear ho hk)
    | (go_at_call 21; (with_reducible refine (FR.out _ _ RI.out).mono ?_); rintro e wn ⟨vVB, rfl, ho, hk⟩; have NE1 := Lib.hid (own_ne VA.out ho); replace ho := OwnP.mono ho (Below.size K); (try replace RL := Lib.hid (RL.out.kp hk)); (try replace RI := Lib.hid (RI.out.kp hk)); (try replace VA := Lib.hid (VA.out.kp hk)); (try replace VB := Lib.hid (VB.out.kp hk)); (try replace VN := Lib.hid (VN.out.kp hk)); (try replace RM := Lib.hid (RM.out.kp hk)); (try replace z0 := kp_cell hk z0); (try replace z1 := kp_cell hk z1); replace K := kp_trans K hk; have VB := Lib.hid ho; clear ho hk)
    | (go_at_call 12; (with_reducible refine (CK.out _ _ RI.out).mono ?_); rintro e wn ⟨rfl, hk⟩; (try replace RL := Lib.hid (RL.out.kp hk)); (try replace RI := Lib.hid (RI.out.kp hk)); (try replace VA := Lib.hid (VA.out.kp hk)); (try replace VB := Lib.hid (VB.out.kp hk)); (try replace VN := Lib.hid (VN.out.kp hk)); (try replace RM := Lib.hid (RM.out.kp hk)); (try replace z0 := kp_cell hk z0); (try replace z1 := kp_cell hk z1); replace K := kp_trans K hk; clear hk))
  obtain ⟨W5, hW5⟩ : ∃ W, wn.alloc (.cells #[.int .i64 (chk l).1, .int .i64 (chk l).2] 28) = W := ⟨_, rfl⟩
  have z0 : W5.cell? ⟨wn.heap.size, 0, none⟩ = some (.int .i64 (chk l).1) := by rw [← hW5]; simp [go_sem]
  have z1 : W5.cell? ⟨wn.heap.size, 1, none⟩ = some (.int .i64 (chk l).2) := by rw [← hW5]; simp [go_sem]
  have hk : Kp wn W5 := by rw [← hW5]; exact kp_alloc (kp_refl _) _
  rw [hW5]
  clear hW5
  replace RL := Lib.hid (RL.out.kp hk); replace RI := Lib.hid (RI.out.kp hk); replace VA := Lib.hid (VA.out.kp hk); replace VB := Lib.hid (VB.out.kp hk)
  replace K := kp_trans K hk
  clear hk
  generalize wn.heap.size = B at *
  generalize (chk l).1 = e at *
  generalize (chk l).2 = q at *
  generalize signR l = s at *
  have te : (e == e) = true := by simp
  have tq : (q == q) = true := by simp
  have ts : (s == s) = true := by simp
  have td : (d == d) = true := by simp
  go_upto_region 7 with (first
    | (go_at_call 22; (with_reducible refine (NM.out _ _ RI.out).mono ?_); rintro e wn ⟨vVN, rfl, ho, hk⟩; have NE2 := Lib.hid (own_ne VA.out ho); have NE3 := Lib.hid (own_ne VB.out ho); replace ho := OwnP.mono ho (Below.size K); (try replace RL := Lib.hid (RL.out.kp hk)); (try replace RI := Lib.hid (RI.out.kp hk)); (try replace VA := Lib.hid (VA.out.kp hk)); (try replace VB := Lib.hid (VB.out.kp hk)); (try replace VN := Lib.hid (VN.out.kp hk)); (try replace RM := Lib.hid (RM.out.kp hk)); (try replace z0 := kp_cell hk z0); (try replace z1 := kp_cell hk z1); replace K := kp_trans K hk; have VN := Lib.hid ho; clear ho hk)
    | (go_at_call 23; (with_reducible refine (NM9.out _ _ RL.out).mono ?_); rintro e wn ⟨vM, rfl, ho, hk⟩; (try replace RL := Lib.hid (RL.out.kp hk)); (try replace RI := Lib.hid (RI.out.kp hk)); (try replace VA := Lib.hid (VA.out.kp hk)); (try replace VB := Lib.hid (VB.out.kp hk)); (try replace VN := Lib.hid (VN.out.kp hk)); (try replace RM := Lib.hid (RM.out.kp hk)); (try replace z0 := kp_cell hk z0); (try replace z1 := kp_cell hk z1); replace K := kp_trans K hk; have RM := Lib.hid (ho.rdc (Nat.le_trans G1.out.2.2.1 (by decide))); clear ho hk))
  obtain ⟨W7, hW7⟩ : ∃ W, wn = W := ⟨_, rfl⟩
  have K7 := Lib.hid (show Kp Wi W7 by rw [← hW7]; exact K)
  rw [hW7] at RL RI VA VB VN RM z0 z1 ⊢
  clear hW7 K
  have K : Kp W7 W7 := kp_refl _
  have lb : B < W7.heap.size := cell_lt z0
  go_region_held3 (fun w' => Kp W7 w' ∧ w'.cell? ⟨B, 0, none⟩ = some (.int .i64 e) ∧ w'.cell? ⟨B, 1, none⟩ = some (.int .i64 q)) ((first | (with_reducible exact ⟨K, z0, z1⟩) | (with_reducible exact ⟨kp_drew K, cell_d z0, cell_d z1⟩)))
    (first
      | (go_at_call 13; refine (CK9.out _ _ (RL.out.kp (by first | exact K | exact kp_drew K))).mono ?_; rintro e wz ⟨rfl, hk⟩; replace z0 := kp_cell hk (by first | exact z0 | exact cell_d z0); replace z1 := kp_cell hk (by first | exact z1 | exact cell_d z1); (try replace RT := Lib.hid (RT.out.kp (kp_trans (by first | exact kp_refl _ | exact kp_drew (kp_refl _)) hk))); (try replace RG := Lib.hid (RG.out.kp (kp_trans (by first | exact kp_refl _ | exact kp_drew (kp_refl _)) hk))); replace K := kp_trans (by first | exact K | exact kp_drew K) hk; replace lb := Nat.lt_of_lt_of_le lb (Below.size (kp_trans (by first | exact kp_refl _ | exact kp_drew (kp_refl _)) hk)); clear hk)
      | (go_at_call 18; refine (SG.out _ _ (RI.out.kp (by first | exact K | exact kp_drew K))).mono ?_; rintro e wz ⟨rfl, hk⟩; replace z0 := kp_cell hk (by first | exact z0 | exact cell_d z0); replace z1 := kp_cell hk (by first | exact z1 | exact cell_d z1); (try replace RT := Lib.hid (RT.out.kp (kp_trans (by first | exact kp_refl _ | exact kp_drew (kp_refl _)) hk))); (try replace RG := Lib.hid (RG.out.kp (kp_trans (by first | exact kp_refl _ | exact kp_drew (kp_refl _)) hk))); replace K := kp_trans (by first | exact K | exact kp_drew K) hk; replace lb := Nat.lt_of_lt_of_le lb (Below.size (kp_trans (by first | exact kp_refl _ | exact kp_drew (kp_refl _)) hk)); clear hk)
      | (go_at_call 24; refine (SG9.out _ _ (RL.out.kp (by first | exact K | exact kp_drew K))).mono ?_; rintro e wz ⟨rfl, hk⟩; replace z0 := kp_cell hk (by first | exact z0 | exact cell_d z0); replace z1 := kp_cell hk (by first | exact z1 | exact cell_d z1); (try replace RT := Lib.hid (RT.out.kp (kp_trans (by first | exact kp_refl _ | exact kp_drew (kp_refl _)) hk))); (try replace RG := Lib.hid (RG.out.kp (kp_trans (by first | exact kp_refl _ | exact kp_drew (kp_refl _)) hk))); replace K := kp_trans (by first | exact K | exact kp_drew K) hk; replace lb := Nat.lt_of_lt_of_le lb (Below.size (kp_trans (by first | exact kp_refl _ | exact kp_drew (kp_refl _)) hk)); clear hk)
      | (go_at_call 26; refine (TU9.out _ _ (RL.out.kp (by first | exact K | exact kp_drew K))).mono ?_; rintro e wz ⟨vt, rfl, ho, hk⟩; replace z0 := kp_cell hk (by first | exact z0 | exact cell_d z0); replace z1 := kp_cell hk (by first | exact z1 | exact cell_d z1); (try replace RT := Lib.hid (RT.out.kp (kp_trans (by first | exact kp_refl _ | exact kp_drew (kp_refl _)) hk))); (try replace RG := Lib.hid (RG.out.kp (kp_trans (by first | exact kp_refl _ | exact kp_drew (kp_refl _)) hk))); replace K := kp_trans (by first | exact K | exact kp_drew K) hk; replace lb := Nat.lt_of_lt_of_le lb (Below.size (kp_trans (by first | exact kp_refl _ | exact kp_drew (kp_refl _)) hk)); have RT := Lib.hid (ho.rdc (by have := G1.out; omega)); clear ho; clear hk)
      | (go_at_call 27; refine (FR9.out _ _ (RL.out.kp (by first | exact K | exact kp_drew K))).mono ?_; rintro e wz ⟨vg, rfl, ho, hk⟩; replace z0 := kp_cell hk (by first | exact z0 | exact cell_d z0); replace z1 := kp_cell hk (by first | exact z1 | exact cell_d z1); (try replace RT := Lib.hid (RT.out.kp (kp_trans (by first | exact kp_refl _ | exact kp_drew (kp_refl _)) hk))); (try replace RG := Lib.hid (RG.out.kp (kp_trans (by first | exact kp_refl _ | exact kp_drew (kp_refl _)) hk))); replace K := kp_trans (by first | exact K | exact kp_drew K) hk; replace lb := Nat.lt_of_lt_of_le lb (Below.size (kp_trans (by first | exact kp_refl _ | exact kp_drew (kp_refl _)) hk)); have RG := Lib.hid (ho.rdc (by have := G1.out; omega)); clear ho; clear hk)
      | (go_at_call 25; have M3 := M2; refine (same2_self _ _ (normR l) _ ((VN.out.kp (by first | exact K | exact kp_drew K)).rdc (by have := G1.out; omega)) (RM.out.kp (by first | exact K | exact kp_drew K)) (by have := G1.out; omega)).mono ?_; rintro e wz ⟨rfl, hk⟩; replace z0 := kp_cell hk (by first | exact z0 | exact cell_d z0); replace z1 := kp_cell hk (by first | exact z1 | exact cell_d z1); (try replace RT := Lib.hid (RT.out.kp (kp_trans (by first | exact kp_refl _ | exact kp_drew (kp_refl _)) hk))); (try replace RG := Lib.hid (RG.out.kp (kp_trans (by first | exact kp_refl _ | exact kp_drew (kp_refl _)) hk))); replace K := kp_trans (by first | exact K | exact kp_drew K) hk; replace lb := Nat.lt_of_lt_of_le lb (Below.size (kp_trans (by first | exact kp_refl _ | exact kp_drew (kp_refl _)) hk)); clear hk)
      | (go_at_call 25; have RG2 := RG; refine (same2_self _ _ (frm l ix) _ ((VB.out.kp (by first | exact K | exact kp_drew K)).rdc (by have := G1.out; omega)) (RG.out.kp (by first | exact kp_refl _ | exact kp_drew (kp_refl _))) (by have := G1.out; omega)).mono ?_; rintro e wz ⟨rfl, hk⟩; replace z0 := kp_cell hk (by first | exact z0 | exact cell_d z0); replace z1 := kp_cell hk (by first | exact z1 | exact cell_d z1); (try replace RT := Lib.hid (RT.out.kp (kp_trans (by first | exact kp_refl _ | exact kp_drew (kp_refl _)) hk))); (try replace RG := Lib.hid (RG.out.kp (kp_trans (by first | exact kp_refl _ | exact kp_drew (kp_refl _)) hk))); replace K := kp_trans (by first | exact K | exact kp_drew K) hk; replace lb := Nat.lt_of_lt_of_le lb (Below.size (kp_trans (by first | exact kp_refl _ | exact kp_drew (kp_refl _)) hk)); have M2 := trivial; clear hk)
      | (go_at_call 25; refine (same2_self _ _ l.reverse _ ((VA.out.kp (by first | exact K | exact kp_drew K)).rdc (by have := G1.out; omega)) (RT.out.kp (by first | exact kp_refl _ | exact kp_drew (kp_refl _))) (by have := G1.out; omega)).mono ?_; rintro e wz ⟨rfl, hk⟩; replace z0 := kp_cell hk (by first | exact z0 | exact cell_d z0); replace z1 := kp_cell hk (by first | exact z1 | exact cell_d z1); (try replace RT := Lib.hid (RT.out.kp (kp_trans (by first | exact kp_refl _ | exact kp_drew (kp_refl _)) hk))); (try replace RG := Lib.hid (RG.out.kp (kp_trans (by first | exact kp_refl _ | exact kp_drew (kp_refl _)) hk))); replace K := kp_trans (by first | exact K | exact kp_drew K) hk; replace lb := Nat.lt_of_lt_of_le lb (Below.size (kp_trans (by first | exact kp_refl _ | exact kp_drew (kp_refl _)) hk)); clear hk))
  have KI := kp_trans K7.out K
  replace VA := Lib.hid (VA.out.kp K)
  replace VB := Lib.hid (VB.out.kp K)
  replace VN := Lib.hid (VN.out.kp K)
  clear z0 z1 K lb
  go_wp2_with (first
    | (go_at_call 28; have O3 := O2; refine (over_own _ _ (normR l) _ VN.out (by have := G1.out; omega)).mono ?_; rintro e wo ⟨⟨r, rfl⟩, hg⟩; replace KI := kp_of_grown KI hg VN.out; clear hg)
    | (go_at_call 28; have O2 := O1; refine (over_own _ _ (frm l ix) _ VB.out (by have := G1.out; omega)).mono ?_; rintro e wo ⟨⟨r, rfl⟩, hg⟩; replace KI := kp_of_grown KI hg VB.out; replace VN := Lib.hid (VN.out.grown hg NE3.out); clear hg)
    | (go_at_call 28; refine (over_own _ _ l.reverse _ VA.out (by have := G1.out; omega)).mono ?_; rintro e wo ⟨⟨r, rfl⟩, hg⟩; replace KI := kp_of_grown KI hg VA.out; replace VB := Lib.hid (VB.out.grown hg NE1.out); replace VN := Lib.hid (VN.out.grown hg NE2.out); have O1 := trivial; clear hg)
    | (go_at_call 25; refine (same2_self _ _ l _ (RI0.out.c.kp KI) (RL0.out.kp KI) (by have := G1.out; omega)).mono ?_; rintro e wo ⟨rfl, hk⟩; replace KI := kp_trans KI hk; clear hk)
    | (go_at_call 14; refine (awake_any _).mono ?_; rintro e wo ⟨rfl, hk⟩; replace KI := kp_trans KI hk; clear hk))
  go_ret
  exact ⟨rfl, kp_trans KW.out KI⟩
end Go.Proofs.Ytcpbemoiodbliaa
