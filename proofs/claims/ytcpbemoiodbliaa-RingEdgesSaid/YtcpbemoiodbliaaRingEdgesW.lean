/- The walk of RingEdges. -/
import Derived.Test.YtcpbemoiodbliaaRG16
import Derived.Test.YtcpbemoiodbliaaMP
import Derived.Test.YtcpbemoiodbliaaA
import Derived.Deep.RegionHeld3
import Derived.Deep.QuietTactic
import Derived.BigQuiet
namespace Go.Proofs.Ytcpbemoiodbliaa
open Go.RowKit Go.Proofs.Geo
set_option linter.unusedVariables false
theorem tmod_next {i n : Nat} (h : 0 < n) : ((i : Int) + 1).tmod (n : Int) = (((i + 1) % n : Nat) : Int) := by
  rw [Int.tmod_eq_emod_of_nonneg (by omega)]; simp
theorem run_eqPt (x y z u : Int) (w : World) : (Op.equalIn 10000 25 (.agg #[.int .i64 x, .int .i64 y]) (.agg #[.int .i64 z, .int .i64 u])).run Try.prog w = .ok (x == z && y == u) w := by
  simp [go_sem]
  by_cases h1 : x = z <;> by_cases h2 : y = u <;> simp [h1, h2]
set_option maxHeartbeats 8000000 in
set_option maxRecDepth 100000 in
theorem ringEdges_walk (w : World) (a0 : Option Addr) (len0 cap0 : Nat) (hA0 : ∃ l : List Pt, len0 = l.length ∧ RdC w (.slice a0 len0 cap0) l) : Calls Try.prog 4 #[.slice a0 len0 cap0] w fun e w' => e = .returned (.bool true) ∧ Kp w w' := by
  obtain ⟨l, e0, R0⟩ := hA0
  have K : Kp w w := kp_refl _
  by_cases b0 : 60 < len0
  · clear e0 R0
    go_enter Try.func4, Try.ntmps4
    go_wp2_with (go_at_call 14; refine (awake_any _).mono ?_; rintro e w1 ⟨rfl, hk⟩; replace K := kp_trans K hk; clear hk)
    go_ret
    exact ⟨rfl, K⟩
  have RL := Lib.hid R0
  have CK := Lib.hid (fun v w h => check_any v l w h (by omega))
  by_cases b1 : (chk l).1 = 0
  case neg =>
    generalize (chk l).1 = e at *
    generalize (chk l).2 = q at *
    have t1 : (e != 0) = true := by simpa using b1
    have hfl := fld_err e q
    clear e0 R0 b1
    go_enter Try.func4, Try.ntmps4
    go_wp2_with (first
      | (go_at_call 14; refine (awake_any _).mono ?_; rintro e w1 ⟨rfl, hk⟩; replace K := kp_trans K hk; clear hk)
      | (go_at_call 12; refine (CK.out _ _ (RL.out.kp K)).mono ?_; rintro e w1 ⟨rfl, hk⟩; replace K := kp_trans K hk; clear hk))
    go_ret
    exact ⟨rfl, K⟩
  have ok : okR l = true := decide_eq_true b1
  have n3 := (okR_iff.1 ok).1
  have HED := Lib.hid (fun (i k : Nat) (h1 : i < k) (h2 : k < l.length) => edges_ring ok h1 h2)
  obtain ⟨_, ⟨_, hn⟩ | ⟨b, off, cap, hv, hp⟩⟩ := R0.rd (by rintro rfl; simp at n3)
  · rw [hn] at n3; simp at n3
  injection hv with q1 q2 q3
  subst q1 q3
  clear q2
  have HP := Lib.hid hp
  have HL := Lib.hid e0
  rw [b1] at CK
  generalize (chk l).2 = q at *
  have hfl := fld_err 0 q
  have h3 : 3 ≤ len0 := by omega
  have h60 : len0 ≤ 60 := by omega
  clear e0 R0 b1 ok n3 hp
  go_enter Try.func4, Try.ntmps4
  go_wp2_with (first
    | (go_at_call 14; refine (awake_any _).mono ?_; rintro e w1 ⟨rfl, hk⟩; replace K := kp_trans K hk; clear hk)
    | (go_at_call 12; refine (CK.out _ _ (RL.out.kp K)).mono ?_; rintro e w1 ⟨rfl, hk⟩; replace K := kp_trans K hk; clear hk))
  have HK0 := Lib.hid K
  clear K RL CK hfl
  have he := run_eqPt
  go_loopw [5] (fun s wr => ∃ i : Nat, i ≤ len0 ∧ s = .int .i64 i ∧ Kp w wr) (fun s _ => len0 - (intOf s).toNat)
  case atStart => exact ⟨0, by omega, rfl, HK0.out⟩
  case round =>
    obtain ⟨i, hi, rfl, hkp⟩ := hrel
    have HK := Lib.hid hkp
    clear hkp
    by_cases hlt : i < len0
    · have wk1 : IntKind.i64.wrap ((i : Int) + 1) = (i : Int) + 1 := IntWalk.i64_in _ (by omega)
      have tli : decide ((i : Int) < (len0 : Int)) = true := decide_eq_true (by omega)
      have tli' : decide (i < len0) = true := decide_eq_true hlt
      go_wp2_with fail
      (try simp only [tli, tli'])
      go_loopw [6] (fun s wr => ∃ k : Nat, i + 1 ≤ k ∧ k ≤ len0 ∧ s = .int .i64 k ∧ Kp w wr) (fun s _ => len0 - (intOf s).toNat)
      case atStart => exact ⟨i + 1, by omega, by omega, by go_num, HK.out⟩
      case round =>
        obtain ⟨k, hk1, hk2, rfl, hkp⟩ := hrel
        by_cases hkt : k < len0
        · obtain ⟨i1, hi1⟩ : ∃ j, (i + 1) % len0 = j := ⟨_, rfl⟩
          obtain ⟨k1, hk1'⟩ : ∃ j, (k + 1) % len0 = j := ⟨_, rfl⟩
          have wt1 : ((i : Int) + 1).tmod (len0 : Int) = (i1 : Int) := by rw [tmod_next (by omega), hi1]
          have wt2 : ((k : Int) + 1).tmod (len0 : Int) = (k1 : Int) := by rw [tmod_next (by omega), hk1']
          have i1lt : i1 < len0 := by rw [← hi1]; exact Nat.mod_lt _ (by omega)
          have k1lt : k1 < len0 := by rw [← hk1']; exact Nat.mod_lt _ (by omega)
          obtain ⟨y0, y1⟩ := pt_lt (HP.out.kp hkp) (show i < l.length by rw [← HL.out]; omega)
          obtain ⟨n0, n1⟩ := pt_lt (HP.out.kp hkp) (show i1 < l.length by rw [← HL.out]; omega)
          obtain ⟨v0, v1⟩ := pt_lt (HP.out.kp hkp) (show k < l.length by rw [← HL.out]; omega)
          obtain ⟨m0, m1⟩ := pt_lt (HP.out.kp hkp) (show k1 < l.length by rw [← HL.out]; omega)
          obtain ⟨hne, hme⟩ := HED.out i k (by omega) (by rw [← HL.out]; omega)
          rw [← HL.out, hi1, hk1'] at hme
          obtain ⟨x, hx⟩ : ∃ x, (pt l i).1 = x := ⟨_, rfl⟩
          obtain ⟨y, hy⟩ : ∃ x, (pt l i).2 = x := ⟨_, rfl⟩
          obtain ⟨ax, hax⟩ : ∃ x, (pt l i1).1 = x := ⟨_, rfl⟩
          obtain ⟨ay, hay⟩ : ∃ x, (pt l i1).2 = x := ⟨_, rfl⟩
          obtain ⟨z, hz⟩ : ∃ x, (pt l k).1 = x := ⟨_, rfl⟩
          obtain ⟨u, hu⟩ : ∃ x, (pt l k).2 = x := ⟨_, rfl⟩
          obtain ⟨bx, hbx⟩ : ∃ x, (pt l k1).1 = x := ⟨_, rfl⟩
          obtain ⟨bY, hby⟩ : ∃ x, (pt l k1).2 = x := ⟨_, rfl⟩
          have p1 : pt l i = (x, y) := by rw [← hx, ← hy]
          have p2 : pt l i1 = (ax, ay) := by rw [← hax, ← hay]
          have p3 : pt l k = (z, u) := by rw [← hz, ← hu]
          have p4 : pt l k1 = (bx, bY) := by rw [← hbx, ← hby]
          rw [hx] at y0; rw [hy] at y1; rw [hax] at n0; rw [hay] at n1; rw [hz] at v0; rw [hu] at v1; rw [hbx] at m0; rw [hby] at m1
          rw [p1, p3] at hne
          rw [p1, p2, p3, p4] at hme
          have teq : (x == z && y == u) = false := by
            rw [Bool.and_eq_false_iff]
            by_cases e : x = z
            · right; simp only [beq_eq_false_iff_ne, ne_eq]; intro e'; exact hne (by rw [e, e'])
            · left; simp only [beq_eq_false_iff_ne, ne_eq]; exact e
          have cm := fun w => meets_any x y ax ay z u bx bY w
          rw [hme] at cm
          have lb : b < wr.heap.size := cell_lt y0
          have wk : IntKind.i64.wrap ((len0 : Int) - 1) = (len0 : Int) - 1 := IntWalk.i64_in _ (by omega)
          have wk2 : IntKind.i64.wrap ((k : Int) + 1) = (k : Int) + 1 := IntWalk.i64_in _ (by omega)
          have d1 : (0 : Int) ≤ (i : Int) := by omega
          have d2 : (i : Int) < (len0 : Int) := by omega
          have d3 : (0 : Int) ≤ (k : Int) := by omega
          have d4 : (k : Int) < (len0 : Int) := by omega
          have d5 : (0 : Int) ≤ (i1 : Int) := by omega
          have d6 : (i1 : Int) < (len0 : Int) := by omega
          have d7 : (0 : Int) ≤ (k1 : Int) := by omega
          have d8 : (k1 : Int) < (len0 : Int) := by omega
          have d9 : ¬ ((len0 : Int) = 0) := by omega
          have d10 : ¬ (len0 = 0) := by omega
          have HKP := Lib.hid hkp
          have K : Kp wr wr := kp_refl _
          have hcase : (∃ M : Int, (M = 1 ∧ (((k : Int) == (i : Int) + 1) = true ∨ (((k : Int) == (i : Int) + 1) = false ∧ ((i : Int) == 0) = true ∧ ((k : Int) == (len0 : Int) - 1) = true)) ∨
              M = 0 ∧ ((((k : Int) == (i : Int) + 1) = false ∧ ((i : Int) == 0) = false) ∨ (((k : Int) == (i : Int) + 1) = false ∧ ((i : Int) == 0) = true ∧ ((k : Int) == (len0 : Int) - 1) = false))) ∧
              ∀ w, Calls Try.prog 15 #[pv x y, pv ax ay, pv z u, pv bx bY] w fun e w' => e = .returned (.int .i64 M) ∧ Kp w w') := by
            by_cases h1 : k = i + 1
            · rw [if_pos (.inl h1)] at cm
              exact ⟨1, .inl ⟨rfl, .inl (by simp; omega)⟩, cm⟩
            · by_cases h0 : i = 0
              · by_cases h2 : k + 1 = len0
                · rw [if_pos (.inr ⟨h0, h2⟩)] at cm
                  exact ⟨1, .inl ⟨rfl, .inr ⟨by simp; omega, by simp [h0], by simp; omega⟩⟩, cm⟩
                · rw [if_neg (by omega)] at cm
                  exact ⟨0, .inr ⟨rfl, .inr ⟨by simp; omega, by simp [h0], by simp; omega⟩⟩, cm⟩
              · rw [if_neg (by omega)] at cm
                exact ⟨0, .inr ⟨rfl, .inl ⟨by simp; omega, by simp; omega⟩⟩, cm⟩
          clear cm hme hne hx hy hax hay hz hu hbx hby p1 p2 p3 p4 hi1 hk1' hkp
          obtain ⟨M, hM, cm⟩ := hcase
          have CM := Lib.hid cm
          clear cm
          go_upto_region 11 with fail
          go_region_held3 (fun w' => Kp wr w' ∧ w'.cell? ⟨b, off + i * 2, none⟩ = some (.int .i64 x) ∧ w'.cell? ⟨b, off + i * 2 + 1, none⟩ = some (.int .i64 y) ∧ w'.cell? ⟨b, off + i1 * 2, none⟩ = some (.int .i64 ax) ∧ w'.cell? ⟨b, off + i1 * 2 + 1, none⟩ = some (.int .i64 ay) ∧ w'.cell? ⟨b, off + k * 2, none⟩ = some (.int .i64 z) ∧ w'.cell? ⟨b, off + k * 2 + 1, none⟩ = some (.int .i64 u) ∧ w'.cell? ⟨b, off + k1 * 2, none⟩ = some (.int .i64 bx) ∧ w'.cell? ⟨b, off + k1 * 2 + 1, none⟩ = some (.int .i64 bY)) ((first | exact ⟨K, y0, y1, n0, n1, v0, v1, m0, m1⟩ | exact ⟨kp_drew K, cell_d y0, cell_d y1, cell_d n0, cell_d n1, cell_d v0, cell_d v1, cell_d m0, cell_d m1⟩))
            ((go_at_call 15; refine (CM.out _).mono ?_; rintro e w4 ⟨rfl, hk⟩; replace y0 : w4.cell? ⟨b, off + i * 2, none⟩ = some (.int .i64 x) := kp_cell hk (by first | exact y0 | exact cell_d y0); replace y1 : w4.cell? ⟨b, off + i * 2 + 1, none⟩ = some (.int .i64 y) := kp_cell hk (by first | exact y1 | exact cell_d y1); replace n0 : w4.cell? ⟨b, off + i1 * 2, none⟩ = some (.int .i64 ax) := kp_cell hk (by first | exact n0 | exact cell_d n0); replace n1 : w4.cell? ⟨b, off + i1 * 2 + 1, none⟩ = some (.int .i64 ay) := kp_cell hk (by first | exact n1 | exact cell_d n1); replace v0 : w4.cell? ⟨b, off + k * 2, none⟩ = some (.int .i64 z) := kp_cell hk (by first | exact v0 | exact cell_d v0); replace v1 : w4.cell? ⟨b, off + k * 2 + 1, none⟩ = some (.int .i64 u) := kp_cell hk (by first | exact v1 | exact cell_d v1); replace m0 : w4.cell? ⟨b, off + k1 * 2, none⟩ = some (.int .i64 bx) := kp_cell hk (by first | exact m0 | exact cell_d m0); replace m1 : w4.cell? ⟨b, off + k1 * 2 + 1, none⟩ = some (.int .i64 bY) := kp_cell hk (by first | exact m1 | exact cell_d m1); replace K : Kp wr w4 := kp_trans (by first | exact K | exact kp_drew K) hk; replace lb : b < w4.heap.size := cell_lt y0; clear hk))
          have HKK := Lib.hid (kp_trans HKP.out K)
          clear K CM
          rcases hM with ⟨rfl, t1 | ⟨t1, t2, t3⟩⟩ | ⟨rfl, ⟨t1, t2⟩ | ⟨t1, t2, t3⟩⟩
          all_goals
            go_upto_region 13 with fail
            go_quiet (fail)
            go_wp2_with fail
            exact ⟨⟨k + 1, by omega, by omega, by go_num, kp_trans HKK.out (by first | exact kp_refl _ | exact kp_drewN (kp_refl _) _)⟩, by simp [intOf]; omega⟩
        · have hfin := Lib.hid hkp
          have tlt : decide ((k : Int) < (len0 : Int)) = false := decide_eq_false (by omega)
          clear hkp
          go_wp2_with fail
          exact ⟨⟨i + 1, by omega, by go_num, hfin.out⟩, by simp [intOf]; omega⟩
    · have tli : decide ((i : Int) < (len0 : Int)) = false := decide_eq_false (by omega)
      go_wp2_with fail
      go_ret
      exact ⟨by simp [show (3 : Int) ≤ (len0 : Int) by omega], HK.out⟩
end Go.Proofs.Ytcpbemoiodbliaa
