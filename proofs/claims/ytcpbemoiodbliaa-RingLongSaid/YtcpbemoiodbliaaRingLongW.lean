/- The walk of RingLong. -/
import Derived.Test.YtcpbemoiodbliaaRG16
namespace Go.Proofs.Ytcpbemoiodbliaa
open Go.RowKit Go.Proofs.Geo
set_option maxHeartbeats 4000000 in
theorem pick_any (i : Int) (n : Nat) (h1 : 1 ≤ n) (h2 : n ≤ 10000000) (w : World) : Calls Try.prog 11 #[.int .i64 i, .int .i64 (n : Int)] w fun e w' => (∃ k : Nat, k < n ∧ e = .returned (.int .i64 (k : Int))) ∧ Kp w w' := by
  obtain ⟨r, hr⟩ : ∃ r, i.tmod (n : Int) = r := ⟨_, rfl⟩
  have a1 : -(n : Int) < r := by rw [← hr]; exact Int.lt_tmod_of_pos i (by omega)
  have a2 : r < (n : Int) := by rw [← hr]; exact Int.tmod_lt_of_pos i (by omega)
  have b1 : (1 : Int) ≤ (n : Int) := by omega
  have c7 : ¬ ((n : Int) = 0) := by omega
  have c8 : ¬ (n = 0) := by omega
  have wk1 : IntKind.i64.wrap r = r := IntWalk.i64_in _ (by omega)
  have wk2 : IntKind.i64.wrap (r + (n : Int)) = r + (n : Int) := IntWalk.i64_in _ (by omega)
  by_cases hneg : r < 0
  · obtain ⟨k, hk⟩ : ∃ k : Nat, r + (n : Int) = (k : Int) := ⟨(r + (n : Int)).toNat, by omega⟩
    have HK := Lib.hid (show k < n by omega)
    rw [hk] at wk2
    have HE := Lib.hid hk
    go_enter Try.func11, Try.ntmps11
    go_wp2
    go_ret
    exact ⟨⟨k, HK.out, by first | rfl | (congr 2; exact HE.out) | (rw [HE.out])⟩, kp_refl _⟩
  · obtain ⟨k, hk⟩ : ∃ k : Nat, r = (k : Int) := ⟨r.toNat, by omega⟩
    subst hk
    have HK := Lib.hid (show k < n by omega)
    go_enter Try.func11, Try.ntmps11
    go_wp2
    go_ret
    exact ⟨⟨k, HK.out, rfl⟩, kp_refl _⟩
/-- The stair's first k points. -/
def stair (k : Nat) : List Pt := (List.range k).map fun i : Nat => (((i : Int) + 1).tdiv 2, (i : Int).tdiv 2)
theorem stair_succ (k : Nat) : stair (k + 1) = stair k ++ [(((k : Int) + 1).tdiv 2, (k : Int).tdiv 2)] := by unfold stair; rw [List.range_succ, List.map_append]; rfl
theorem stair_len (k : Nat) : (stair k).length = k := by simp [stair]
set_option linter.unusedVariables false
set_option maxHeartbeats 8000000 in
set_option maxRecDepth 100000 in
theorem ringLong_walk (w : World) (ix : Int) : Calls Try.prog 3 #[.int .i64 ix] w fun e w' => e = .returned (.bool true) ∧ Kp w w' := by
  obtain ⟨i0, hi, hz0, hz1, hz2⟩ := info_parts infoPt
  have HI := Lib.hid hi; have HZ0 := Lib.hid hz0; have HZ1 := Lib.hid hz1; have HZ2 := Lib.hid hz2
  clear hi hz0 hz1 hz2
  have PK := Lib.hid (fun w => pick_any ix 11 (by decide) (by decide) w)
  go_enter Try.func3, Try.ntmps3
  go_upto_region 2 with (go_at_call 11; refine (PK.out _).mono ?_; rintro e wn ⟨⟨k, hk11, rfl⟩, hk⟩; have K := Lib.hid hk; clear hk)
  obtain ⟨N, hN⟩ : ∃ N : Nat, 195 + k = N := ⟨_, rfl⟩
  have hNe : (195 + (k : Int)) = (N : Int) := by omega
  have hN1 : 195 ≤ N := by omega
  have hN2 : N ≤ 205 := by omega
  rw [hNe]
  clear hNe hN hk11
  have wkN : IntKind.i64.wrap ((N : Int) - 1) = (N : Int) - 1 := IntWalk.i64_in _ (by omega)
  go_wp2_with fail
  go_loopw [3, 4] (fun s c wr => ∃ m : Nat, m + 1 ≤ N ∧ c = .int .i64 m ∧ OwnP wr wn.heap.size s (stair m) ∧ Kp wn wr) (fun _ c _ => N - (intOf c).toNat)
  case atStart => exact ⟨0, by omega, rfl, OwnP.nil _ _, kp_refl _⟩
  case round =>
    obtain ⟨m, hm, rfl, ho, hkp⟩ := hrel
    have HO := Lib.hid ho; have HK := Lib.hid hkp
    clear ho hkp
    by_cases hlt : m + 1 < N
    · obtain ⟨x, hx⟩ : ∃ x, ((m : Int) + 1).tdiv 2 = x := ⟨_, rfl⟩
      obtain ⟨y, hy⟩ : ∃ x, (m : Int).tdiv 2 = x := ⟨_, rfl⟩
      have hx2 : ((m : Int) + 1) / 2 = x := by rw [← hx, Int.tdiv_eq_ediv_of_nonneg (by omega)]
      have hy2 : (m : Int) / 2 = y := by rw [← hy, Int.tdiv_eq_ediv_of_nonneg (by omega)]
      have wx : IntKind.i64.wrap x = x := IntWalk.i64_in _ (by omega)
      have wy : IntKind.i64.wrap y = y := IntWalk.i64_in _ (by omega)
      have wm : IntKind.i64.wrap ((m : Int) + 1) = (m : Int) + 1 := IntWalk.i64_in _ (by omega)
      have HSN := Lib.hid (show stair (m + 1) = stair m ++ [(x, y)] by rw [stair_succ, hx, hy])
      have HLN := Lib.hid (show (stair m).length ≤ 10000 by rw [stair_len]; omega)
      have t1 : (m : Int) < (N : Int) - 1 := by omega
      go_wp2_with (at_builtin; refine wpList_append_own_at _ rfl _ _ 23 rfl wn.heap.size 25 i0 (.agg #[.int .i64 0, .int .i64 0]) 2 16 Try.underlying23 HI.out HZ0.out HZ1.out HZ2.out rfl (by decide) _ _ _ rfl (HO.out.kp (kp_alloc (kp_refl _) _)) ⟨wr.heap.size, 0, none⟩ 1 1 [.int .i64 x, .int .i64 y] rfl rfl (cell_two_pt _ _ _ _) (by simp [Value.oneCell']) (by have := HLN.out; unfold maxLen; omega) (by have := HLN.out; omega) (Below.size (kp_alloc HK.out _)) ?_; intro v' w5 hown hgrow hnil hat; have HO3 := Lib.hid (OwnP.snoc hown); have HK3 := Lib.hid (kp_of_grown (kp_alloc HK.out _) hgrow (HO.out.kp (kp_alloc (kp_refl _) _))); clear hown hgrow hnil hat)
      exact ⟨⟨m + 1, by omega, by go_num, by rw [HSN.out]; exact HO3.out, HK3.out⟩, by simp [intOf]; omega⟩
    · have HLN := Lib.hid (show (stair m).length ≤ 10000 by rw [stair_len]; omega)
      have t1 : ¬ (m : Int) < (N : Int) - 1 := by omega
      have wz : IntKind.i64.wrap (N : Int) = (N : Int) := IntWalk.i64_in _ (by omega)
      have CK := Lib.hid (fun v w h => check_any v (stair m ++ [(-1, (N : Int))]) w h (by have := HLN.out; simp; omega))
      have CK9 := Lib.hid (fun v w h => check9_any v (stair m ++ [(-1, (N : Int))]) w h (by have := HLN.out; simp; omega))
      go_upto_region 8 with (at_builtin; refine wpList_append_own_at _ rfl _ _ 23 rfl wn.heap.size 25 i0 (.agg #[.int .i64 0, .int .i64 0]) 2 16 Try.underlying23 HI.out HZ0.out HZ1.out HZ2.out rfl (by decide) _ _ _ rfl (HO.out.kp (kp_alloc (kp_refl _) _)) ⟨wr.heap.size, 0, none⟩ 1 1 [.int .i64 (-1), .int .i64 (N : Int)] rfl rfl (cell_two_pt _ _ _ _) (by simp [Value.oneCell']) (by have := HLN.out; unfold maxLen; omega) (by have := HLN.out; omega) (Below.size (kp_alloc HK.out _)) ?_; intro v' w5 hown hgrow hnil hat; have HO3 := Lib.hid (OwnP.snoc hown); have HK3 := Lib.hid (kp_of_grown (kp_alloc HK.out _) hgrow (HO.out.kp (kp_alloc (kp_refl _) _))); clear hown hgrow hnil hat)
      have RD := Lib.hid (HO3.out.rdc (by have := HLN.out; simp; omega))
      have KF := kp_trans K.out HK3.out
      generalize (chk (stair m ++ [(-1, (N : Int))])).1 = e at *
      generalize (chk (stair m ++ [(-1, (N : Int))])).2 = q at *
      go_wp2_with (first
        | (go_at_call 12; refine (CK.out _ _ RD.out).mono ?_; rintro e wo ⟨rfl, hk⟩; replace RD := Lib.hid (RD.out.kp hk); replace KF := kp_trans KF hk; clear hk)
        | (go_at_call 13; refine (CK9.out _ _ RD.out).mono ?_; rintro e wo ⟨rfl, hk⟩; replace RD := Lib.hid (RD.out.kp hk); replace KF := kp_trans KF hk; clear hk)
        | (go_at_call 14; refine (awake_any _).mono ?_; rintro e wo ⟨rfl, hk⟩; replace KF := kp_trans KF hk; clear hk))
      go_ret
      exact ⟨rfl, KF⟩
end Go.Proofs.Ytcpbemoiodbliaa
