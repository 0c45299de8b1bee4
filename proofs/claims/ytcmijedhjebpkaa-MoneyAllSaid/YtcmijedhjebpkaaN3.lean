/- Contracts of numbers in digits: Less, Sgn, size. -/
import Derived.Test.YtcmijedhjebpkaaN2
namespace Go.Proofs.Ytcmijedhjebpkaa
open Go.RowKit Go.Proofs.Num

/-- The number V as a Num. -/
def numI (V : Int) : Array Value := numC (decide (V < 0)) (d12 V.natAbs)
/-- Small enough. -/
def Sm (V : Int) : Prop := (V.natAbs : Int) < top12
theorem allZ_d12 {X : Int} (h0 : 0 ≤ X) (h : X < top12) : allZ (d12 X) = decide (X = 0) := by
  rw [Bool.eq_iff_iff, decide_eq_true_iff, allZ, List.all_eq_true]
  constructor
  · intro k
    refine zero_of_dg h0 h fun j hj => ?_
    have := k (dg X j) (List.mem_map.2 ⟨j, List.mem_range.2 hj, rfl⟩)
    simpa using this
  · rintro rfl x hx
    obtain ⟨j, _, rfl⟩ := List.mem_map.1 hx
    simp [dg_zero]
theorem numC_numI {neg : Bool} {X : Int} (h0 : 0 ≤ X) (h : X < top12) : numC (neg && !allZ (d12 X)) (d12 X) = numI (if neg then -X else X) := by
  rw [allZ_d12 h0 h]
  unfold numI
  cases neg
  · simp only [Bool.false_and, Bool.false_eq_true, if_false]
    congr 1
    · simp; omega
    · congr 1; omega
  · simp only [Bool.true_and, if_true]
    congr 1
    · rw [Bool.eq_iff_iff]; simp; omega
    · congr 1; omega
theorem allZ_num {V : Int} (h : Sm V) : allZ (d12 V.natAbs) = decide (V = 0) := by
  rw [allZ_d12 (by omega) h, Bool.eq_iff_iff, decide_eq_true_iff, decide_eq_true_iff]; omega
theorem d12_bd {X : Int} : ∀ d ∈ d12 X, 0 ≤ d ∧ d ≤ 2199023255552 := by
  intro d hd
  obtain ⟨j, _, rfl⟩ := List.mem_map.1 hd
  have := dg_bd X j
  omega
/-- carried at digits of a number: the number. -/
theorem carried_num (neg : Bool) (D : List Int) (X : Int) (hl : D.length = 12) (hv0 : hv D = X) (hb : ∀ d ∈ D, 0 ≤ d ∧ d ≤ 2199023255552) (ht : X < top12) (w : World) :
    Calls Try.prog 43 #[.agg (numC neg D)] w fun e w' => e = .returned (.agg (numI (if neg then -X else X))) ∧ Kp w w' :=
  (carried_any neg D X hl hv0 hb ht w).mono fun e w' ⟨h1, h2⟩ => ⟨by rw [h1, numC_numI (by rw [← hv0]; exact hv_nonneg fun d hd => (hb d hd).1) ht], h2⟩
theorem carried_less (V : Int) (h : Sm V) (w : World) :
    Calls Try.prog 43 #[.agg (numC (!decide (V < 0)) (d12 V.natAbs))] w fun e w' => e = .returned (.agg (numI (-V))) ∧ Kp w w' :=
  (carried_num _ _ V.natAbs (d12_length _) (hv_d12 (sh12_zero (by omega) h)) d12_bd h w).mono fun e w' ⟨h1, h2⟩ => ⟨by
    rw [h1]; congr 3
    by_cases k : V < 0 <;> simp [k] <;> omega, h2⟩
theorem ret_agg {a b : Array Value} (h : a = b) : Ending.returned (.agg a) = .returned (.agg b) := by rw [h]
theorem numI_len (V : Int) : (d12 (V.natAbs : Int)).length = 12 := d12_length _

theorem info_numI (V : Int) : (Try.prog.info? 69).map (·.size) = some (numI V).size := info_num' (d12_length _)
set_option maxHeartbeats 8000000 in
set_option maxRecDepth 100000 in
theorem less_core (p : Bool) (X Y : Int) (h0 : 0 ≤ X) (h : X < top12) (hy : (if !p then -X else X) = Y) (w : World) : Calls Try.prog 44 #[.agg (numC p (d12 X))] w fun e w' => e = .returned (.agg (numI Y)) ∧ Kp w w' := by
  have hc := fun (w : World) => carried_num (!p) (d12 X) X (d12_length _) (hv_d12 (sh12_zero h0 h)) d12_bd h w
  rw [hy] at hc
  have HC := Lib.hid hc
  clear h0 h hc hy
  go_enter Try.func44, Try.ntmps44
  go_upto_region 1 with fail
  obtain ⟨W, hW⟩ : ∃ W, (w.alloc (.cells (numC p (d12 X)) 69)).alloc (.cells #[.bool false, .int .i64 0, .int .i64 0, .int .i64 0, .int .i64 0, .int .i64 0, .int .i64 0, .int .i64 0, .int .i64 0, .int .i64 0, .int .i64 0, .int .i64 0, .int .i64 0] 69) = W := ⟨_, rfl⟩
  have hn : NumB W w.heap.size p (d12 X) := by rw [← hW]; exact (NumB.new w _ _ (d12_length _)).a _
  have hr : NumB W (w.heap.size + 1) false numZ := by
    rw [← hW]
    have h := NumB.new (w.alloc (.cells (numC p (d12 X)) 69)) false numZ rfl
    rwa [World.size_alloc] at h
  have hk : Kp w W := by rw [← hW]; exact kp_alloc (kp_alloc (kp_refl _) _) _
  rw [hW]; clear hW
  have s0 := hn.sgn
  have t0 := hn.froz 0
  have hN := Lib.hid (hn.setSgn (!p))
  have hR := Lib.hid (hr.off (a := ⟨w.heap.size, 0, none⟩) (.bool (!p)) (by simp))
  have hK := Lib.hid (kp_set hk (a := ⟨w.heap.size, 0, none⟩) (by simp) (.bool (!p)))
  clear hn hr hk
  go_wp2_with (first
    | ((with_reducible refine at_slot 7 ?_); refine wpList_load_row rfl 69 _ rfl (w.heap.size) rfl 69 _ (0, 0) _ hN.out.1 Try.underlying69 rfl (info_num' (d12_length _)) ?_)
    | (go_at_call 43; refine (HC.out _).mono ?_; rintro e w2 ⟨rfl, hk⟩; have r2 := Lib.hid (hR.out.kp hk); have k2 := Lib.hid (kp_trans hK.out hk); clear hk)
    | ((with_reducible refine at_store 69 ?_); refine wpList_store_row rfl 69 _ _ rfl (w.heap.size + 1) (numI (Y)) rfl rfl 69 _ r2.out.1 (info_numI _) (by rw [numC_size r2.out.2]; exact (numC_size (d12_length _)).symm) (numC_one _ _) ?_))
  refine bodyPost_ret (v := .agg (numI (Y))) (results_cell_row rfl _ _ (w.heap.size + 1) 69 _ (0, 0) _ rfl (setRow_heap _ _ _ _ _ _ r2.out.1) Try.underlying69 rfl (info_numI _)) rfl ?_
  exact ⟨rfl, kp_row k2.out (by simp) _⟩
theorem less_any (V : Int) (h : Sm V) (w : World) : Calls Try.prog 44 #[.agg (numI V)] w fun e w' => e = .returned (.agg (numI (-V))) ∧ Kp w w' :=
  less_core _ V.natAbs _ (by omega) h (by by_cases k : V < 0 <;> simp [k] <;> omega) w
set_option maxHeartbeats 8000000 in
set_option maxRecDepth 100000 in
theorem sgn_core (p : Bool) (X : Int) (b : Bool) (hb : allZ (d12 X) = b) (w : World) : Calls Try.prog 40 #[.agg (numC p (d12 X))] w fun e w' => e = .returned (.int .i64 (if b then 0 else if p then -1 else 1)) ∧ Kp w w' := by
  have hn : NumB (w.alloc (.cells (numC p (d12 X)) 69)) w.heap.size p (d12 X) := NumB.new w _ _ (d12_length _)
  have HN := Lib.hid hn
  have HB := Lib.hid hb
  clear hn hb
  go_enter Try.func40, Try.ntmps40
  cases b
  · cases p
    all_goals
      go_wp2_with (first
        | ((with_reducible refine at_slot 3 ?_); refine wpList_load_row rfl 69 _ rfl (w.heap.size) rfl 69 _ (0, 0) _ HN.out.1 Try.underlying69 rfl (info_num' (d12_length _)) ?_)
        | (go_at_call 63; refine (zero_any _ _ (d12_length _) _).mono ?_; rintro e w2 ⟨rfl, hk⟩; rw [HB.out]; have s0 := (HN.out.kp hk).sgn; have k2 := Lib.hid (kp_trans (kp_alloc (kp_refl _) _) hk); clear hk))
      go_ret
      exact ⟨rfl, k2.out⟩
  · go_wp2_with (first
      | ((with_reducible refine at_slot 3 ?_); refine wpList_load_row rfl 69 _ rfl (w.heap.size) rfl 69 _ (0, 0) _ HN.out.1 Try.underlying69 rfl (info_num' (d12_length _)) ?_)
      | (go_at_call 63; refine (zero_any _ _ (d12_length _) _).mono ?_; rintro e w2 ⟨rfl, hk⟩; rw [HB.out]; have k2 := Lib.hid (kp_trans (kp_alloc (kp_refl _) _) hk); clear hk))
    go_ret
    exact ⟨rfl, k2.out⟩
theorem sgn_any (V : Int) (h : Sm V) (w : World) : Calls Try.prog 40 #[.agg (numI V)] w fun e w' => e = .returned (.int .i64 V.sign) ∧ Kp w w' :=
  (sgn_core _ V.natAbs _ (allZ_num h) w).mono fun e w' ⟨h1, h2⟩ => ⟨by
    rw [h1]; congr 2
    rcases Int.lt_trichotomy V 0 with k | k | k
    · rw [Int.sign_eq_neg_one_of_neg k]; simp [k]; omega
    · subst k; rfl
    · rw [Int.sign_eq_one_of_pos k]; simp; omega, h2⟩
end Go.Proofs.Ytcmijedhjebpkaa
