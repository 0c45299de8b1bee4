/- Contracts of numbers in digits: Of. -/
import Derived.Test.YtcmijedhjebpkaaN4
import Derived.Test.YtcmijedhjebpkaaW4
import Derived.Laws.Bits64
import Derived.Laws.BitsLemmas
namespace Go.Proofs.Ytcmijedhjebpkaa
open Go.RowKit Go.Proofs.Num Go.Proofs.Geo

/-- The digits while the first k of U are laid. -/
def ofE (U : Int) (k : Nat) : List Int := (List.range 12).map fun j => if j < k then dg U j else 0
theorem ofE_len (U : Int) (k : Nat) : (ofE U k).length = 12 := by simp [ofE]
theorem ofE_zero (U : Int) : ofE U 0 = numZ := rfl
theorem ofE_set (U : Int) (k : Nat) : (ofE U k).set k (dg U k) = ofE U (k + 1) := by
  apply List.ext_getElem
  · simp [ofE]
  · intro i h1 h2
    rw [List.getElem_set]
    simp only [ofE, List.getElem_map, List.getElem_range]
    by_cases e : k = i
    · subst e; simp
    · rw [if_neg e]
      by_cases e2 : i < k
      · rw [if_pos e2, if_pos (by omega)]
      · rw [if_neg e2, if_neg (by omega)]
theorem sh_zero (j : Nat) : sh 0 j = 0 := by
  induction j with
  | zero => rfl
  | succ j ih => rw [sh_succ, ih]; rfl
theorem dg_high {U : Int} (h0 : 0 ≤ U) (h : U < 18446744073709551616) (j : Nat) (hj : 4 ≤ j) : dg U j = 0 := by
  obtain ⟨i, rfl⟩ : ∃ i, j = i + 4 := ⟨j - 4, by omega⟩
  have e : ∀ i, sh U (i + 4) = 0 := by
    intro i
    induction i with
    | zero => show U / 65536 / 65536 / 65536 / 65536 = 0; omega
    | succ i ih => rw [show i + 1 + 4 = (i + 4) + 1 from rfl, sh_succ, ih]; rfl
  unfold dg; rw [e]; rfl
theorem ofE_four {U : Int} (h0 : 0 ≤ U) (h : U < 18446744073709551616) : ofE U 4 = d12 U := by
  unfold ofE d12
  apply List.map_congr_left
  intro j _
  by_cases e : j < 4
  · rw [if_pos e]
  · rw [if_neg e, dg_high h0 h j (by omega)]
theorem mask16 {Y : Int} (h0 : 0 ≤ Y) (h : Y < 18446744073709551616) : wrap64 (bits BinOp.and IntKind.u64 Y 65535) = Y % 65536 := by
  have k := bits_mask .u64 64 (by decide) (fun n a b => by rw [IntKind.wrap_u64]; omega) 16 (by decide) Y h0 (by omega)
  have e : ((2 : Int) ^ 16 - 1) = 65535 := by decide
  have e2 : ((2 : Int) ^ 16) = 65536 := by decide
  rw [e, e2] at k
  rw [k, ← IntWalk.i64_left]
  exact IntWalk.i64_in _ (by omega)
theorem mask_0 {U : Int} (h0 : 0 ≤ U) (h : U < 18446744073709551616) : wrap64 (bits BinOp.and IntKind.u64 U 65535) = dg U 0 := mask16 h0 h
theorem mask_1 {U : Int} (h0 : 0 ≤ U) (h : U < 18446744073709551616) : wrap64 (bits BinOp.and IntKind.u64 (U / 65536) 65535) = dg U 1 := mask16 (by omega) (by omega)
theorem mask_2 {U : Int} (h0 : 0 ≤ U) (h : U < 18446744073709551616) : wrap64 (bits BinOp.and IntKind.u64 (U / 4294967296) 65535) = dg U 2 := by
  rw [mask16 (by omega) (by omega)]; show _ = U / 65536 / 65536 % 65536; omega
theorem mask_3 {U : Int} (h0 : 0 ≤ U) (h : U < 18446744073709551616) : wrap64 (bits BinOp.and IntKind.u64 (U / 281474976710656) 65535) = dg U 3 := by
  rw [mask16 (by omega) (by omega)]; show _ = U / 65536 / 65536 / 65536 % 65536; omega

set_option maxHeartbeats 8000000 in
set_option maxRecDepth 100000 in
theorem of_core (n U : Int) (b : Bool) (hb : decide (n < 0) = b) (hU : 0 ≤ U ∧ U < 18446744073709551616) (hn : (if b then IntKind.u64.wrap (-IntKind.u64.wrap n) else IntKind.u64.wrap n) = U) (w : World) :
    Calls Try.prog 37 #[.int .i64 n] w fun e w' => e = .returned (.agg (numC b (d12 U))) ∧ Kp w w' := by
  have H4 := Lib.hid (ofE_four hU.1 hU.2)
  have m0 := mask_0 hU.1 hU.2
  have m1 := mask_1 hU.1 hU.2
  have m2 := mask_2 hU.1 hU.2
  have m3 := mask_3 hU.1 hU.2
  cases b
  · have hn' : IntKind.u64.wrap n = U := hn
    have hb' : ¬ n < 0 := by simpa using hb
    clear hn
    go_enter Try.func37, Try.ntmps37
    go_wp2_with fail
    obtain ⟨W, hW⟩ : ∃ W, (w.alloc (.cells #[.bool false, .int .i64 0, .int .i64 0, .int .i64 0, .int .i64 0, .int .i64 0, .int .i64 0, .int .i64 0, .int .i64 0, .int .i64 0, .int .i64 0, .int .i64 0, .int .i64 0] 69)).alloc (.cells #[.bool false, .int .i64 0, .int .i64 0, .int .i64 0, .int .i64 0, .int .i64 0, .int .i64 0, .int .i64 0, .int .i64 0, .int .i64 0, .int .i64 0, .int .i64 0, .int .i64 0] 69) = W := ⟨_, rfl⟩
    have hr : NumB W w.heap.size false numZ := by rw [← hW]; exact (NumB.new w false numZ rfl).a _
    have hx : NumB W (w.heap.size + 1) false (ofE U 0) := by
      rw [← hW]
      have h := NumB.new (w.alloc (.cells #[.bool false, .int .i64 0, .int .i64 0, .int .i64 0, .int .i64 0, .int .i64 0, .int .i64 0, .int .i64 0, .int .i64 0, .int .i64 0, .int .i64 0, .int .i64 0, .int .i64 0] 69)) false numZ rfl
      rwa [World.size_alloc] at h
    have hk : Kp w W := by rw [← hW]; exact kp_alloc (kp_alloc (kp_refl _) _) _
    rw [hW]; clear hW
    go_loopw [5] (fun i wr => ∃ (k : Nat) (v : Int), (k, v) ∈ [(0, 0), (1, 1), (2, 2), (3, 3), (4, 4)] ∧ i = .int .i64 v ∧ NumB wr w.heap.size false numZ ∧ NumB wr (w.heap.size + 1) false (ofE U k) ∧ Kp w wr) (fun i _ => (4 - intOf i).toNat)
    case atStart => exact ⟨0, 0, by simp, rfl, hr, hx, hk⟩
    case round =>
      obtain ⟨k, v, hm, rfl, hr, hx, hk⟩ := hrel
      simp only [List.mem_cons, Prod.mk.injEq, List.not_mem_nil, or_false] at hm
      rcases hm with ⟨rfl, rfl⟩ | ⟨rfl, rfl⟩ | ⟨rfl, rfl⟩ | ⟨rfl, rfl⟩ | ⟨rfl, rfl⟩
      · have x0 := hx.cell 0 (by rw [ofE_len]; omega)
        have y0 : wr.frozen? ⟨w.heap.size + 1, 1, none⟩ = false := hx.froz 1
        have hX := Lib.hid (hx.set 0 (dg U 0))
        have hR := Lib.hid (hr.off (a := ⟨w.heap.size + 1, 1, none⟩) (.int .i64 (dg U 0)) (by simp))
        have hK := Lib.hid (kp_set hk (a := ⟨w.heap.size + 1, 1, none⟩) (by simp) (.int .i64 (dg U 0)))
        clear hx hr hk
        go_wp2_with fail
        exact ⟨⟨1, 1, by simp, rfl, hR.out, by rw [← ofE_set]; exact hX.out, hK.out⟩, by simp [intOf]⟩
      · have x0 := hx.cell 1 (by rw [ofE_len]; omega)
        have y0 : wr.frozen? ⟨w.heap.size + 1, 2, none⟩ = false := hx.froz 2
        have hX := Lib.hid (hx.set 1 (dg U 1))
        have hR := Lib.hid (hr.off (a := ⟨w.heap.size + 1, 2, none⟩) (.int .i64 (dg U 1)) (by simp))
        have hK := Lib.hid (kp_set hk (a := ⟨w.heap.size + 1, 2, none⟩) (by simp) (.int .i64 (dg U 1)))
        clear hx hr hk
        go_wp2_with fail
        exact ⟨⟨2, 2, by simp, rfl, hR.out, by rw [← ofE_set]; exact hX.out, hK.out⟩, by simp [intOf]⟩
      · have x0 := hx.cell 2 (by rw [ofE_len]; omega)
        have y0 : wr.frozen? ⟨w.heap.size + 1, 3, none⟩ = false := hx.froz 3
        have hX := Lib.hid (hx.set 2 (dg U 2))
        have hR := Lib.hid (hr.off (a := ⟨w.heap.size + 1, 3, none⟩) (.int .i64 (dg U 2)) (by simp))
        have hK := Lib.hid (kp_set hk (a := ⟨w.heap.size + 1, 3, none⟩) (by simp) (.int .i64 (dg U 2)))
        clear hx hr hk
        go_wp2_with fail
        exact ⟨⟨3, 3, by simp, rfl, hR.out, by rw [← ofE_set]; exact hX.out, hK.out⟩, by simp [intOf]⟩
      · have x0 := hx.cell 3 (by rw [ofE_len]; omega)
        have y0 : wr.frozen? ⟨w.heap.size + 1, 4, none⟩ = false := hx.froz 4
        have hX := Lib.hid (hx.set 3 (dg U 3))
        have hR := Lib.hid (hr.off (a := ⟨w.heap.size + 1, 4, none⟩) (.int .i64 (dg U 3)) (by simp))
        have hK := Lib.hid (kp_set hk (a := ⟨w.heap.size + 1, 4, none⟩) (by simp) (.int .i64 (dg U 3)))
        clear hx hr hk
        go_wp2_with fail
        exact ⟨⟨4, 4, by simp, rfl, hR.out, by rw [← ofE_set]; exact hX.out, hK.out⟩, by simp [intOf]⟩
      · have hR := Lib.hid hr
        have hX := Lib.hid hx
        have hK := Lib.hid hk
        clear hr hx hk
        go_wp2_with (first
          | ((with_reducible refine at_slot 28 ?_); refine wpList_load_row rfl 69 _ rfl (w.heap.size + 1) rfl 69 _ (0, 0) _ hX.out.1 Try.underlying69 rfl (info_num' (ofE_len U 4)) ?_)
          | ((with_reducible refine at_store 69 ?_); refine wpList_store_row rfl 69 _ _ rfl (w.heap.size) (numC false (ofE U 4)) rfl rfl 69 _ hR.out.1 (info_num' (ofE_len U 4)) (by rw [numC_size hR.out.2, numC_size (ofE_len U 4)]) (numC_one _ _) ?_))
        refine bodyPost_ret (v := .agg (numC false (ofE U 4))) (results_cell_row rfl _ _ (w.heap.size) 69 _ (0, 0) _ rfl (setRow_heap _ _ _ _ _ _ hR.out.1) Try.underlying69 rfl (info_num' (ofE_len U 4))) rfl ?_
        exact ⟨ret_agg (by rw [H4.out]), kp_row hK.out (by simp) _⟩
  · have hn' : IntKind.u64.wrap (-IntKind.u64.wrap n) = U := hn
    have hb' : n < 0 := by simpa using hb
    clear hn
    go_enter Try.func37, Try.ntmps37
    go_wp2_with fail
    obtain ⟨W, hW⟩ : ∃ W, (w.alloc (.cells #[.bool false, .int .i64 0, .int .i64 0, .int .i64 0, .int .i64 0, .int .i64 0, .int .i64 0, .int .i64 0, .int .i64 0, .int .i64 0, .int .i64 0, .int .i64 0, .int .i64 0] 69)).alloc (.cells #[.bool true, .int .i64 0, .int .i64 0, .int .i64 0, .int .i64 0, .int .i64 0, .int .i64 0, .int .i64 0, .int .i64 0, .int .i64 0, .int .i64 0, .int .i64 0, .int .i64 0] 69) = W := ⟨_, rfl⟩
    have hr : NumB W w.heap.size false numZ := by rw [← hW]; exact (NumB.new w false numZ rfl).a _
    have hx : NumB W (w.heap.size + 1) true (ofE U 0) := by
      rw [← hW]
      have h := NumB.new (w.alloc (.cells #[.bool false, .int .i64 0, .int .i64 0, .int .i64 0, .int .i64 0, .int .i64 0, .int .i64 0, .int .i64 0, .int .i64 0, .int .i64 0, .int .i64 0, .int .i64 0, .int .i64 0] 69)) true numZ rfl
      rwa [World.size_alloc] at h
    have hk : Kp w W := by rw [← hW]; exact kp_alloc (kp_alloc (kp_refl _) _) _
    rw [hW]; clear hW
    go_loopw [5] (fun i wr => ∃ (k : Nat) (v : Int), (k, v) ∈ [(0, 0), (1, 1), (2, 2), (3, 3), (4, 4)] ∧ i = .int .i64 v ∧ NumB wr w.heap.size false numZ ∧ NumB wr (w.heap.size + 1) true (ofE U k) ∧ Kp w wr) (fun i _ => (4 - intOf i).toNat)
    case atStart => exact ⟨0, 0, by simp, rfl, hr, hx, hk⟩
    case round =>
      obtain ⟨k, v, hm, rfl, hr, hx, hk⟩ := hrel
      simp only [List.mem_cons, Prod.mk.injEq, List.not_mem_nil, or_false] at hm
      rcases hm with ⟨rfl, rfl⟩ | ⟨rfl, rfl⟩ | ⟨rfl, rfl⟩ | ⟨rfl, rfl⟩ | ⟨rfl, rfl⟩
      · have x0 := hx.cell 0 (by rw [ofE_len]; omega)
        have y0 : wr.frozen? ⟨w.heap.size + 1, 1, none⟩ = false := hx.froz 1
        have hX := Lib.hid (hx.set 0 (dg U 0))
        have hR := Lib.hid (hr.off (a := ⟨w.heap.size + 1, 1, none⟩) (.int .i64 (dg U 0)) (by simp))
        have hK := Lib.hid (kp_set hk (a := ⟨w.heap.size + 1, 1, none⟩) (by simp) (.int .i64 (dg U 0)))
        clear hx hr hk
        go_wp2_with fail
        exact ⟨⟨1, 1, by simp, rfl, hR.out, by rw [← ofE_set]; exact hX.out, hK.out⟩, by simp [intOf]⟩
      · have x0 := hx.cell 1 (by rw [ofE_len]; omega)
        have y0 : wr.frozen? ⟨w.heap.size + 1, 2, none⟩ = false := hx.froz 2
        have hX := Lib.hid (hx.set 1 (dg U 1))
        have hR := Lib.hid (hr.off (a := ⟨w.heap.size + 1, 2, none⟩) (.int .i64 (dg U 1)) (by simp))
        have hK := Lib.hid (kp_set hk (a := ⟨w.heap.size + 1, 2, none⟩) (by simp) (.int .i64 (dg U 1)))
        clear hx hr hk
        go_wp2_with fail
        exact ⟨⟨2, 2, by simp, rfl, hR.out, by rw [← ofE_set]; exact hX.out, hK.out⟩, by simp [intOf]⟩
      · have x0 := hx.cell 2 (by rw [ofE_len]; omega)
        have y0 : wr.frozen? ⟨w.heap.size + 1, 3, none⟩ = false := hx.froz 3
        have hX := Lib.hid (hx.set 2 (dg U 2))
        have hR := Lib.hid (hr.off (a := ⟨w.heap.size + 1, 3, none⟩) (.int .i64 (dg U 2)) (by simp))
        have hK := Lib.hid (kp_set hk (a := ⟨w.heap.size + 1, 3, none⟩) (by simp) (.int .i64 (dg U 2)))
        clear hx hr hk
        go_wp2_with fail
        exact ⟨⟨3, 3, by simp, rfl, hR.out, by rw [← ofE_set]; exact hX.out, hK.out⟩, by simp [intOf]⟩
      · have x0 := hx.cell 3 (by rw [ofE_len]; omega)
        have y0 : wr.frozen? ⟨w.heap.size + 1, 4, none⟩ = false := hx.froz 4
        have hX := Lib.hid (hx.set 3 (dg U 3))
        have hR := Lib.hid (hr.off (a := ⟨w.heap.size + 1, 4, none⟩) (.int .i64 (dg U 3)) (by simp))
        have hK := Lib.hid (kp_set hk (a := ⟨w.heap.size + 1, 4, none⟩) (by simp) (.int .i64 (dg U 3)))
        clear hx hr hk
        go_wp2_with fail
        exact ⟨⟨4, 4, by simp, rfl, hR.out, by rw [← ofE_set]; exact hX.out, hK.out⟩, by simp [intOf]⟩
      · have hR := Lib.hid hr
        have hX := Lib.hid hx
        have hK := Lib.hid hk
        clear hr hx hk
        go_wp2_with (first
          | ((with_reducible refine at_slot 28 ?_); refine wpList_load_row rfl 69 _ rfl (w.heap.size + 1) rfl 69 _ (0, 0) _ hX.out.1 Try.underlying69 rfl (info_num' (ofE_len U 4)) ?_)
          | ((with_reducible refine at_store 69 ?_); refine wpList_store_row rfl 69 _ _ rfl (w.heap.size) (numC true (ofE U 4)) rfl rfl 69 _ hR.out.1 (info_num' (ofE_len U 4)) (by rw [numC_size hR.out.2, numC_size (ofE_len U 4)]) (numC_one _ _) ?_))
        refine bodyPost_ret (v := .agg (numC true (ofE U 4))) (results_cell_row rfl _ _ (w.heap.size) 69 _ (0, 0) _ rfl (setRow_heap _ _ _ _ _ _ hR.out.1) Try.underlying69 rfl (info_num' (ofE_len U 4))) rfl ?_
        exact ⟨ret_agg (by rw [H4.out]), kp_row hK.out (by simp) _⟩

theorem of_any (n : Int) (h : I64 n) (w : World) : Calls Try.prog 37 #[.int .i64 n] w fun e w' => e = .returned (.agg (numI n)) ∧ Kp w w' :=
  of_core n n.natAbs _ rfl (by unfold I64 at h; omega) (by
    by_cases k : n < 0
    · simp only [k, decide_true, if_true]; exact size_neg h k
    · simp only [k, decide_false, Bool.false_eq_true, if_false]; exact size_pos h k) w
end Go.Proofs.Ytcmijedhjebpkaa
