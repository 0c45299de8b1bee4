/- Contracts: a number as an int. -/
import Derived.Test.YtcmijedhjebpkaaN8
import Derived.Test.YtcmijedhjebpkaaWS
import Derived.Laws.Rows
namespace Go.Proofs.Ytcmijedhjebpkaa
open Go.RowKit Go.Proofs.Num Go.Proofs.Geo

/-- Is a number an int? -/
def fit (V : Int) : Bool := decide (-9223372036854775808 ≤ V) && decide (V ≤ 9223372036854775807)
theorem sumI_fit (V : Int) : sumI V = if fit V then (V, 0) else (0, 5) := by
  unfold sumI fit
  by_cases h : -9223372036854775808 ≤ V ∧ V ≤ 9223372036854775807
  · rw [if_pos h, decide_eq_true h.1, decide_eq_true h.2]; rfl
  · rw [if_neg h, if_neg]
    simpa using h
theorem big_of_dg {X : Int} {j : Nat} (h0 : 0 ≤ X) (hj : 4 ≤ j) (h : dg X j ≠ 0) : 18446744073709551616 ≤ X := by
  rcases Int.lt_or_le X 18446744073709551616 with k | k
  · exact absurd (dg_high h0 k j hj) h
  · exact k
theorem small_of_dg {X : Int} (h0 : 0 ≤ X) (ht : X < top12) (h : ∀ j, 4 ≤ j → j < 12 → dg X j = 0) : X < 18446744073709551616 := by
  have e := fun j => sh_split X j
  have e4 := e 4; have e5 := e 5; have e6 := e 6; have e7 := e 7; have e8 := e 8; have e9 := e 9; have e10 := e 10; have e11 := e 11
  rw [h 4 (by omega) (by omega)] at e4
  rw [h 5 (by omega) (by omega)] at e5
  rw [h 6 (by omega) (by omega)] at e6
  rw [h 7 (by omega) (by omega)] at e7
  rw [h 8 (by omega) (by omega)] at e8
  rw [h 9 (by omega) (by omega)] at e9
  rw [h 10 (by omega) (by omega)] at e10
  rw [h 11 (by omega) (by omega)] at e11
  have z := sh12_zero h0 ht
  simp only [Nat.reduceAdd] at e4 e5 e6 e7 e8 e9 e10 e11
  have z4 : sh X 4 = 0 := by omega
  have z4' : X / 65536 / 65536 / 65536 / 65536 = 0 := z4
  omega
theorem four_dg {X : Int} (h0 : 0 ≤ X) (h : X < 18446744073709551616) : dg X 0 + dg X 1 * 65536 + dg X 2 * 4294967296 + dg X 3 * 281474976710656 = X := by
  have e0 : dg X 0 = X % 65536 := rfl
  have e1 : dg X 1 = X / 65536 % 65536 := rfl
  have e2 : dg X 2 = X / 65536 / 65536 % 65536 := rfl
  have e3 : dg X 3 = X / 65536 / 65536 / 65536 % 65536 := rfl
  rw [e0, e1, e2, e3]; omega

theorem retIB {x u : Int} {y v : Bool} (h1 : x = u) (h2 : y = v) : Ending.returned (.tuple #[.int .i64 x, .bool y]) = .returned (.tuple #[.int .i64 u, .bool v]) := by rw [h1, h2]
set_option maxHeartbeats 8000000 in
set_option maxRecDepth 100000 in
theorem int_core (p : Bool) (X V : Int) (h0 : 0 ≤ X) (ht : X < top12) (hV : (if p then -X else X) = V) (w : World) : Calls Try.prog 64 #[.agg (numC p (d12 X))] w fun e w' =>
    e = .returned (.tuple #[.int .i64 (if fit V then V else 0), .bool (fit V)]) ∧ Kp w w' := by
  have hbig : 18446744073709551616 ≤ X → fit V = false := fun h => by
    unfold fit; rw [← hV]; cases p <;> simp <;> omega
  have hfour := fun h => four_dg h0 h
  have hsm := fun (h : ∀ j, 4 ≤ j → j < 12 → dg X j = 0) => small_of_dg h0 ht h
  have H0 := Lib.hid h0
  have HB := Lib.hid hbig
  have HFR := Lib.hid hfour
  have HSM := Lib.hid hsm
  have HVE := Lib.hid hV
  obtain ⟨iv, hiv⟩ : ∃ x, (if fit V then V else 0) = x := ⟨_, rfl⟩
  obtain ⟨bv, hbv⟩ : ∃ x, fit V = x := ⟨_, rfl⟩
  have HIV := Lib.hid hiv
  have HBV := Lib.hid hbv
  rw [hiv, hbv]
  clear h0 ht hbig hfour hsm hV hiv hbv
  go_enter Try.func64, Try.ntmps64
  go_upto_region 1 with fail
  obtain ⟨W, hW⟩ : ∃ W, w.alloc (.cells (numC p (d12 X)) 69) = W := ⟨_, rfl⟩
  have hn : NumB W w.heap.size p (d12 X) := by rw [← hW]; exact NumB.new w _ _ (d12_length _)
  have hk : Kp w W := by rw [← hW]; exact kp_alloc (kp_refl _) _
  rw [hW]; clear hW
  have HN := Lib.hid hn
  have HK := Lib.hid hk
  clear hn hk
  go_wp2_with fail
  go_loop [4] (fun i => ∃ k : Nat, 4 ≤ k ∧ k ≤ 12 ∧ i = .int .i64 k ∧ ∀ j, 4 ≤ j → j < k → dg X j = 0) (fun i => 12 - (intOf i).toNat)
  case atStart => exact ⟨4, by omega, by omega, rfl, fun j h1 h2 => by omega⟩
  case round =>
    obtain ⟨k, hk4, hk, rfl, hz⟩ := hrel
    by_cases hlt : k < 12
    · have b1 : 0 ≤ (k : Int) := by omega
      have b2 : (k : Int) < 12 := by omega
      have x0 := HN.out.cell k (by rw [d12_length]; omega)
      rw [d12_get] at x0
      by_cases hd : dg X k = 0
      · have HZ := Lib.hid (show ∀ j, 4 ≤ j → j < k + 1 → dg X j = 0 from fun j h1 h2 => by
          by_cases e : j = k
          · rw [e]; exact hd
          · exact hz j h1 (by omega))
        rw [hd] at x0
        clear hz hd
        go_wp2_with fail
        go_round
        case rel => exact ⟨k + 1, by omega, by omega, by go_num, HZ.out⟩
        case measure => simp [intOf]; omega
      · have HV := Lib.hid (HB.out (big_of_dg H0.out hk4 hd))
        have hne : (dg X k != 0) = true := by simp [hd]
        clear hz hd
        go_wp2_with fail
        go_ret2
        exact ⟨retIB (by rw [← HIV.out, HV.out]; rfl) (by rw [← HBV.out, HV.out]), HK.out⟩
    · obtain rfl : k = 12 := by omega
      have hx := HSM.out hz
      have hs := HFR.out hx
      have g0 := dg_bd X 0; have g1 := dg_bd X 1; have g2 := dg_bd X 2; have g3 := dg_bd X 3
      have x0 : W.cell? ⟨w.heap.size, 1, none⟩ = some (.int .i64 (dg X 0)) := by have := HN.out.cell 0 (by rw [d12_length]; omega); rwa [d12_get] at this
      have x1 : W.cell? ⟨w.heap.size, 2, none⟩ = some (.int .i64 (dg X 1)) := by have := HN.out.cell 1 (by rw [d12_length]; omega); rwa [d12_get] at this
      have x2 : W.cell? ⟨w.heap.size, 3, none⟩ = some (.int .i64 (dg X 2)) := by have := HN.out.cell 2 (by rw [d12_length]; omega); rwa [d12_get] at this
      have x3 : W.cell? ⟨w.heap.size, 4, none⟩ = some (.int .i64 (dg X 3)) := by have := HN.out.cell 3 (by rw [d12_length]; omega); rwa [d12_get] at this
      have s0 := HN.out.sgn
      clear hz
      generalize dg X 0 = d0 at *
      generalize dg X 1 = d1 at *
      generalize dg X 2 = d2 at *
      generalize dg X 3 = d3 at *
      obtain ⟨Y, hY⟩ : ∃ Y : Nat, X = (Y : Int) := ⟨X.toNat, by have := H0.out; omega⟩
      have w0 : IntKind.u64.wrap d0 = d0 := by rw [IntKind.wrap_u64]; omega
      have w1 : IntKind.u64.wrap d1 = d1 := by rw [IntKind.wrap_u64]; omega
      have w2 : IntKind.u64.wrap d2 = d2 := by rw [IntKind.wrap_u64]; omega
      have w3 : IntKind.u64.wrap d3 = d3 := by rw [IntKind.wrap_u64]; omega
      obtain ⟨e1, he1⟩ : ∃ e, d1 * 65536 = e := ⟨_, rfl⟩
      obtain ⟨e2, he2⟩ : ∃ e, d2 * 4294967296 = e := ⟨_, rfl⟩
      obtain ⟨e3, he3⟩ : ∃ e, d3 * 281474976710656 = e := ⟨_, rfl⟩
      rw [he1, he2, he3] at hs
      have v1 : IntKind.u64.wrap e1 = e1 := by rw [IntKind.wrap_u64]; omega
      have v2 : IntKind.u64.wrap e2 = e2 := by rw [IntKind.wrap_u64]; omega
      have v3 : IntKind.u64.wrap e3 = e3 := by rw [IntKind.wrap_u64]; omega
      obtain ⟨t1, ht1⟩ : ∃ t, d0 + e1 = t := ⟨_, rfl⟩
      obtain ⟨t2, ht2⟩ : ∃ t, t1 + e2 = t := ⟨_, rfl⟩
      have ht3 : t2 + e3 = (Y : Int) := by omega
      have q1 : IntKind.u64.wrap t1 = t1 := by rw [IntKind.wrap_u64]; omega
      have q2 : IntKind.u64.wrap t2 = t2 := by rw [IntKind.wrap_u64]; omega
      have q3 : IntKind.u64.wrap (Y : Int) = (Y : Int) := by rw [IntKind.wrap_u64]; omega
      have hY64 : Y < 18446744073709551616 := by omega
      have HY := Lib.hid hY
      have HYL := Lib.hid hY64
      clear hx hs hY hY64 g0 g1 g2 g3
      cases p
      · by_cases hc : 9223372036854775808 ≤ Y
        · have HV : Hid (fit V = false) := Lib.hid (by rw [← HVE.out, HY.out]; unfold fit; simp; omega)
          have hc2 : decide ((9223372036854775808 : Int) ≤ (Y : Int)) = true := decide_eq_true (by omega)
          have hc3 : decide (9223372036854775808 ≤ Y) = true := decide_eq_true hc
          clear hc
          go_wp2_with fail
          go_ret2
          exact ⟨retIB (by rw [← HIV.out, HV.out]; rfl) (by rw [← HBV.out, HV.out]), HK.out⟩
        · have HV : Hid (fit V = true) := Lib.hid (by rw [← HVE.out, HY.out]; unfold fit; simp; omega)
          have hc2 : decide ((9223372036854775808 : Int) ≤ (Y : Int)) = false := decide_eq_false (by omega)
          have hw : IntKind.i64.wrap (Y : Int) = (Y : Int) := IntWalk.i64_in _ (by omega)
          have hw2 : wrap64 (Y : Int) = (Y : Int) := by rw [← IntWalk.i64_left]; exact hw
          clear hc
          go_wp2_with fail
          go_ret2
          exact ⟨retIB (by rw [← HIV.out, HV.out, ← HVE.out, HY.out]; rfl) (by rw [← HBV.out, HV.out]), HK.out⟩
      · by_cases hc : 9223372036854775808 < Y
        · have HV : Hid (fit V = false) := Lib.hid (by rw [← HVE.out, HY.out]; unfold fit; simp; omega)
          have hc2 : decide ((9223372036854775808 : Int) < (Y : Int)) = true := decide_eq_true (by omega)
          clear hc
          go_wp2_with fail
          go_ret2
          exact ⟨retIB (by rw [← HIV.out, HV.out]; rfl) (by rw [← HBV.out, HV.out]), HK.out⟩
        · have HV : Hid (fit V = true) := Lib.hid (by rw [← HVE.out, HY.out]; unfold fit; simp; omega)
          have hc2 : decide ((9223372036854775808 : Int) < (Y : Int)) = false := decide_eq_false (by omega)
          have hw := neg_wrap (q := Y) (by omega)
          have hw2 : wrap64 (IntKind.u64.wrap (-(Y : Int))) = -(Y : Int) := by rw [← IntWalk.i64_left]; exact hw
          clear hc
          go_wp2_with fail
          go_ret2
          exact ⟨retIB (by rw [← HIV.out, HV.out, ← HVE.out, HY.out]; rfl) (by rw [← HBV.out, HV.out]), HK.out⟩
set_option maxHeartbeats 8000000 in
set_option maxRecDepth 100000 in
theorem told_core (p : Bool) (X V : Int) (h0 : 0 ≤ X) (ht : X < top12) (hV : (if p then -X else X) = V) (w : World) : Calls Try.prog 42 #[.agg (numC p (d12 X))] w fun e w' =>
    e = .returned (.tuple #[.int .i64 (sumI V).1, .int .i64 (sumI V).2]) ∧ Kp w w' := by
  have hc := fun w => int_core p X V h0 ht hV w
  have hs := sumI_fit V
  have hn : NumB (w.alloc (.cells (numC p (d12 X)) 69)) w.heap.size p (d12 X) := NumB.new w _ _ (d12_length _)
  have HN := Lib.hid hn
  clear hn h0 ht hV
  cases hf : fit V
  · rw [hf] at hc hs
    have HC := Lib.hid hc
    have HS := Lib.hid hs
    clear hc hs hf
    go_enter Try.func42, Try.ntmps42
    go_wp2_with (first
      | ((with_reducible refine at_slot 7 ?_); refine wpList_load_row rfl 69 _ rfl (w.heap.size) rfl 69 _ (0, 0) _ HN.out.1 Try.underlying69 rfl (info_num' (d12_length _)) ?_)
      | (go_at_call 64; refine (HC.out _).mono ?_; rintro e w2 ⟨rfl, hk⟩; have HK := Lib.hid (kp_trans (kp_alloc (kp_refl w) _) hk); clear hk))
    go_ret2
    exact ⟨ret2 (by rw [HS.out]; rfl) (by rw [HS.out]; rfl), HK.out⟩
  · rw [hf] at hc hs
    have HC := Lib.hid hc
    have HS := Lib.hid hs
    clear hc hs hf
    go_enter Try.func42, Try.ntmps42
    go_wp2_with (first
      | ((with_reducible refine at_slot 7 ?_); refine wpList_load_row rfl 69 _ rfl (w.heap.size) rfl 69 _ (0, 0) _ HN.out.1 Try.underlying69 rfl (info_num' (d12_length _)) ?_)
      | (go_at_call 64; refine (HC.out _).mono ?_; rintro e w2 ⟨rfl, hk⟩; have HK := Lib.hid (kp_trans (kp_alloc (kp_refl w) _) hk); clear hk))
    go_ret2
    exact ⟨ret2 (by rw [HS.out]; rfl) (by rw [HS.out]; rfl), HK.out⟩
theorem told_any (V : Int) (h : Sm V) (w : World) : Calls Try.prog 42 #[.agg (numI V)] w fun e w' => e = .returned (.tuple #[.int .i64 (sumI V).1, .int .i64 (sumI V).2]) ∧ Kp w w' :=
  told_core _ V.natAbs V (by omega) h (by by_cases k : V < 0 <;> simp [k] <;> omega) w
end Go.Proofs.Ytcmijedhjebpkaa
