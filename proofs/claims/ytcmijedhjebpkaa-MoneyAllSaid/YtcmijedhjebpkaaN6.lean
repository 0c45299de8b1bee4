/- Contracts of numbers in digits: Plus. -/
import Derived.Test.YtcmijedhjebpkaaN5
namespace Go.Proofs.Ytcmijedhjebpkaa
open Go.RowKit Go.Proofs.Num Go.Proofs.Geo

theorem map_set {f g : Nat → Int} (n k : Nat) (v : Int) (hv : k < n → g k = v) (h : ∀ j, j ≠ k → g j = f j) : ((List.range n).map f).set k v = (List.range n).map g := by
  apply List.ext_getElem
  · simp
  · intro i h1 h2
    rw [List.getElem_set]
    simp only [List.getElem_map, List.getElem_range]
    by_cases e : k = i
    · subst e; rw [if_pos rfl, hv (by simpa using h2)]
    · rw [if_neg e, h i (fun e2 => e e2.symm)]
theorem hv_map_add (f g : Nat → Int) (l : List Nat) : hv (l.map fun j => f j + g j) = hv (l.map f) + hv (l.map g) := by
  induction l with
  | nil => rfl
  | cons a l ih => simp only [List.map_cons, hv, ih]; omega
def addE (X Y : Int) (k : Nat) : List Int := (List.range 12).map fun j => if j < k then dg X j + dg Y j else dg X j
theorem addE_len (X Y : Int) (k : Nat) : (addE X Y k).length = 12 := by simp [addE]
theorem addE_zero (X Y : Int) : addE X Y 0 = d12 X := by simp [addE, d12]
theorem addE_get (X Y : Int) (k : Nat) (h : k < (addE X Y k).length) : (addE X Y k)[k] = dg X k := by simp [addE]
theorem addE_set (X Y : Int) (k : Nat) : (addE X Y k).set k (dg X k + dg Y k) = addE X Y (k + 1) := by
  unfold addE
  refine map_set _ _ _ (fun _ => by simp) fun j hj => ?_
  by_cases e : j < k
  · rw [if_pos e, if_pos (by omega)]
  · rw [if_neg e, if_neg (by omega)]
theorem addE_all (X Y : Int) : addE X Y 12 = (List.range 12).map fun j => dg X j + dg Y j := by
  unfold addE
  apply List.map_congr_left
  intro j hj
  rw [if_pos (List.mem_range.1 hj)]
theorem addE_hv {X Y : Int} (hx : sh X 12 = 0) (hy : sh Y 12 = 0) : hv (addE X Y 12) = X + Y := by
  rw [addE_all, hv_map_add]
  have e1 := hv_d12 hx
  have e2 := hv_d12 hy
  unfold d12 at e1 e2
  rw [e1, e2]
theorem addE_bd (X Y : Int) : ∀ d ∈ addE X Y 12, 0 ≤ d ∧ d ≤ 2199023255552 := by
  intro d hd
  rw [addE_all] at hd
  obtain ⟨j, _, rfl⟩ := List.mem_map.1 hd
  have := dg_bd X j
  have := dg_bd Y j
  omega

/-- What is borrowed from the digits from k on. -/
def bo (X Y : Int) (k : Nat) : Int := sh X k - sh Y k - sh (X - Y) k
theorem bo_step (X Y : Int) (k : Nat) : dg X k - bo X Y k - dg Y k = dg (X - Y) k - 65536 * bo X Y (k + 1) := by
  unfold bo
  have e1 := sh_split X k
  have e2 := sh_split Y k
  have e3 := sh_split (X - Y) k
  omega
theorem bo_zero (X Y : Int) : bo X Y 0 = 0 := by simp [bo, sh]
theorem bo_bd (X Y : Int) (k : Nat) : bo X Y k = 0 ∨ bo X Y k = 1 := by
  induction k with
  | zero => left; exact bo_zero X Y
  | succ k ih =>
    have h := bo_step X Y k
    have b1 := dg_bd X k
    have b2 := dg_bd Y k
    have b3 := dg_bd (X - Y) k
    omega
theorem bo_top {X Y : Int} (hx : sh X 12 = 0) (hy : sh Y 12 = 0) (hz : sh (X - Y) 12 = 0) : bo X Y 12 = 0 := by unfold bo; rw [hx, hy, hz]; rfl
def subE (X Y : Int) (k : Nat) : List Int := (List.range 12).map fun j => if j < k then dg (X - Y) j else if j = k then dg X j - bo X Y k else dg X j
theorem subE_len (X Y : Int) (k : Nat) : (subE X Y k).length = 12 := by simp [subE]
theorem subE_zero (X Y : Int) : subE X Y 0 = d12 X := by
  unfold subE d12
  apply List.map_congr_left
  intro j _
  rw [if_neg (by omega)]
  by_cases e : j = 0
  · rw [if_pos e, bo_zero]; omega
  · rw [if_neg e]
theorem subE_all (X Y : Int) : subE X Y 12 = d12 (X - Y) := by
  unfold subE d12
  apply List.map_congr_left
  intro j hj
  rw [if_pos (List.mem_range.1 hj)]
theorem subE_get (X Y : Int) (k : Nat) (h : k < (subE X Y k).length) : (subE X Y k)[k] = dg X k - bo X Y k := by simp [subE]
theorem subE_get1 (X Y : Int) (k : Nat) (h : k + 1 < (subE X Y k).length) : (subE X Y k)[k + 1] = dg X (k + 1) := by simp [subE]; omega
theorem subE_next0 {X Y : Int} {k : Nat} (h : bo X Y (k + 1) = 0) : (subE X Y k).set k (dg X k - bo X Y k - dg Y k) = subE X Y (k + 1) := by
  have hs := bo_step X Y k
  unfold subE
  refine map_set _ _ _ (fun _ => by rw [if_pos (by omega)]; omega) fun j hj => ?_
  by_cases e : j < k
  · rw [if_pos e, if_pos (by omega)]
  · rw [if_neg e, if_neg (by omega), if_neg hj]
    by_cases e2 : j = k + 1
    · rw [if_pos e2, h]; omega
    · rw [if_neg e2]
theorem subE_next1 {X Y : Int} {k : Nat} (h : bo X Y (k + 1) = 1) : (((subE X Y k).set k (dg X k - bo X Y k - dg Y k)).set k (dg X k - bo X Y k - dg Y k + 65536)).set (k + 1) (dg X (k + 1) - 1) = subE X Y (k + 1) := by
  have hs := bo_step X Y k
  rw [List.set_set]
  unfold subE
  rw [map_set (g := fun j => if j < k + 1 then dg (X - Y) j else dg X j) _ _ _ (fun _ => by rw [if_pos (by omega)]; omega) fun j hj => ?_]
  · refine map_set _ _ _ (fun _ => by rw [if_neg (by omega), if_pos rfl, h]) fun j hj => ?_
    by_cases e : j < k + 1
    · rw [if_pos e, if_pos e]
    · rw [if_neg e, if_neg e, if_neg hj]
  · by_cases e : j < k
    · rw [if_pos e, if_pos (by omega)]
    · rw [if_neg e, if_neg (by omega), if_neg hj]

set_option maxHeartbeats 8000000 in
set_option maxRecDepth 100000 in
theorem plus_same (p : Bool) (X Y V : Int) (hx : sh X 12 = 0) (hy : sh Y 12 = 0) (ht : X + Y < top12) (hV : (if p then -(X + Y) else X + Y) = V) (w : World) :
    Calls Try.prog 41 #[.agg (numC p (d12 X)), .agg (numC p (d12 Y))] w fun e w' => e = .returned (.agg (numI V)) ∧ Kp w w' := by
  have hc := fun (w : World) => carried_num p (addE X Y 12) (X + Y) (addE_len X Y 12) (addE_hv hx hy) (addE_bd X Y) ht w
  rw [hV] at hc
  have HC := Lib.hid hc
  clear hc hx hy ht hV
  have hpp : (p == p) = true := by simp
  go_enter Try.func41, Try.ntmps41
  go_upto_region 1 with fail
  obtain ⟨W, hW⟩ : ∃ W, ((w.alloc (.cells (numC p (d12 X)) 69)).alloc (.cells (numC p (d12 Y)) 69)).alloc (.cells #[.bool false, .int .i64 0, .int .i64 0, .int .i64 0, .int .i64 0, .int .i64 0, .int .i64 0, .int .i64 0, .int .i64 0, .int .i64 0, .int .i64 0, .int .i64 0, .int .i64 0] 69) = W := ⟨_, rfl⟩
  have hx : NumB W w.heap.size p (d12 X) := by rw [← hW]; exact ((NumB.new w _ _ (d12_length _)).a _).a _
  have hy : NumB W (w.heap.size + 1) p (d12 Y) := by
    rw [← hW]
    have h := (NumB.new (w.alloc (.cells (numC p (d12 X)) 69)) p (d12 Y) (d12_length _)).a (.cells #[.bool false, .int .i64 0, .int .i64 0, .int .i64 0, .int .i64 0, .int .i64 0, .int .i64 0, .int .i64 0, .int .i64 0, .int .i64 0, .int .i64 0, .int .i64 0, .int .i64 0] 69)
    rwa [World.size_alloc] at h
  have hr : NumB W (w.heap.size + 1 + 1) false numZ := by
    rw [← hW]
    have h := NumB.new ((w.alloc (.cells (numC p (d12 X)) 69)).alloc (.cells (numC p (d12 Y)) 69)) false numZ rfl
    rwa [World.size_alloc, World.size_alloc] at h
  have hk : Kp w W := by rw [← hW]; exact kp_alloc (kp_alloc (kp_alloc (kp_refl _) _) _) _
  rw [hW]; clear hW
  have s0 := hx.sgn
  have s1 := hy.sgn
  rw [← addE_zero X Y] at hx
  have HX := Lib.hid hx
  have HY := Lib.hid hy
  have HR := Lib.hid hr
  have HK := Lib.hid hk
  clear hx hy hr hk
  go_wp2_with fail
  go_loopw [5] (fun i wr => ∃ k : Nat, k ≤ 12 ∧ i = .int .i64 k ∧ NumB wr w.heap.size p (addE X Y k) ∧ NumB wr (w.heap.size + 1) p (d12 Y) ∧ NumB wr (w.heap.size + 1 + 1) false numZ ∧ Kp w wr) (fun i _ => 12 - (intOf i).toNat)
  case atStart => exact ⟨0, by omega, rfl, HX.out, HY.out, HR.out, HK.out⟩
  case round =>
    obtain ⟨k, hk, rfl, hx, hy, hr, hkp⟩ := hrel
    clear HX HY HR HK
    by_cases hlt : k < 12
    · have b1 : 0 ≤ (k : Int) := by omega
      have b2 : (k : Int) < 12 := by omega
      have x0 := hx.cell k (by rw [addE_len]; omega)
      have x1 := hy.cell k (by rw [d12_length]; omega)
      rw [addE_get] at x0
      rw [d12_get] at x1
      have y0 := hx.froz (1 + k)
      have hx2 := hx.set k (dg X k + dg Y k)
      rw [addE_set] at hx2
      have bx := dg_bd X k
      have bY := dg_bd Y k
      have hX := Lib.hid hx2
      have hY := Lib.hid (hy.off (a := ⟨w.heap.size, 1 + k, none⟩) (.int .i64 (dg X k + dg Y k)) (by simp))
      have hR := Lib.hid (hr.off (a := ⟨w.heap.size, 1 + k, none⟩) (.int .i64 (dg X k + dg Y k)) (by simp; omega))
      have hK := Lib.hid (kp_set hkp (a := ⟨w.heap.size, 1 + k, none⟩) (by simp) (.int .i64 (dg X k + dg Y k)))
      clear hx hy hr hkp hx2
      generalize dg X k = a at *
      generalize dg Y k = b at *
      go_wp2_with fail
      go_region
      go_wp2_with fail
      exact ⟨⟨k + 1, by omega, by go_num, hX.out.drew, hY.out.drew, hR.out.drew, kp_drew hK.out⟩, by simp [intOf]; omega⟩
    · obtain rfl : k = 12 := by omega
      have hX := Lib.hid hx
      have hR := Lib.hid hr
      have hK := Lib.hid hkp
      clear hx hy hr hkp
      go_wp2_with (first
        | ((with_reducible refine at_slot 28 ?_); refine wpList_load_row rfl 69 _ rfl (w.heap.size) rfl 69 _ (0, 0) _ hX.out.1 Try.underlying69 rfl (info_num' (addE_len X Y 12)) ?_)
        | (go_at_call 43; refine (HC.out _).mono ?_; rintro e w2 ⟨rfl, hk⟩; have r2 := Lib.hid (hR.out.kp hk); have k2 := Lib.hid (kp_trans hK.out hk); clear hk)
        | ((with_reducible refine at_store 69 ?_); refine wpList_store_row rfl 69 _ _ rfl (w.heap.size + 1 + 1) (numI (V)) rfl rfl 69 _ r2.out.1 (info_numI _) (by rw [numC_size r2.out.2]; exact (numC_size (d12_length _)).symm) (numC_one _ _) ?_))
      refine bodyPost_ret (v := .agg (numI (V))) (results_cell_row rfl _ _ (w.heap.size + 1 + 1) 69 _ (0, 0) _ rfl (setRow_heap _ _ _ _ _ _ r2.out.1) Try.underlying69 rfl (info_numI _)) rfl ?_
      exact ⟨rfl, kp_row k2.out (by omega) _⟩
set_option maxHeartbeats 8000000 in
set_option maxRecDepth 100000 in
theorem plus_ge (p q : Bool) (X Y V : Int) (hpq : (p == q) = false) (hx : sh X 12 = 0) (hy : sh Y 12 = 0) (hge : Y ≤ X) (h0 : 0 ≤ Y) (ht : X < top12) (hV : (if p then -(X - Y) else X - Y) = V) (w : World) :
    Calls Try.prog 41 #[.agg (numC p (d12 X)), .agg (numC q (d12 Y))] w fun e w' => e = .returned (.agg (numI V)) ∧ Kp w w' := by
  have hz : sh (X - Y) 12 = 0 := sh12_zero (by omega) (by omega)
  have hc := fun (w : World) => carried_num p (subE X Y 12) (X - Y) (subE_len X Y 12) (by rw [subE_all, hv_d12 hz]) (by rw [subE_all]; exact d12_bd) (by omega) w
  rw [hV] at hc
  have HC := Lib.hid hc
  have hs := fun (w : World) => size_num p q X Y hx hy w
  have hcp : 0 ≤ cmpI X Y := by unfold cmpI; rw [if_neg (by omega)]; split <;> omega
  generalize cmpI X Y = c at *
  have HS := Lib.hid hs
  have HB := Lib.hid (bo_top hx hy hz)
  clear hc hx hy ht hV hs hz hge h0
  go_enter Try.func41, Try.ntmps41
  go_upto_region 1 with fail
  obtain ⟨W, hW⟩ : ∃ W, ((w.alloc (.cells (numC p (d12 X)) 69)).alloc (.cells (numC q (d12 Y)) 69)).alloc (.cells #[.bool false, .int .i64 0, .int .i64 0, .int .i64 0, .int .i64 0, .int .i64 0, .int .i64 0, .int .i64 0, .int .i64 0, .int .i64 0, .int .i64 0, .int .i64 0, .int .i64 0] 69) = W := ⟨_, rfl⟩
  have hx : NumB W w.heap.size p (d12 X) := by rw [← hW]; exact ((NumB.new w _ _ (d12_length _)).a _).a _
  have hy : NumB W (w.heap.size + 1) q (d12 Y) := by
    rw [← hW]
    have h := (NumB.new (w.alloc (.cells (numC p (d12 X)) 69)) q (d12 Y) (d12_length _)).a (.cells #[.bool false, .int .i64 0, .int .i64 0, .int .i64 0, .int .i64 0, .int .i64 0, .int .i64 0, .int .i64 0, .int .i64 0, .int .i64 0, .int .i64 0, .int .i64 0, .int .i64 0] 69)
    rwa [World.size_alloc] at h
  have hr : NumB W (w.heap.size + 1 + 1) false numZ := by
    rw [← hW]
    have h := NumB.new ((w.alloc (.cells (numC p (d12 X)) 69)).alloc (.cells (numC q (d12 Y)) 69)) false numZ rfl
    rwa [World.size_alloc, World.size_alloc] at h
  have hk : Kp w W := by rw [← hW]; exact kp_alloc (kp_alloc (kp_alloc (kp_refl _) _) _) _
  rw [hW]; clear hW
  have s0 := hx.sgn
  have s1 := hy.sgn
  have HX := Lib.hid hx
  have HY := Lib.hid hy
  have HR := Lib.hid hr
  have HK := Lib.hid hk
  clear hx hy hr hk
  go_wp2_with (first
    | ((with_reducible refine at_slot 30 ?_); refine wpList_load_row rfl 69 _ rfl (w.heap.size) rfl 69 _ (0, 0) _ HX.out.1 Try.underlying69 rfl (info_num' (d12_length X)) ?_)
    | ((with_reducible refine at_slot 31 ?_); refine wpList_load_row rfl 69 _ rfl (w.heap.size + 1) rfl 69 _ (0, 0) _ HY.out.1 Try.underlying69 rfl (info_num' (d12_length Y)) ?_)
    | (go_at_call 62; refine (HS.out _).mono ?_; rintro e w2 ⟨rfl, hk⟩; have x2 := HX.out.kp hk; rw [← subE_zero X Y] at x2; have X2 := Lib.hid x2; have Y2 := Lib.hid (HY.out.kp hk); have R2 := Lib.hid (HR.out.kp hk); have K2 := Lib.hid (kp_trans HK.out hk); clear hk x2))
  go_loopw [6] (fun i wr => ∃ k : Nat, k ≤ 12 ∧ i = .int .i64 k ∧ NumB wr w.heap.size p (subE X Y k) ∧ NumB wr (w.heap.size + 1) q (d12 Y) ∧ NumB wr (w.heap.size + 1 + 1) false numZ ∧ Kp w wr) (fun i _ => 12 - (intOf i).toNat)
  case atStart => exact ⟨0, by omega, rfl, X2.out, Y2.out, R2.out, K2.out⟩
  case round =>
    obtain ⟨k, hk, rfl, hx, hy, hr, hkp⟩ := hrel
    clear HX HY HR HK X2 Y2 R2 K2
    by_cases hlt : k < 12
    · have b1 : 0 ≤ (k : Int) := by omega
      have b2 : (k : Int) < 12 := by omega
      have x0 := hx.cell k (by rw [subE_len]; omega)
      have x1 := hy.cell k (by rw [d12_length]; omega)
      rw [subE_get] at x0
      rw [d12_get] at x1
      have y0 := hx.froz (1 + k)
      have bx := dg_bd X k
      have bY := dg_bd Y k
      have bz := dg_bd (X - Y) k
      have bb := bo_bd X Y k
      have bs := bo_step X Y k
      by_cases hb : bo X Y (k + 1) = 0
      · have hpos : 0 ≤ dg X k - bo X Y k - dg Y k := by omega
        have hx2 := hx.set k (dg X k - bo X Y k - dg Y k)
        rw [subE_next0 hb] at hx2
        have hX := Lib.hid hx2
        have hY := Lib.hid (hy.off (a := ⟨w.heap.size, 1 + k, none⟩) (.int .i64 (dg X k - bo X Y k - dg Y k)) (by simp))
        have hR := Lib.hid (hr.off (a := ⟨w.heap.size, 1 + k, none⟩) (.int .i64 (dg X k - bo X Y k - dg Y k)) (by simp; omega))
        have hK := Lib.hid (kp_set hkp (a := ⟨w.heap.size, 1 + k, none⟩) (by simp) (.int .i64 (dg X k - bo X Y k - dg Y k)))
        have ba : -1 ≤ dg X k - bo X Y k ∧ dg X k - bo X Y k < 65536 := by omega
        clear hx hy hr hkp hx2 bs bz bb hb bx
        generalize dg X k - bo X Y k = a at *
        generalize dg Y k = b at *
        go_wp2_with fail
        go_region
        go_wp2_with fail
        exact ⟨⟨k + 1, by omega, by go_num, hX.out.drew, hY.out.drew, hR.out.drew, kp_drew hK.out⟩, by simp [intOf]; omega⟩
      · have hb1 : bo X Y (k + 1) = 1 := by have := bo_bd X Y (k + 1); omega
        have hk11 : k < 11 := by
          rcases Nat.lt_or_ge k 11 with h | h
          · exact h
          · exfalso
            obtain rfl : k = 11 := by omega
            have h2 : bo X Y (11 + 1) = 0 := HB.out
            omega
        have b3 : (k : Int) < 11 := by omega
        have b4 : 0 ≤ (k : Int) + 1 ∧ (k : Int) + 1 < 12 := by omega
        have wt : ((k : Int) + 1).toNat = k + 1 := by omega
        have hneg : dg X k - bo X Y k - dg Y k < 0 := by omega
        have x2 := hx.cell (k + 1) (by rw [subE_len]; omega)
        rw [subE_get1] at x2
        have y1 := hx.froz (1 + (k + 1))
        have bx2 := dg_bd X (k + 1)
        have hx2 := ((hx.set k (dg X k - bo X Y k - dg Y k)).set k (dg X k - bo X Y k - dg Y k + 65536)).set (k + 1) (dg X (k + 1) - 1)
        rw [subE_next1 hb1] at hx2
        have hX := Lib.hid hx2
        have hY := Lib.hid (((hy.off (a := ⟨w.heap.size, 1 + k, none⟩) (.int .i64 (dg X k - bo X Y k - dg Y k)) (by simp)).off (a := ⟨w.heap.size, 1 + k, none⟩) (.int .i64 (dg X k - bo X Y k - dg Y k + 65536)) (by simp)).off (a := ⟨w.heap.size, 1 + (k + 1), none⟩) (.int .i64 (dg X (k + 1) - 1)) (by simp))
        have hR := Lib.hid (((hr.off (a := ⟨w.heap.size, 1 + k, none⟩) (.int .i64 (dg X k - bo X Y k - dg Y k)) (by simp; omega)).off (a := ⟨w.heap.size, 1 + k, none⟩) (.int .i64 (dg X k - bo X Y k - dg Y k + 65536)) (by simp; omega)).off (a := ⟨w.heap.size, 1 + (k + 1), none⟩) (.int .i64 (dg X (k + 1) - 1)) (by simp; omega))
        have hK := Lib.hid (kp_set (kp_set (kp_set hkp (a := ⟨w.heap.size, 1 + k, none⟩) (by simp) (.int .i64 (dg X k - bo X Y k - dg Y k))) (a := ⟨w.heap.size, 1 + k, none⟩) (by simp) (.int .i64 (dg X k - bo X Y k - dg Y k + 65536))) (a := ⟨w.heap.size, 1 + (k + 1), none⟩) (by simp) (.int .i64 (dg X (k + 1) - 1)))
        have ba : -1 ≤ dg X k - bo X Y k ∧ dg X k - bo X Y k < 65536 := by omega
        clear hx hy hr hkp hx2 bs bz bb hb hb1 bx
        generalize dg X k - bo X Y k = a at *
        generalize dg Y k = b at *
        generalize dg X (k + 1) = d at *
        go_wp2_with fail
        go_region
        go_wp2_with fail
        exact ⟨⟨k + 1, by omega, by go_num, hX.out.drew, hY.out.drew, hR.out.drew, kp_drew hK.out⟩, by simp [intOf]; omega⟩
    · obtain rfl : k = 12 := by omega
      have hX := Lib.hid hx
      have hR := Lib.hid hr
      have hK := Lib.hid hkp
      clear hx hy hr hkp
      go_wp2_with (first
        | ((with_reducible refine at_slot 80 ?_); refine wpList_load_row rfl 69 _ rfl (w.heap.size) rfl 69 _ (0, 0) _ hX.out.1 Try.underlying69 rfl (info_num' (subE_len X Y 12)) ?_)
        | (go_at_call 43; refine (HC.out _).mono ?_; rintro e w2 ⟨rfl, hk⟩; have r2 := Lib.hid (hR.out.kp hk); have k2 := Lib.hid (kp_trans hK.out hk); clear hk)
        | ((with_reducible refine at_store 69 ?_); refine wpList_store_row rfl 69 _ _ rfl (w.heap.size + 1 + 1) (numI (V)) rfl rfl 69 _ r2.out.1 (info_numI _) (by rw [numC_size r2.out.2]; exact (numC_size (d12_length _)).symm) (numC_one _ _) ?_))
      refine bodyPost_ret (v := .agg (numI (V))) (results_cell_row rfl _ _ (w.heap.size + 1 + 1) 69 _ (0, 0) _ rfl (setRow_heap _ _ _ _ _ _ r2.out.1) Try.underlying69 rfl (info_numI _)) rfl ?_
      exact ⟨rfl, kp_row k2.out (by omega) _⟩
set_option maxHeartbeats 8000000 in
set_option maxRecDepth 100000 in
theorem plus_lt (p q : Bool) (X Y V : Int) (hpq : (p == q) = false) (hx : sh X 12 = 0) (hy : sh Y 12 = 0) (hlt : X < Y) (h0 : 0 ≤ X) (ht : Y < top12) (hV : (if q then -(Y - X) else Y - X) = V) (w : World) :
    Calls Try.prog 41 #[.agg (numC p (d12 X)), .agg (numC q (d12 Y))] w fun e w' => e = .returned (.agg (numI V)) ∧ Kp w w' := by
  have hc := fun (w : World) => plus_ge q p Y X V (by rw [← hpq]; cases p <;> cases q <;> rfl) hy hx (by omega) h0 ht hV w
  have HC := Lib.hid hc
  have hs := fun (w : World) => size_num p q X Y hx hy w
  rw [cmpI_lt hlt] at hs
  have HS := Lib.hid hs
  clear hc hx hy ht hV hs hlt h0
  go_enter Try.func41, Try.ntmps41
  go_upto_region 1 with fail
  obtain ⟨W, hW⟩ : ∃ W, ((w.alloc (.cells (numC p (d12 X)) 69)).alloc (.cells (numC q (d12 Y)) 69)).alloc (.cells #[.bool false, .int .i64 0, .int .i64 0, .int .i64 0, .int .i64 0, .int .i64 0, .int .i64 0, .int .i64 0, .int .i64 0, .int .i64 0, .int .i64 0, .int .i64 0, .int .i64 0] 69) = W := ⟨_, rfl⟩
  have hx : NumB W w.heap.size p (d12 X) := by rw [← hW]; exact ((NumB.new w _ _ (d12_length _)).a _).a _
  have hy : NumB W (w.heap.size + 1) q (d12 Y) := by
    rw [← hW]
    have h := (NumB.new (w.alloc (.cells (numC p (d12 X)) 69)) q (d12 Y) (d12_length _)).a (.cells #[.bool false, .int .i64 0, .int .i64 0, .int .i64 0, .int .i64 0, .int .i64 0, .int .i64 0, .int .i64 0, .int .i64 0, .int .i64 0, .int .i64 0, .int .i64 0, .int .i64 0] 69)
    rwa [World.size_alloc] at h
  have hr : NumB W (w.heap.size + 1 + 1) false numZ := by
    rw [← hW]
    have h := NumB.new ((w.alloc (.cells (numC p (d12 X)) 69)).alloc (.cells (numC q (d12 Y)) 69)) false numZ rfl
    rwa [World.size_alloc, World.size_alloc] at h
  have hk : Kp w W := by rw [← hW]; exact kp_alloc (kp_alloc (kp_alloc (kp_refl _) _) _) _
  rw [hW]; clear hW
  have s0 := hx.sgn
  have s1 := hy.sgn
  have HX := Lib.hid hx
  have HY := Lib.hid hy
  have HR := Lib.hid hr
  have HK := Lib.hid hk
  clear hx hy hr hk
  go_wp2_with (first
    | ((with_reducible refine at_slot 30 ?_); refine wpList_load_row rfl 69 _ rfl (w.heap.size) rfl 69 _ (0, 0) _ HX.out.1 Try.underlying69 rfl (info_num' (d12_length X)) ?_)
    | ((with_reducible refine at_slot 31 ?_); refine wpList_load_row rfl 69 _ rfl (w.heap.size + 1) rfl 69 _ (0, 0) _ HY.out.1 Try.underlying69 rfl (info_num' (d12_length Y)) ?_)
    | (go_at_call 62; refine (HS.out _).mono ?_; rintro e w2 ⟨rfl, hk⟩; have X2 := Lib.hid (HX.out.kp hk); have Y2 := Lib.hid (HY.out.kp hk); have R2 := Lib.hid (HR.out.kp hk); have K2 := Lib.hid (kp_trans HK.out hk); clear hk)
    | ((with_reducible refine at_slot 34 ?_); refine wpList_load_row rfl 69 _ rfl (w.heap.size + 1) rfl 69 _ (0, 0) _ Y2.out.1 Try.underlying69 rfl (info_num' (d12_length Y)) ?_)
    | ((with_reducible refine at_slot 35 ?_); refine wpList_load_row rfl 69 _ rfl (w.heap.size) rfl 69 _ (0, 0) _ X2.out.1 Try.underlying69 rfl (info_num' (d12_length X)) ?_)
    | (go_at_call 41; refine (HC.out _).mono ?_; rintro e w3 ⟨rfl, hk⟩; have r2 := Lib.hid (R2.out.kp hk); have k2 := Lib.hid (kp_trans K2.out hk); clear hk)
    | ((with_reducible refine at_store 69 ?_); refine wpList_store_row rfl 69 _ _ rfl (w.heap.size + 1 + 1) (numI (V)) rfl rfl 69 _ r2.out.1 (info_numI _) (by rw [numC_size r2.out.2]; exact (numC_size (d12_length _)).symm) (numC_one _ _) ?_))
  refine bodyPost_ret (v := .agg (numI (V))) (results_cell_row rfl _ _ (w.heap.size + 1 + 1) 69 _ (0, 0) _ rfl (setRow_heap _ _ _ _ _ _ r2.out.1) Try.underlying69 rfl (info_numI _)) rfl ?_
  exact ⟨rfl, kp_row k2.out (by omega) _⟩
theorem plus_any (U V : Int) (h : (U.natAbs : Int) + V.natAbs < top12) (w : World) :
    Calls Try.prog 41 #[.agg (numI U), .agg (numI V)] w fun e w' => e = .returned (.agg (numI (U + V))) ∧ Kp w w' := by
  have hU : sh (U.natAbs : Int) 12 = 0 := sh12_zero (by omega) (by omega)
  have hV : sh (V.natAbs : Int) 12 = 0 := sh12_zero (by omega) (by omega)
  unfold numI
  by_cases hu : U < 0 <;> by_cases hv : V < 0
  · simp only [hu, hv, decide_true]
    exact plus_same true _ _ (U + V) hU hV h (by simp; omega) w
  · simp only [hu, hv, decide_true, decide_false]
    rcases Int.lt_or_le (U.natAbs : Int) V.natAbs with k | k
    · exact plus_lt true false _ _ (U + V) rfl hU hV k (by omega) (by omega) (by simp; omega) w
    · exact plus_ge true false _ _ (U + V) rfl hU hV k (by omega) (by omega) (by simp; omega) w
  · simp only [hu, hv, decide_true, decide_false]
    rcases Int.lt_or_le (U.natAbs : Int) V.natAbs with k | k
    · exact plus_lt false true _ _ (U + V) rfl hU hV k (by omega) (by omega) (by simp; omega) w
    · exact plus_ge false true _ _ (U + V) rfl hU hV k (by omega) (by omega) (by simp; omega) w
  · simp only [hu, hv, decide_false]
    exact plus_same false _ _ (U + V) hU hV h (by simp; omega) w
end Go.Proofs.Ytcmijedhjebpkaa
