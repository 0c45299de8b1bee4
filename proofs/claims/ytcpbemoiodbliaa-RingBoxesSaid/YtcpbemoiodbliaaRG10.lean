/- Contracts: least and Sign, of the program and of the reference. -/
import Derived.Test.YtcpbemoiodbliaaRG1
import Derived.Test.YtcpbemoiodbliaaCM
import Derived.Test.YtcpbemoiodbliaaMP
import Derived.Deep.DeepCutAuto
namespace Go.Proofs.Ytcpbemoiodbliaa
open Go.RowKit Go.Proofs.Geo
set_option linter.unusedVariables false
set_option maxHeartbeats 8000000 in
set_option maxRecDepth 100000 in
theorem least_any (b off len cap : Nat) (l : List Pt) (w : World) (hp : PtsAt w b off l) (hlen : len = l.length) (h0 : 0 < len) (hl : len ≤ 100000) : Calls Try.prog 47 #[.slice (some ⟨b, off, none⟩) len cap] w fun e w' => e = .returned (.int .i64 (leastN l : Nat)) ∧ Kp w w' := by
  have HP := Lib.hid hp
  have HL := Lib.hid hlen
  clear hp hlen
  go_enter Try.func47, Try.ntmps47
  go_wp2_with fail
  go_loopw [3, 8] (fun s i wr => ∃ k : Nat, k ≤ len ∧ i = .int .i64 k ∧ s = .int .i64 (leastK l k : Nat) ∧ Kp w wr) (fun _ i _ => len - (intOf i).toNat)
  case atStart => exact ⟨0, by omega, rfl, rfl, kp_refl _⟩
  case round =>
    obtain ⟨k, hk, rfl, rfl, hkp⟩ := hrel
    by_cases hlt : k < len
    · have hkl : k < l.length := by rw [← HL.out]; exact hlt
      have hml : leastK l k < len := by
        rcases Nat.eq_zero_or_pos k with rfl | h
        · exact h0
        · have := leastK_lt l k h; omega
      obtain ⟨y0, y1⟩ := pt_lt (HP.out.kp hkp) hkl
      obtain ⟨q0, q1⟩ := pt_lt (HP.out.kp hkp) (show leastK l k < l.length by rw [← HL.out]; exact hml)
      have hs : leastK l (k + 1) = if cmpP (pt l k) (pt l (leastK l k)) < 0 then k else leastK l k := rfl
      obtain ⟨m, hm⟩ : ∃ m, leastK l k = m := ⟨_, rfl⟩
      rw [hm] at hml q0 q1 hs ⊢
      obtain ⟨x, hx⟩ : ∃ x, (pt l k).1 = x := ⟨_, rfl⟩
      obtain ⟨y, hy⟩ : ∃ x, (pt l k).2 = x := ⟨_, rfl⟩
      obtain ⟨z, hz⟩ : ∃ x, (pt l m).1 = x := ⟨_, rfl⟩
      obtain ⟨u, hu⟩ : ∃ x, (pt l m).2 = x := ⟨_, rfl⟩
      have hpk : pt l k = (x, y) := by rw [← hx, ← hy]
      have hpm : pt l m = (z, u) := by rw [← hz, ← hu]
      rw [hx] at y0; rw [hy] at y1; rw [hz] at q0; rw [hu] at q1
      rw [hpk, hpm] at hs
      have cm := fun w => compare_any x y z u w
      obtain ⟨T, hT⟩ : ∃ T, cmpP (x, y) (z, u) = T := ⟨_, rfl⟩
      rw [hT] at cm hs
      have CM := Lib.hid cm; have HSU := Lib.hid hs; have HK := Lib.hid hkp
      have lb : b < wr.heap.size := cell_lt y0
      have c1 : (0 : Int) ≤ (k : Int) := by omega
      have c2 : (k : Int) < (len : Int) := by omega
      have c3 : (0 : Int) ≤ (m : Int) := by omega
      have c4 : (m : Int) < (len : Int) := by omega
      clear cm hs hT hx hy hz hu hpk hpm hm hkp
      go_upto_region 5 with fail
      obtain ⟨WP, hWP⟩ : ∃ W, wr.alloc (.cells #[.int .i64 x, .int .i64 y] 25) = W := ⟨_, rfl⟩
      have p0 : WP.cell? ⟨wr.heap.size, 0, none⟩ = some (.int .i64 x) := by rw [← hWP]; simp [go_sem]
      have p1 : WP.cell? ⟨wr.heap.size, 1, none⟩ = some (.int .i64 y) := by rw [← hWP]; simp [go_sem]
      replace q0 : WP.cell? ⟨b, off + m * 2, none⟩ = some (.int .i64 z) := by rw [← hWP]; exact cell_a q0 _
      replace q1 : WP.cell? ⟨b, off + m * 2 + 1, none⟩ = some (.int .i64 u) := by rw [← hWP]; exact cell_a q1 _
      have K0 : Kp wr WP := by rw [← hWP]; exact kp_alloc (kp_refl _) _
      replace lb : b < WP.heap.size := cell_lt q0
      have lp : wr.heap.size < WP.heap.size := cell_lt p0
      have K : Kp WP WP := kp_refl _
      rw [hWP]
      clear hWP y0 y1
      go_region_held3 (fun w' => Kp WP w' ∧ w'.cell? ⟨wr.heap.size, 0, none⟩ = some (.int .i64 x) ∧ w'.cell? ⟨wr.heap.size, 1, none⟩ = some (.int .i64 y) ∧ w'.cell? ⟨b, off + m * 2, none⟩ = some (.int .i64 z) ∧ w'.cell? ⟨b, off + m * 2 + 1, none⟩ = some (.int .i64 u)) ((first | (with_reducible exact ⟨K, p0, p1, q0, q1⟩) | (with_reducible exact ⟨kp_drew K, cell_d p0, cell_d p1, cell_d q0, cell_d q1⟩)))
        (first
          | (go_at_call 31; refine (CM.out _).mono ?_; rintro e w2 ⟨rfl, hk⟩; replace p0 : w2.cell? ⟨wr.heap.size, 0, none⟩ = some (.int .i64 x) := kp_cell hk (by first | exact p0 | exact cell_d p0 | exact cell_a p0 _ | exact cell_a (cell_d p0) _); replace p1 : w2.cell? ⟨wr.heap.size, 1, none⟩ = some (.int .i64 y) := kp_cell hk (by first | exact p1 | exact cell_d p1 | exact cell_a p1 _ | exact cell_a (cell_d p1) _); replace q0 : w2.cell? ⟨b, off + m * 2, none⟩ = some (.int .i64 z) := kp_cell hk (by first | exact q0 | exact cell_d q0 | exact cell_a q0 _ | exact cell_a (cell_d q0) _); replace q1 : w2.cell? ⟨b, off + m * 2 + 1, none⟩ = some (.int .i64 u) := kp_cell hk (by first | exact q1 | exact cell_d q1 | exact cell_a q1 _ | exact cell_a (cell_d q1) _); replace K : Kp WP w2 := kp_trans (by first | exact K | exact kp_drew K | exact kp_alloc K _ | exact kp_alloc (kp_drew K) _) hk; clear hk))
      by_cases hc : T < 0
      · have HE := Lib.hid (show leastK l (k + 1) = k by rw [HSU.out, if_pos hc])
        go_wp2_with fail
        exact ⟨⟨k + 1, by omega, by go_num, by rw [HE.out], kp_trans HK.out (kp_trans K0 K)⟩, by simp [intOf]; omega⟩
      · have HE := Lib.hid (show leastK l (k + 1) = m by rw [HSU.out, if_neg hc])
        go_wp2_with fail
        exact ⟨⟨k + 1, by omega, by go_num, by rw [HE.out], kp_trans HK.out (kp_trans K0 K)⟩, by simp [intOf]; omega⟩
    · obtain rfl : k = len := by omega
      have HLN := Lib.hid (show leastK l k = leastN l by unfold leastN; rw [HL.out])
      go_wp2_with fail
      go_ret
      exact ⟨by rw [← HLN.out]; rfl, hkp⟩
set_option linter.unusedVariables false
set_option maxHeartbeats 8000000 in
set_option maxRecDepth 100000 in
theorem least9_any (b off len cap : Nat) (l : List Pt) (w : World) (hp : PtsAt w b off l) (hlen : len = l.length) (h0 : 0 < len) (hl : len ≤ 100000) : Calls Try.prog 52 #[.slice (some ⟨b, off, none⟩) len cap] w fun e w' => e = .returned (.int .i64 (leastN l : Nat)) ∧ Kp w w' := by
  have HP := Lib.hid hp
  have HL := Lib.hid hlen
  clear hp hlen
  go_enter Try.func52, Try.ntmps52
  go_wp2_with fail
  go_loopw [3, 4] (fun s i wr => ∃ k : Nat, k ≤ len ∧ i = .int .i64 k ∧ s = .int .i64 (leastK l k : Nat) ∧ Kp w wr) (fun _ i _ => len - (intOf i).toNat)
  case atStart => exact ⟨0, by omega, rfl, rfl, kp_refl _⟩
  case round =>
    obtain ⟨k, hk, rfl, rfl, hkp⟩ := hrel
    by_cases hlt : k < len
    · have hkl : k < l.length := by rw [← HL.out]; exact hlt
      have hml : leastK l k < len := by
        rcases Nat.eq_zero_or_pos k with rfl | h
        · exact h0
        · have := leastK_lt l k h; omega
      obtain ⟨y0, y1⟩ := pt_lt (HP.out.kp hkp) hkl
      obtain ⟨q0, q1⟩ := pt_lt (HP.out.kp hkp) (show leastK l k < l.length by rw [← HL.out]; exact hml)
      have hs : leastK l (k + 1) = if cmpP (pt l k) (pt l (leastK l k)) < 0 then k else leastK l k := rfl
      obtain ⟨m, hm⟩ : ∃ m, leastK l k = m := ⟨_, rfl⟩
      rw [hm] at hml q0 q1 hs ⊢
      obtain ⟨x, hx⟩ : ∃ x, (pt l k).1 = x := ⟨_, rfl⟩
      obtain ⟨y, hy⟩ : ∃ x, (pt l k).2 = x := ⟨_, rfl⟩
      obtain ⟨z, hz⟩ : ∃ x, (pt l m).1 = x := ⟨_, rfl⟩
      obtain ⟨u, hu⟩ : ∃ x, (pt l m).2 = x := ⟨_, rfl⟩
      have hpk : pt l k = (x, y) := by rw [← hx, ← hy]
      have hpm : pt l m = (z, u) := by rw [← hz, ← hu]
      rw [hx] at y0; rw [hy] at y1; rw [hz] at q0; rw [hu] at q1
      rw [hpk, hpm] at hs
      have cm := fun w => rcompare_any x y z u w
      obtain ⟨T, hT⟩ : ∃ T, cmpP (x, y) (z, u) = T := ⟨_, rfl⟩
      rw [hT] at cm hs
      have CM := Lib.hid cm; have HSU := Lib.hid hs; have HK := Lib.hid hkp
      have lb : b < wr.heap.size := cell_lt y0
      have c1 : (0 : Int) ≤ (k : Int) := by omega
      have c2 : (k : Int) < (len : Int) := by omega
      have c3 : (0 : Int) ≤ (m : Int) := by omega
      have c4 : (m : Int) < (len : Int) := by omega
      clear cm hs hT hx hy hz hu hpk hpm hm hkp
      go_upto_region 5 with fail
      have p0 := y0
      have p1 := y1
      have K : Kp wr wr := kp_refl _
      clear y0 y1
      go_region_held3 (fun w' => Kp wr w' ∧ w'.cell? ⟨b, off + k * 2, none⟩ = some (.int .i64 x) ∧ w'.cell? ⟨b, off + k * 2 + 1, none⟩ = some (.int .i64 y) ∧ w'.cell? ⟨b, off + m * 2, none⟩ = some (.int .i64 z) ∧ w'.cell? ⟨b, off + m * 2 + 1, none⟩ = some (.int .i64 u)) ((first | (with_reducible exact ⟨K, p0, p1, q0, q1⟩) | (with_reducible exact ⟨kp_drew K, cell_d p0, cell_d p1, cell_d q0, cell_d q1⟩)))
        (first
          | (go_at_call 71; refine (CM.out _).mono ?_; rintro e w2 ⟨rfl, hk⟩; replace p0 : w2.cell? ⟨b, off + k * 2, none⟩ = some (.int .i64 x) := kp_cell hk (by first | exact p0 | exact cell_d p0 | exact cell_a p0 _ | exact cell_a (cell_d p0) _); replace p1 : w2.cell? ⟨b, off + k * 2 + 1, none⟩ = some (.int .i64 y) := kp_cell hk (by first | exact p1 | exact cell_d p1 | exact cell_a p1 _ | exact cell_a (cell_d p1) _); replace q0 : w2.cell? ⟨b, off + m * 2, none⟩ = some (.int .i64 z) := kp_cell hk (by first | exact q0 | exact cell_d q0 | exact cell_a q0 _ | exact cell_a (cell_d q0) _); replace q1 : w2.cell? ⟨b, off + m * 2 + 1, none⟩ = some (.int .i64 u) := kp_cell hk (by first | exact q1 | exact cell_d q1 | exact cell_a q1 _ | exact cell_a (cell_d q1) _); replace K : Kp wr w2 := kp_trans (by first | exact K | exact kp_drew K | exact kp_alloc K _ | exact kp_alloc (kp_drew K) _) hk; clear hk))
      by_cases hc : T < 0
      · have HE := Lib.hid (show leastK l (k + 1) = k by rw [HSU.out, if_pos hc])
        go_wp2_with fail
        exact ⟨⟨k + 1, by omega, by go_num, by rw [HE.out], kp_trans HK.out K⟩, by simp [intOf]; omega⟩
      · have HE := Lib.hid (show leastK l (k + 1) = m by rw [HSU.out, if_neg hc])
        go_wp2_with fail
        exact ⟨⟨k + 1, by omega, by go_num, by rw [HE.out], kp_trans HK.out K⟩, by simp [intOf]; omega⟩
    · obtain rfl : k = len := by omega
      have HLN := Lib.hid (show leastK l k = leastN l by unfold leastN; rw [HL.out])
      go_wp2_with fail
      go_ret
      exact ⟨by rw [← HLN.out]; rfl, hkp⟩
theorem fld_err (e q : Int) (w : World) : (Instr.field 28 (.agg #[.int .i64 e, .int .i64 q]) 0).run Try.prog w = .ok (.int .i64 e) w := by kernel_rfl
set_option maxHeartbeats 8000000 in
set_option maxRecDepth 100000 in
theorem ringSign_of (hck : ∀ (v : Value) (l : List Pt) (w : World), RdC w v l → l.length ≤ 100000 → Calls Try.prog 12 #[v] w fun e w' => e = .returned (.agg #[.int .i64 (chk l).1, .int .i64 (chk l).2]) ∧ Kp w w')
    (v : Value) (l : List Pt) (w : World) (h : RdC w v l) (hl : l.length ≤ 100000) : Calls Try.prog 18 #[v] w fun e w' => e = .returned (.int .i64 (signR l)) ∧ Kp w w' := by
  have hc := fun w h => hck v l w h hl
  obtain ⟨e, he⟩ : ∃ e, (chk l).1 = e := ⟨_, rfl⟩
  rw [he] at hc
  generalize (chk l).2 = q at hc
  have HC := Lib.hid hc
  have HR := Lib.hid h
  by_cases h0 : e = 0
  · have hok : okR l = true := decide_eq_true (by rw [he]; exact h0)
    have h3 := okR_iff.1 hok
    obtain ⟨_, ⟨_, hn⟩ | ⟨b, off, cap, rfl, hp⟩⟩ := h.rd (by rintro rfl; simp at h3)
    · rw [hn] at h3; simp at h3
    obtain ⟨len, hlen⟩ : ∃ n, l.length = n := ⟨_, rfl⟩
    have hsg : signR l = turn (rat l ((leastN l : Int) - 1)) (pt l (leastN l)) (rat l ((leastN l : Int) + 1)) := by unfold signR; rw [if_pos hok]
    have hm : leastN l < len := by rw [← hlen]; exact leastK_lt l _ (by omega)
    have cl := fun (w : World) hp => least_any b off len cap l w hp hlen.symm (by omega) (by omega)
    have ca := fun (i : Int) (w : World) hp => rat_any b off len cap l i w hp hlen.symm (by omega) (by omega)
    generalize leastN l = m at *
    have c1' := ca ((m : Int) - 1)
    have c2' := ca ((m : Int) + 1)
    have hml : m < l.length := by omega
    obtain ⟨x, hx⟩ : ∃ x, (pt l m).1 = x := ⟨_, rfl⟩
    obtain ⟨y, hy⟩ : ∃ x, (pt l m).2 = x := ⟨_, rfl⟩
    have hpm : pt l m = (x, y) := by rw [← hx, ← hy]
    have hcells := fun (w : World) (hp : PtsAt w b off l) => pt_lt hp hml
    rw [hx, hy] at hcells
    generalize rat l ((m : Int) - 1) = pa at *
    generalize rat l ((m : Int) + 1) = pb at *
    obtain ⟨ax, ay⟩ := pa
    obtain ⟨bx, bY⟩ := pb
    dsimp only at c1' c2'
    rw [hpm] at hsg
    have ct := fun w => turn_any ax ay x y bx bY w
    rw [← hsg] at ct
    generalize signR l = T at *
    have CL := Lib.hid cl; have CA := Lib.hid c1'; have CB := Lib.hid c2'; have CT := Lib.hid ct; have HP := Lib.hid hp; have HX := Lib.hid hcells
    have h200 : len ≤ 200 := by omega
    rw [hlen] at HC HR ⊢
    have b1 : (0 : Int) ≤ (m : Int) := by omega
    have b2 : (m : Int) < (len : Int) := by omega
    have wk1 : IntKind.i64.wrap ((m : Int) + 1) = (m : Int) + 1 := IntWalk.i64_in _ (by omega)
    have wk2 : IntKind.i64.wrap ((m : Int) - 1) = (m : Int) - 1 := IntWalk.i64_in _ (by omega)
    subst h0
    have hfl := fld_err 0 q
    clear hc h he hok h3 hp hlen hsg cl ca c1' c2' hml hx hy hpm hcells ct
    go_enter Try.func18, Try.ntmps18
    go_upto_region 4 with (first
      | (go_at_call 12; refine (HC.out _ HR.out).mono ?_; rintro e w1 ⟨rfl, hk⟩; have K1 := Lib.hid hk; clear hk)
      | (go_at_call 47; refine (CL.out _ (HP.out.kp K1.out)).mono ?_; rintro e w2 ⟨rfl, hk⟩; have K2 := Lib.hid (kp_trans K1.out hk); clear hk))
    obtain ⟨p0, p1⟩ := HX.out _ (HP.out.kp K2.out)
    have lb : b < w2.heap.size := cell_lt p0
    have K : Kp w2 w2 := kp_refl _
    go_region_held3 (fun w' => Kp w2 w' ∧ w'.cell? ⟨b, off + m * 2, none⟩ = some (.int .i64 x) ∧ w'.cell? ⟨b, off + m * 2 + 1, none⟩ = some (.int .i64 y)) ((first | (with_reducible exact ⟨K, p0, p1⟩) | (with_reducible exact ⟨kp_drew K, cell_d p0, cell_d p1⟩)))
      (first
        | (go_at_call 48; have CK3 := K3; refine (CB.out _ (HP.out.kp (kp_trans K2.out (by first | exact K | exact kp_drew K)))).mono ?_; rintro e w4 ⟨rfl, hk⟩; replace p0 : w4.cell? ⟨b, off + m * 2, none⟩ = some (.int .i64 x) := kp_cell hk (by first | exact p0 | exact cell_d p0 | exact cell_a p0 _ | exact cell_a (cell_d p0) _); replace p1 : w4.cell? ⟨b, off + m * 2 + 1, none⟩ = some (.int .i64 y) := kp_cell hk (by first | exact p1 | exact cell_d p1 | exact cell_a p1 _ | exact cell_a (cell_d p1) _); replace K : Kp w2 w4 := kp_trans (by first | exact K | exact kp_drew K | exact kp_alloc K _ | exact kp_alloc (kp_drew K) _) hk; replace lb : b < w4.heap.size := cell_lt p0; clear hk)
        | (go_at_call 48; refine (CA.out _ (HP.out.kp (kp_trans K2.out (by first | exact K | exact kp_drew K)))).mono ?_; rintro e w3 ⟨rfl, hk⟩; replace p0 : w3.cell? ⟨b, off + m * 2, none⟩ = some (.int .i64 x) := kp_cell hk (by first | exact p0 | exact cell_d p0 | exact cell_a p0 _ | exact cell_a (cell_d p0) _); replace p1 : w3.cell? ⟨b, off + m * 2 + 1, none⟩ = some (.int .i64 y) := kp_cell hk (by first | exact p1 | exact cell_d p1 | exact cell_a p1 _ | exact cell_a (cell_d p1) _); replace K : Kp w2 w3 := kp_trans (by first | exact K | exact kp_drew K | exact kp_alloc K _ | exact kp_alloc (kp_drew K) _) hk; replace lb : b < w3.heap.size := cell_lt p0; have K3 := Lib.hid K; clear hk)
        | (go_at_call 44; refine (CT.out _).mono ?_; rintro e w5 ⟨rfl, hk⟩; replace p0 : w5.cell? ⟨b, off + m * 2, none⟩ = some (.int .i64 x) := kp_cell hk (by first | exact p0 | exact cell_d p0 | exact cell_a p0 _ | exact cell_a (cell_d p0) _); replace p1 : w5.cell? ⟨b, off + m * 2 + 1, none⟩ = some (.int .i64 y) := kp_cell hk (by first | exact p1 | exact cell_d p1 | exact cell_a p1 _ | exact cell_a (cell_d p1) _); replace K : Kp w2 w5 := kp_trans (by first | exact K | exact kp_drew K | exact kp_alloc K _ | exact kp_alloc (kp_drew K) _) hk; clear hk))
    all_goals go_wp2_with fail
    all_goals go_ret
    all_goals exact ⟨rfl, kp_trans K2.out K⟩
  · have hs : signR l = 0 := by unfold signR okR; rw [he, decide_eq_false h0]; rfl
    have HSG := Lib.hid hs
    have t1 : (e != 0) = true := by simpa using h0
    have hfl := fld_err e q
    clear hc h he hs h0
    go_enter Try.func18, Try.ntmps18
    go_wp2_with (go_at_call 12; refine (HC.out _ HR.out).mono ?_; rintro e w1 ⟨rfl, hk⟩; have K1 := Lib.hid hk; clear hk)
    go_ret
    exact ⟨by rw [HSG.out]; rfl, K1.out⟩
set_option maxHeartbeats 8000000 in
set_option maxRecDepth 100000 in
theorem ringSign9_of (hck : ∀ (v : Value) (l : List Pt) (w : World), RdC w v l → l.length ≤ 100000 → Calls Try.prog 13 #[v] w fun e w' => e = .returned (.agg #[.int .i64 (chk l).1, .int .i64 (chk l).2]) ∧ Kp w w')
    (v : Value) (l : List Pt) (w : World) (h : RdC w v l) (hl : l.length ≤ 100000) : Calls Try.prog 24 #[v] w fun e w' => e = .returned (.int .i64 (signR l)) ∧ Kp w w' := by
  have hc := fun w h => hck v l w h hl
  obtain ⟨e, he⟩ : ∃ e, (chk l).1 = e := ⟨_, rfl⟩
  rw [he] at hc
  generalize (chk l).2 = q at hc
  have HC := Lib.hid hc
  have HR := Lib.hid h
  by_cases h0 : e = 0
  · have hok : okR l = true := decide_eq_true (by rw [he]; exact h0)
    have h3 := okR_iff.1 hok
    obtain ⟨_, ⟨_, hn⟩ | ⟨b, off, cap, rfl, hp⟩⟩ := h.rd (by rintro rfl; simp at h3)
    · rw [hn] at h3; simp at h3
    obtain ⟨len, hlen⟩ : ∃ n, l.length = n := ⟨_, rfl⟩
    have hsg : signR l = turn (rat l ((leastN l : Int) - 1)) (pt l (leastN l)) (rat l ((leastN l : Int) + 1)) := by unfold signR; rw [if_pos hok]
    have hm : leastN l < len := by rw [← hlen]; exact leastK_lt l _ (by omega)
    have cl := fun (w : World) hp => least9_any b off len cap l w hp hlen.symm (by omega) (by omega)
    have ca := fun (i : Int) (w : World) hp => rat9_any b off len cap l i w hp hlen.symm (by omega) (by omega)
    generalize leastN l = m at *
    have c1' := ca ((m : Int) - 1)
    have c2' := ca ((m : Int) + 1)
    have hml : m < l.length := by omega
    obtain ⟨x, hx⟩ : ∃ x, (pt l m).1 = x := ⟨_, rfl⟩
    obtain ⟨y, hy⟩ : ∃ x, (pt l m).2 = x := ⟨_, rfl⟩
    have hpm : pt l m = (x, y) := by rw [← hx, ← hy]
    have hcells := fun (w : World) (hp : PtsAt w b off l) => pt_lt hp hml
    rw [hx, hy] at hcells
    generalize rat l ((m : Int) - 1) = pa at *
    generalize rat l ((m : Int) + 1) = pb at *
    obtain ⟨ax, ay⟩ := pa
    obtain ⟨bx, bY⟩ := pb
    dsimp only at c1' c2'
    rw [hpm] at hsg
    have ct := fun w => rturn_any ax ay x y bx bY w
    rw [← hsg] at ct
    generalize signR l = T at *
    have CL := Lib.hid cl; have CA := Lib.hid c1'; have CB := Lib.hid c2'; have CT := Lib.hid ct; have HP := Lib.hid hp; have HX := Lib.hid hcells
    have h200 : len ≤ 200 := by omega
    rw [hlen] at HC HR ⊢
    have b1 : (0 : Int) ≤ (m : Int) := by omega
    have b2 : (m : Int) < (len : Int) := by omega
    have wk1 : IntKind.i64.wrap ((m : Int) + 1) = (m : Int) + 1 := IntWalk.i64_in _ (by omega)
    have wk2 : IntKind.i64.wrap ((m : Int) - 1) = (m : Int) - 1 := IntWalk.i64_in _ (by omega)
    subst h0
    have hfl := fld_err 0 q
    clear hc h he hok h3 hp hlen hsg cl ca c1' c2' hml hx hy hpm hcells ct
    go_enter Try.func24, Try.ntmps24
    go_upto_region 4 with (first
      | (go_at_call 13; refine (HC.out _ HR.out).mono ?_; rintro e w1 ⟨rfl, hk⟩; have K1 := Lib.hid hk; clear hk)
      | (go_at_call 52; refine (CL.out _ (HP.out.kp K1.out)).mono ?_; rintro e w2 ⟨rfl, hk⟩; have K2 := Lib.hid (kp_trans K1.out hk); clear hk))
    obtain ⟨p0, p1⟩ := HX.out _ (HP.out.kp K2.out)
    have lb : b < w2.heap.size := cell_lt p0
    have K : Kp w2 w2 := kp_refl _
    go_region_held3 (fun w' => Kp w2 w' ∧ w'.cell? ⟨b, off + m * 2, none⟩ = some (.int .i64 x) ∧ w'.cell? ⟨b, off + m * 2 + 1, none⟩ = some (.int .i64 y)) ((first | (with_reducible exact ⟨K, p0, p1⟩) | (with_reducible exact ⟨kp_drew K, cell_d p0, cell_d p1⟩)))
      (first
        | (go_at_call 54; have CK3 := K3; refine (CB.out _ (HP.out.kp (kp_trans K2.out (by first | exact K | exact kp_drew K)))).mono ?_; rintro e w4 ⟨rfl, hk⟩; replace p0 : w4.cell? ⟨b, off + m * 2, none⟩ = some (.int .i64 x) := kp_cell hk (by first | exact p0 | exact cell_d p0 | exact cell_a p0 _ | exact cell_a (cell_d p0) _); replace p1 : w4.cell? ⟨b, off + m * 2 + 1, none⟩ = some (.int .i64 y) := kp_cell hk (by first | exact p1 | exact cell_d p1 | exact cell_a p1 _ | exact cell_a (cell_d p1) _); replace K : Kp w2 w4 := kp_trans (by first | exact K | exact kp_drew K | exact kp_alloc K _ | exact kp_alloc (kp_drew K) _) hk; replace lb : b < w4.heap.size := cell_lt p0; clear hk)
        | (go_at_call 54; refine (CA.out _ (HP.out.kp (kp_trans K2.out (by first | exact K | exact kp_drew K)))).mono ?_; rintro e w3 ⟨rfl, hk⟩; replace p0 : w3.cell? ⟨b, off + m * 2, none⟩ = some (.int .i64 x) := kp_cell hk (by first | exact p0 | exact cell_d p0 | exact cell_a p0 _ | exact cell_a (cell_d p0) _); replace p1 : w3.cell? ⟨b, off + m * 2 + 1, none⟩ = some (.int .i64 y) := kp_cell hk (by first | exact p1 | exact cell_d p1 | exact cell_a p1 _ | exact cell_a (cell_d p1) _); replace K : Kp w2 w3 := kp_trans (by first | exact K | exact kp_drew K | exact kp_alloc K _ | exact kp_alloc (kp_drew K) _) hk; replace lb : b < w3.heap.size := cell_lt p0; have K3 := Lib.hid K; clear hk)
        | (go_at_call 53; refine (CT.out _).mono ?_; rintro e w5 ⟨rfl, hk⟩; replace p0 : w5.cell? ⟨b, off + m * 2, none⟩ = some (.int .i64 x) := kp_cell hk (by first | exact p0 | exact cell_d p0 | exact cell_a p0 _ | exact cell_a (cell_d p0) _); replace p1 : w5.cell? ⟨b, off + m * 2 + 1, none⟩ = some (.int .i64 y) := kp_cell hk (by first | exact p1 | exact cell_d p1 | exact cell_a p1 _ | exact cell_a (cell_d p1) _); replace K : Kp w2 w5 := kp_trans (by first | exact K | exact kp_drew K | exact kp_alloc K _ | exact kp_alloc (kp_drew K) _) hk; clear hk))
    all_goals go_wp2_with fail
    all_goals go_ret
    all_goals exact ⟨rfl, kp_trans K2.out K⟩
  · have hs : signR l = 0 := by unfold signR okR; rw [he, decide_eq_false h0]; rfl
    have HSG := Lib.hid hs
    have t1 : (e != 0) = true := by simpa using h0
    have hfl := fld_err e q
    clear hc h he hs h0
    go_enter Try.func24, Try.ntmps24
    go_wp2_with (go_at_call 13; refine (HC.out _ HR.out).mono ?_; rintro e w1 ⟨rfl, hk⟩; have K1 := Lib.hid hk; clear hk)
    go_ret
    exact ⟨by rw [HSG.out]; rfl, K1.out⟩
end Go.Proofs.Ytcpbemoiodbliaa
