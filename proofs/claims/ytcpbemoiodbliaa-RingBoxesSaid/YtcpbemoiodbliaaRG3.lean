/- Contract of ring.ahead. -/
import Derived.Test.YtcpbemoiodbliaaRG1
import Derived.Test.YtcpbemoiodbliaaMW
import Derived.Test.YtcpbemoiodbliaaMW
namespace Go.Proofs.Ytcpbemoiodbliaa
open Go.RowKit Go.Proofs.Geo
set_option linter.unusedVariables false
set_option maxHeartbeats 8000000 in
set_option maxRecDepth 100000 in
theorem bkS_any (b off len cap : Nat) (l : List Pt) (w : World) (hp : PtsAt w b off l) (hlen : len = l.length) (h0 : 0 < len) (hl : len ≤ 100000) : Calls Try.prog 36 #[.slice (some ⟨b, off, none⟩) len cap] w fun e w' => e = .returned (.tuple #[.agg #[.int .i64 (bkS l).1, .int .i64 (bkS l).2.1], .bool (bkS l).2.2]) ∧ Kp w w' := by
  have hv : bkS l = stg 192 (firstN (backB l) l.length) := rfl
  rw [hv]
  have ca := fun (i : Int) (w : World) hp => rat_any b off len cap l i w hp hlen h0 hl
  have HC := Lib.hid ca
  have HP := Lib.hid hp
  have HL := Lib.hid hlen
  clear hp hlen hv ca
  go_enter Try.func36, Try.ntmps36
  go_wp2_with fail
  go_loopw [10] (fun i wr => ∃ k : Nat, k ≤ len ∧ i = .int .i64 k ∧ FltB w wr ∧ ∀ j, j < k → backB l j = false) (fun i _ => len - (intOf i).toNat)
  case atStart => exact ⟨0, by omega, rfl, ⟨by simp [go_sem], by simp [go_sem], by simp [go_sem], by simp [go_sem], by simp, (by repeat (first | exact kp_refl _ | apply kp_alloc | apply kp_drew | apply kp_drewN))⟩, fun j h => by omega⟩
  case round =>
    obtain ⟨k, hk, rfl, hst, hall⟩ := hrel
    have HS := Lib.hid hst
    have HA := Lib.hid hall
    by_cases hlt : k < len
    · have hkl : k < l.length := by rw [← HL.out]; exact hlt
      obtain ⟨y0, y1⟩ := pt_lt (HP.out.kp hst.k) hkl
      have hbk : backB l k = (decide (turn (rat l ((k : Int) - 1)) (pt l k) (rat l ((k : Int) + 1)) = 0) && !onS (pt l k) (rat l ((k : Int) - 1)) (rat l ((k : Int) + 1))) := rfl
      have ca := HC.out ((k : Int) - 1)
      have cb := HC.out ((k : Int) + 1)
      generalize rat l ((k : Int) - 1) = pa at *
      generalize rat l ((k : Int) + 1) = pb at *
      generalize pt l k = pp at *
      obtain ⟨ax, ay⟩ := pa
      obtain ⟨bx, bY⟩ := pb
      obtain ⟨x, y⟩ := pp
      dsimp only at y0 y1 ca cb
      have ct := fun w => turn_any ax ay x y bx bY w
      have co := fun w => on_any x y ax ay bx bY w
      obtain ⟨T, hT⟩ : ∃ T, turn (ax, ay) (x, y) (bx, bY) = T := ⟨_, rfl⟩
      rw [hT] at ct hbk
      have CA := Lib.hid ca; have CB := Lib.hid cb; have CT := Lib.hid ct
      have lb : b < wr.heap.size := cell_lt y0
      have lz := hst.lt
      have c1 : (0 : Int) ≤ (k : Int) := by omega
      have c2 : (k : Int) < (len : Int) := by omega
      have HPA : Hid (PtsAt (wr.alloc (.cells #[.int .i64 x, .int .i64 y] 25)) b off l) := Lib.hid (HP.out.kp (kp_trans hst.k (kp_alloc (kp_refl _) _)))
      clear ca cb ct hT hst hall
      by_cases h0 : T = 0
      · subst h0
        cases ho : onS (x, y) (ax, ay) (bx, bY)
        · rw [ho] at hbk co
          have hf : firstN (backB l) l.length = some k := firstN_some hkl hbk HA.out
          have HF := Lib.hid hf
          have CO := Lib.hid co
          clear hf hbk co ho
          go_wp2_with (first
            | (go_at_call 48; (with_reducible refine (CA.out _ HPA.out).mono ?_); rintro e w2 ⟨rfl, hk⟩; have p0 : w2.cell? ⟨wr.heap.size, 0, none⟩ = some (.int .i64 x) := kp_cell hk (by simp [go_sem, *]); have p1 : w2.cell? ⟨wr.heap.size, 1, none⟩ = some (.int .i64 y) := kp_cell hk (by simp [go_sem, *]); have lp : wr.heap.size < w2.heap.size := cell_lt p0; have HB2 := Lib.hid (HS.out.kp (kp_trans (by repeat (first | exact kp_refl _ | apply kp_alloc | apply kp_drew)) hk)); clear hk)
            | (go_at_call 48; (with_reducible refine (CB.out _ (HP.out.kp HB2.out.k)).mono ?_); rintro e w3 ⟨rfl, hk⟩; replace p0 : w3.cell? ⟨wr.heap.size, 0, none⟩ = some (.int .i64 x) := kp_cell hk (by first | exact p0 | exact cell_a p0 _ | exact cell_a (cell_a p0 _) _); replace p1 : w3.cell? ⟨wr.heap.size, 1, none⟩ = some (.int .i64 y) := kp_cell hk (by first | exact p1 | exact cell_a p1 _ | exact cell_a (cell_a p1 _) _); replace lp : wr.heap.size < w3.heap.size := cell_lt p0; have HB3 := Lib.hid (HB2.out.kp hk); clear hk)
            | (go_at_call 44; refine (CT.out _).mono ?_; rintro e w4 ⟨rfl, hk⟩; replace p0 : w4.cell? ⟨wr.heap.size, 0, none⟩ = some (.int .i64 x) := kp_cell hk (by first | exact p0 | exact cell_a p0 _ | exact cell_a (cell_a p0 _) _); replace p1 : w4.cell? ⟨wr.heap.size, 1, none⟩ = some (.int .i64 y) := kp_cell hk (by first | exact p1 | exact cell_a p1 _ | exact cell_a (cell_a p1 _) _); have a0 : w4.cell? ⟨w3.heap.size, 0, none⟩ = some (.int .i64 ax) := kp_cell hk (by simp [go_sem, *]); have a1 : w4.cell? ⟨w3.heap.size, 1, none⟩ = some (.int .i64 ay) := kp_cell hk (by simp [go_sem, *]); have b0 : w4.cell? ⟨w3.heap.size + 1, 0, none⟩ = some (.int .i64 bx) := kp_cell hk (by simp [go_sem, *]); have b1 : w4.cell? ⟨w3.heap.size + 1, 1, none⟩ = some (.int .i64 bY) := kp_cell hk (by simp [go_sem, *]); have lp4 : wr.heap.size < w4.heap.size := cell_lt p0; have la4 : w3.heap.size < w4.heap.size := cell_lt a0; have lb4 : w3.heap.size + 1 < w4.heap.size := cell_lt b0; have HB4 := Lib.hid (HB3.out.kp (kp_trans (by repeat (first | exact kp_refl _ | apply kp_alloc | apply kp_drew)) hk)); clear hk)
            | (go_at_call 61; refine (CO.out _).mono ?_; rintro e w5 ⟨rfl, hk⟩; have HB5 := Lib.hid (HB4.out.kp hk); clear hk)
            | (go_at_call 58; refine (bad_any _ _ _).mono ?_; rintro e wz ⟨rfl, hk⟩; have HB := Lib.hid (HB5.out.kp hk); have z0 := HB.out.z0; have z1 := HB.out.z1; have f0 := HB.out.f0; have f1 := HB.out.f1; have lz := HB.out.lt; clear hk))
          refine bodyPost_ret (v := (.tuple #[.agg #[.int .i64 192, .int .i64 (k : Int)], .bool true])) (by simp [results, Try.results36, go_sem, z0, z1]) rfl ⟨by rw [HF.out]; rfl, ?_⟩
          ((repeat (first | exact HB.out.k | exact kp_refl _ | apply kp_alloc | apply kp_drew | apply kp_drewN | refine kp_set ?_ ?_ _)); all_goals (first | exact Nat.le_refl _ | (simp; done) | omega))
        · rw [ho] at hbk co
          have HBK := Lib.hid (show backB l k = false from hbk)
          have CO := Lib.hid co
          clear hbk co ho
          go_wp2_with (first
            | (go_at_call 48; (with_reducible refine (CA.out _ HPA.out).mono ?_); rintro e w2 ⟨rfl, hk⟩; have p0 : w2.cell? ⟨wr.heap.size, 0, none⟩ = some (.int .i64 x) := kp_cell hk (by simp [go_sem, *]); have p1 : w2.cell? ⟨wr.heap.size, 1, none⟩ = some (.int .i64 y) := kp_cell hk (by simp [go_sem, *]); have lp : wr.heap.size < w2.heap.size := cell_lt p0; have HB2 := Lib.hid (HS.out.kp (kp_trans (by repeat (first | exact kp_refl _ | apply kp_alloc | apply kp_drew)) hk)); clear hk)
            | (go_at_call 48; (with_reducible refine (CB.out _ (HP.out.kp HB2.out.k)).mono ?_); rintro e w3 ⟨rfl, hk⟩; replace p0 : w3.cell? ⟨wr.heap.size, 0, none⟩ = some (.int .i64 x) := kp_cell hk (by first | exact p0 | exact cell_a p0 _ | exact cell_a (cell_a p0 _) _); replace p1 : w3.cell? ⟨wr.heap.size, 1, none⟩ = some (.int .i64 y) := kp_cell hk (by first | exact p1 | exact cell_a p1 _ | exact cell_a (cell_a p1 _) _); replace lp : wr.heap.size < w3.heap.size := cell_lt p0; have HB3 := Lib.hid (HB2.out.kp hk); clear hk)
            | (go_at_call 44; refine (CT.out _).mono ?_; rintro e w4 ⟨rfl, hk⟩; replace p0 : w4.cell? ⟨wr.heap.size, 0, none⟩ = some (.int .i64 x) := kp_cell hk (by first | exact p0 | exact cell_a p0 _ | exact cell_a (cell_a p0 _) _); replace p1 : w4.cell? ⟨wr.heap.size, 1, none⟩ = some (.int .i64 y) := kp_cell hk (by first | exact p1 | exact cell_a p1 _ | exact cell_a (cell_a p1 _) _); have a0 : w4.cell? ⟨w3.heap.size, 0, none⟩ = some (.int .i64 ax) := kp_cell hk (by simp [go_sem, *]); have a1 : w4.cell? ⟨w3.heap.size, 1, none⟩ = some (.int .i64 ay) := kp_cell hk (by simp [go_sem, *]); have b0 : w4.cell? ⟨w3.heap.size + 1, 0, none⟩ = some (.int .i64 bx) := kp_cell hk (by simp [go_sem, *]); have b1 : w4.cell? ⟨w3.heap.size + 1, 1, none⟩ = some (.int .i64 bY) := kp_cell hk (by simp [go_sem, *]); have lp4 : wr.heap.size < w4.heap.size := cell_lt p0; have la4 : w3.heap.size < w4.heap.size := cell_lt a0; have lb4 : w3.heap.size + 1 < w4.heap.size := cell_lt b0; have HB4 := Lib.hid (HB3.out.kp (kp_trans (by repeat (first | exact kp_refl _ | apply kp_alloc | apply kp_drew)) hk)); clear hk)
            | (go_at_call 61; refine (CO.out _).mono ?_; rintro e w5 ⟨rfl, hk⟩; have HB5 := Lib.hid (HB4.out.kp hk); clear hk))
          refine ⟨⟨k + 1, by omega, by go_num, HB5.out, fun j hj => ?_⟩, by simp [intOf]; omega⟩
          by_cases e : j = k
          · subst e; exact HBK.out
          · exact HA.out j (by omega)
      · have t1 : (T == 0) = false := by simpa using h0
        rw [decide_eq_false h0] at hbk
        have HBK := Lib.hid (show backB l k = false from hbk)
        clear hbk co h0
        go_wp2_with (first
          | (go_at_call 48; (with_reducible refine (CA.out _ HPA.out).mono ?_); rintro e w2 ⟨rfl, hk⟩; have p0 : w2.cell? ⟨wr.heap.size, 0, none⟩ = some (.int .i64 x) := kp_cell hk (by simp [go_sem, *]); have p1 : w2.cell? ⟨wr.heap.size, 1, none⟩ = some (.int .i64 y) := kp_cell hk (by simp [go_sem, *]); have lp : wr.heap.size < w2.heap.size := cell_lt p0; have HB2 := Lib.hid (HS.out.kp (kp_trans (by repeat (first | exact kp_refl _ | apply kp_alloc | apply kp_drew)) hk)); clear hk)
          | (go_at_call 48; (with_reducible refine (CB.out _ (HP.out.kp HB2.out.k)).mono ?_); rintro e w3 ⟨rfl, hk⟩; replace p0 : w3.cell? ⟨wr.heap.size, 0, none⟩ = some (.int .i64 x) := kp_cell hk (by first | exact p0 | exact cell_a p0 _ | exact cell_a (cell_a p0 _) _); replace p1 : w3.cell? ⟨wr.heap.size, 1, none⟩ = some (.int .i64 y) := kp_cell hk (by first | exact p1 | exact cell_a p1 _ | exact cell_a (cell_a p1 _) _); replace lp : wr.heap.size < w3.heap.size := cell_lt p0; have HB3 := Lib.hid (HB2.out.kp hk); clear hk)
          | (go_at_call 44; refine (CT.out _).mono ?_; rintro e w4 ⟨rfl, hk⟩; replace p0 : w4.cell? ⟨wr.heap.size, 0, none⟩ = some (.int .i64 x) := kp_cell hk (by first | exact p0 | exact cell_a p0 _ | exact cell_a (cell_a p0 _) _); replace p1 : w4.cell? ⟨wr.heap.size, 1, none⟩ = some (.int .i64 y) := kp_cell hk (by first | exact p1 | exact cell_a p1 _ | exact cell_a (cell_a p1 _) _); have a0 : w4.cell? ⟨w3.heap.size, 0, none⟩ = some (.int .i64 ax) := kp_cell hk (by simp [go_sem, *]); have a1 : w4.cell? ⟨w3.heap.size, 1, none⟩ = some (.int .i64 ay) := kp_cell hk (by simp [go_sem, *]); have b0 : w4.cell? ⟨w3.heap.size + 1, 0, none⟩ = some (.int .i64 bx) := kp_cell hk (by simp [go_sem, *]); have b1 : w4.cell? ⟨w3.heap.size + 1, 1, none⟩ = some (.int .i64 bY) := kp_cell hk (by simp [go_sem, *]); have lp4 : wr.heap.size < w4.heap.size := cell_lt p0; have la4 : w3.heap.size < w4.heap.size := cell_lt a0; have lb4 : w3.heap.size + 1 < w4.heap.size := cell_lt b0; have HB4 := Lib.hid (HB3.out.kp (kp_trans (by repeat (first | exact kp_refl _ | apply kp_alloc | apply kp_drew)) hk)); clear hk))
        refine ⟨⟨k + 1, by omega, by go_num, HB4.out, fun j hj => ?_⟩, by simp [intOf]; omega⟩
        by_cases e : j = k
        · subst e; exact HBK.out
        · exact HA.out j (by omega)
    · obtain rfl : k = len := by omega
      have hf : firstN (backB l) l.length = none := firstN_none (by rw [← HL.out]; exact hall)
      have HF := Lib.hid hf
      have HB := Lib.hid hst
      have z0 := hst.z0
      have z1 := hst.z1
      have f0 := hst.f0
      have f1 := hst.f1
      have lz := hst.lt
      clear hf hst hall
      go_wp2_with fail
      refine bodyPost_ret (v := (.tuple #[.agg #[.int .i64 0, .int .i64 0], .bool false])) (by simp [results, Try.results36, go_sem, *]) rfl ⟨by rw [HF.out]; rfl, ?_⟩
      ((repeat (first | exact HB.out.k | exact kp_refl _ | apply kp_alloc | apply kp_drew | apply kp_drewN | refine kp_set ?_ ?_ _)); all_goals (first | exact Nat.le_refl _ | (simp; done) | omega))
end Go.Proofs.Ytcpbemoiodbliaa
