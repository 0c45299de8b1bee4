/- Contracts of ring: bad, at, size, valid. -/
import Derived.Test.YtcpbemoiodbliaaMP
import Derived.Test.YtcpbemoiodbliaaMW
import Derived.Test.YtcpbemoiodbliaaMW
import Derived.Test.YtcpbemoiodbliaaMW
import Derived.Test.YtcpbemoiodbliaaMW
import Derived.IntWalk
import Derived.Deep.DeepCutAuto
import Derived.RegionTactic
import Derived.BigRegion
namespace Go.Proofs.Ytcpbemoiodbliaa
open Go.RowKit Go.Proofs.Geo
theorem pt_lt {w : World} {b off : Nat} {l : List Pt} (h : PtsAt w b off l) {k : Nat} (hk : k < l.length) : w.cell? ⟨b, off + k * 2, none⟩ = some (.int .i64 (pt l k).1) ∧ w.cell? ⟨b, off + k * 2 + 1, none⟩ = some (.int .i64 (pt l k).2) := by
  rw [pt_get hk]; exact h k hk
theorem bad_any (e a : Int) (w : World) : Calls Try.prog 58 #[.int .i64 e, .int .i64 a] w fun r w' => r = .returned (.tuple #[.agg #[.int .i64 e, .int .i64 a], .bool true]) ∧ Kp w w' := by
  go_enter Try.func58, Try.ntmps58
  go_wp2
  refine bodyPost_ret (v := (.tuple #[.agg #[.int .i64 e, .int .i64 a], .bool true])) (by simp [results, Try.results58, go_sem]) rfl ⟨rfl, ?_⟩
  ((repeat (first | exact (kp_alloc (kp_refl _) _) | exact kp_refl _ | apply kp_alloc | apply kp_drew | apply kp_drewN | refine kp_set ?_ ?_ _)); all_goals (first | exact Nat.le_refl _ | (simp; done) | omega))
theorem ret_pv {p q : Pt} (h : p = q) : Ending.returned (pv p.1 p.2) = .returned (pv q.1 q.2) := by rw [h]
/-- The fault of a function's result, that lies in the first block it made. -/
structure FltB (w w1 : World) : Prop where
  z0 : w1.cell? ⟨w.heap.size, 0, none⟩ = some (.int .i64 0)
  z1 : w1.cell? ⟨w.heap.size, 1, none⟩ = some (.int .i64 0)
  f0 : w1.frozen? ⟨w.heap.size, 0, none⟩ = false
  f1 : w1.frozen? ⟨w.heap.size, 1, none⟩ = false
  lt : w.heap.size < w1.heap.size
  k : Kp w w1
theorem FltB.new {w w1 : World} (hk : Kp (w.alloc (.cells #[.int .i64 0, .int .i64 0] 28)) w1) : FltB w w1 := by
  have h0 : w1.cell? ⟨w.heap.size, 0, none⟩ = some (.int .i64 0) := kp_cell hk (by simp [go_sem])
  exact ⟨h0, kp_cell hk (by simp [go_sem]), kp_froz (v := .int .i64 0) hk (by simp [go_sem]) (by simp [go_sem]), kp_froz (v := .int .i64 0) hk (by simp [go_sem]) (by simp [go_sem]), cell_lt h0, kp_trans (kp_alloc (kp_refl _) _) hk⟩
theorem FltB.kp {w w1 w2 : World} (h : FltB w w1) (k : Kp w1 w2) : FltB w w2 :=
  ⟨kp_cell k h.z0, kp_cell k h.z1, kp_froz k h.z0 h.f0, kp_froz k h.z1 h.f1, Nat.lt_of_lt_of_le h.lt (Below.size k), kp_trans h.k k⟩
set_option maxHeartbeats 4000000 in
set_option maxRecDepth 100000 in
theorem rat_any (b off len cap : Nat) (l : List Pt) (i : Int) (w : World) (hp : PtsAt w b off l) (hlen : len = l.length) (h0 : 0 < len) (hl : len ≤ 100000) :
    Calls Try.prog 48 #[.slice (some ⟨b, off, none⟩) len cap, .int .i64 i] w fun e w' => e = .returned (pv (rat l i).1 (rat l i).2) ∧ Kp w w' := by
  obtain ⟨r, hr⟩ : ∃ r, i.tmod (len : Int) = r := ⟨_, rfl⟩
  obtain ⟨k, hk⟩ : ∃ k, rix len i = k := ⟨_, rfl⟩
  have hr1 : -(len : Int) < r ∧ r < (len : Int) := by
    rw [← hr]
    exact ⟨Int.lt_tmod_of_pos i (show (0 : Int) < (len : Int) by omega), Int.tmod_lt_of_pos i (show (0 : Int) < (len : Int) by omega)⟩
  have hk1 : k < len := by rw [← hk]; exact rix_lt h0 i
  have hke := rix_eq h0 i
  rw [hk] at hke
  have hrk : (r + (len : Int)).tmod (len : Int) = (k : Int) := by
    rw [Int.tmod_eq_emod_of_nonneg (by omega), Int.add_emod_right, ← hr, hke]
    rw [Int.tmod_def, Int.sub_emod, Int.mul_emod_right, Int.sub_zero, Int.emod_emod]
  have he : rat l i = pt l k := by unfold rat; rw [← hlen, hk]
  obtain ⟨y0, y1⟩ := pt_lt hp (show k < l.length by omega)
  rw [he]
  generalize pt l k = q at *
  obtain ⟨x, y⟩ := q
  have lb : b < w.heap.size := cell_lt y0
  have wk1 : IntKind.i64.wrap r = r := IntWalk.i64_in _ (by omega)
  have wk2 : IntKind.i64.wrap (r + (len : Int)) = r + (len : Int) := IntWalk.i64_in _ (by omega)
  have wk3 : IntKind.i64.wrap (k : Int) = (k : Int) := IntWalk.i64_in _ (by omega)
  have c1 : (0 : Int) ≤ (k : Int) := by omega
  have c3 : (k : Int) < (len : Int) := by omega
  have c7 : ¬ ((len : Int) = 0) := by omega
  have c8 : ¬ (len = 0) := by omega
  have z0 : (w.alloc (.cells #[.int .i64 0, .int .i64 0] 25)).cell? ⟨b, off + k * 2, none⟩ = some (.int .i64 x) := cell_a y0 _
  have z1 : (w.alloc (.cells #[.int .i64 0, .int .i64 0] 25)).cell? ⟨b, off + k * 2 + 1, none⟩ = some (.int .i64 y) := cell_a y1 _
  clear hp hk hke he hlen hl h0
  go_enter Try.func48, Try.ntmps48
  go_wp2
  refine bodyPost_ret (v := pv x y) (by simp [results, Try.results48, go_sem]) rfl ⟨rfl, ?_⟩
  ((repeat (first | exact (kp_alloc (kp_refl _) _) | exact kp_refl _ | apply kp_alloc | apply kp_drew | apply kp_drewN | refine kp_set ?_ ?_ _)); all_goals (first | exact Nat.le_refl _ | (simp; done) | omega))
set_option maxHeartbeats 4000000 in
set_option maxRecDepth 100000 in
theorem rat9_any (b off len cap : Nat) (l : List Pt) (i : Int) (w : World) (hp : PtsAt w b off l) (hlen : len = l.length) (h0 : 0 < len) (hl : len ≤ 100000) :
    Calls Try.prog 54 #[.slice (some ⟨b, off, none⟩) len cap, .int .i64 i] w fun e w' => e = .returned (pv (rat l i).1 (rat l i).2) ∧ Kp w w' := by
  obtain ⟨r, hr⟩ : ∃ r, i.tmod (len : Int) = r := ⟨_, rfl⟩
  obtain ⟨k, hk⟩ : ∃ k, rix len i = k := ⟨_, rfl⟩
  have hr1 : -(len : Int) < r ∧ r < (len : Int) := by
    rw [← hr]
    exact ⟨Int.lt_tmod_of_pos i (show (0 : Int) < (len : Int) by omega), Int.tmod_lt_of_pos i (show (0 : Int) < (len : Int) by omega)⟩
  have hk1 : k < len := by rw [← hk]; exact rix_lt h0 i
  have hke := rix_eq h0 i
  rw [hk] at hke
  have hrk : (r + (len : Int)).tmod (len : Int) = (k : Int) := by
    rw [Int.tmod_eq_emod_of_nonneg (by omega), Int.add_emod_right, ← hr, hke]
    rw [Int.tmod_def, Int.sub_emod, Int.mul_emod_right, Int.sub_zero, Int.emod_emod]
  have he : rat l i = pt l k := by unfold rat; rw [← hlen, hk]
  obtain ⟨y0, y1⟩ := pt_lt hp (show k < l.length by omega)
  rw [he]
  generalize pt l k = q at *
  obtain ⟨x, y⟩ := q
  have lb : b < w.heap.size := cell_lt y0
  have wk1 : IntKind.i64.wrap r = r := IntWalk.i64_in _ (by omega)
  have wk2 : IntKind.i64.wrap (r + (len : Int)) = r + (len : Int) := IntWalk.i64_in _ (by omega)
  have wk3 : IntKind.i64.wrap (k : Int) = (k : Int) := IntWalk.i64_in _ (by omega)
  have c1 : (0 : Int) ≤ (k : Int) := by omega
  have c3 : (k : Int) < (len : Int) := by omega
  have c7 : ¬ ((len : Int) = 0) := by omega
  have c8 : ¬ (len = 0) := by omega
  have z0 : (w.alloc (.cells #[.int .i64 0, .int .i64 0] 25)).cell? ⟨b, off + k * 2, none⟩ = some (.int .i64 x) := cell_a y0 _
  have z1 : (w.alloc (.cells #[.int .i64 0, .int .i64 0] 25)).cell? ⟨b, off + k * 2 + 1, none⟩ = some (.int .i64 y) := cell_a y1 _
  clear hp hk hke he hlen hl h0
  go_enter Try.func54, Try.ntmps54
  go_wp2
  refine bodyPost_ret (v := pv x y) (by simp [results, Try.results54, go_sem]) rfl ⟨rfl, ?_⟩
  ((repeat (first | exact (kp_alloc (kp_refl _) _) | exact kp_refl _ | apply kp_alloc | apply kp_drew | apply kp_drewN | refine kp_set ?_ ?_ _)); all_goals (first | exact Nat.le_refl _ | (simp; done) | omega))
theorem szS_any (a : Option Addr) (len cap : Nat) (l : List Pt) (w : World) (hlen : len = l.length) (hl : len ≤ 10000000000000) : Calls Try.prog 33 #[.slice a len cap] w fun e w' => e = .returned (.tuple #[.agg #[.int .i64 (szS l).1, .int .i64 (szS l).2.1], .bool (szS l).2.2]) ∧ Kp w w' := by
  have hz : szS l = if 200 < len then (3, 0, true) else if len < 3 then (190, 0, true) else (0, 0, false) := by rw [hlen]; rfl
  rw [hz]
  clear hz hlen
  by_cases h1 : 200 < len
  · rw [if_pos h1]
    go_enter Try.func33, Try.ntmps33
    go_wp2_with (go_at_call 58; refine (bad_any _ _ _).mono ?_; rintro e wz ⟨rfl, hk⟩; have HB := Lib.hid (FltB.new hk); have z0 := HB.out.z0; have z1 := HB.out.z1; have f0 := HB.out.f0; have f1 := HB.out.f1; have lz := HB.out.lt; clear hk)
    refine bodyPost_ret (v := (.tuple #[.agg #[.int .i64 3, .int .i64 0], .bool true])) (by simp [results, Try.results33, go_sem, z0, z1]) rfl ⟨rfl, ?_⟩
    ((repeat (first | exact HB.out.k | exact kp_refl _ | apply kp_alloc | apply kp_drew | apply kp_drewN | refine kp_set ?_ ?_ _)); all_goals (first | exact Nat.le_refl _ | (simp; done) | omega))
  · rw [if_neg h1]
    by_cases h2 : len < 3
    · rw [if_pos h2]
      go_enter Try.func33, Try.ntmps33
      go_wp2_with (go_at_call 58; refine (bad_any _ _ _).mono ?_; rintro e wz ⟨rfl, hk⟩; have HB := Lib.hid (FltB.new hk); have z0 := HB.out.z0; have z1 := HB.out.z1; have f0 := HB.out.f0; have f1 := HB.out.f1; have lz := HB.out.lt; clear hk)
      refine bodyPost_ret (v := (.tuple #[.agg #[.int .i64 190, .int .i64 0], .bool true])) (by simp [results, Try.results33, go_sem, z0, z1]) rfl ⟨rfl, ?_⟩
      ((repeat (first | exact HB.out.k | exact kp_refl _ | apply kp_alloc | apply kp_drew | apply kp_drewN | refine kp_set ?_ ?_ _)); all_goals (first | exact Nat.le_refl _ | (simp; done) | omega))
    · rw [if_neg h2]
      go_enter Try.func33, Try.ntmps33
      go_wp2_with fail
      refine bodyPost_ret (v := (.tuple #[.agg #[.int .i64 0, .int .i64 0], .bool false])) (by simp [results, Try.results33, go_sem, *]) rfl ⟨rfl, ?_⟩
      ((repeat (first | exact (kp_alloc (kp_refl _) _) | exact kp_refl _ | apply kp_alloc | apply kp_drew | apply kp_drewN | refine kp_set ?_ ?_ _)); all_goals (first | exact Nat.le_refl _ | (simp; done) | omega))
theorem vclo_any (x y : Int) (w : World) : Calls Try.prog 60 #[pv x y] w fun e w' => e = .returned (.bool (!okP (x, y))) ∧ Kp w w' := by
  go_enter Try.func60, Try.ntmps60
  go_wp2_with (go_at_call 46; refine (valid_any _ _ _).mono ?_; rintro e w1 ⟨rfl, hk⟩)
  go_ret
  exact ⟨rfl, kp_trans (kp_alloc (kp_refl _) _) hk⟩
/-- The first place, as slices.IndexFunc tells it. -/
def idxI : Option Nat → Int
  | some i => i
  | none => -1
set_option maxHeartbeats 4000000 in
set_option maxRecDepth 100000 in
theorem ixf_any (b off len cap : Nat) (l : List Pt) (w : World) (hp : PtsAt w b off l) (hlen : len = l.length) (hl : len ≤ 100000) : Calls Try.prog 59 #[.slice (some ⟨b, off, none⟩) len cap, .func (.func 60) #[] #[]] w fun e w' => e = .returned (.int .i64 (idxI (firstN (fun i => !okP (pt l i)) l.length))) ∧ Kp w w' := by
  have HP := Lib.hid hp
  have HL := Lib.hid hlen
  clear hp hlen
  go_enter Try.func59, Try.ntmps59
  go_wp2_with fail
  go_loopw [8] (fun i wr => ∃ k : Nat, k ≤ len ∧ i = .int .i64 k ∧ Kp w wr ∧ ∀ j, j < k → (!okP (pt l j)) = false) (fun i _ => len - (intOf i).toNat)
  case atStart => exact ⟨0, by omega, rfl, kp_refl _, fun j h => by omega⟩
  case round =>
    obtain ⟨k, hk, rfl, hkp, hall⟩ := hrel
    by_cases hlt : k < len
    · obtain ⟨y0, y1⟩ := pt_lt (HP.out.kp hkp) (show k < l.length by rw [← HL.out]; exact hlt)
      obtain ⟨x, hx⟩ : ∃ x, (pt l k).1 = x := ⟨_, rfl⟩
      obtain ⟨y, hy⟩ : ∃ x, (pt l k).2 = x := ⟨_, rfl⟩
      have hpt : pt l k = (x, y) := by rw [← hx, ← hy]
      rw [hx] at y0; rw [hy] at y1
      have lb : b < wr.heap.size := cell_lt y0
      have c1 : (0 : Int) ≤ (k : Int) := by omega
      have c2 : (k : Int) < (len : Int) := by omega
      have HK := Lib.hid hkp
      have HA := Lib.hid hall
      clear hkp hall hx hy
      cases ho : okP (x, y)
      · have hf : firstN (fun i => !okP (pt l i)) l.length = some k := firstN_some (by rw [← HL.out]; exact hlt) (by simp only [hpt, ho]; rfl) HA.out
        have HF := Lib.hid hf
        have cv := fun w => vclo_any x y w
        rw [ho] at cv
        have CV := Lib.hid cv
        clear hf ho hpt cv
        go_wp2_with (go_at_call 60; refine (CV.out _).mono ?_; rintro e w2 ⟨rfl, hk2⟩; have HK2 := Lib.hid hk2; clear hk2)
        go_ret
        exact ⟨by rw [HF.out]; rfl, kp_trans HK.out (kp_trans (by repeat (first | exact kp_refl _ | apply kp_alloc | apply kp_drew | apply kp_drewN)) HK2.out)⟩
      · have HN := Lib.hid (show (!okP (pt l k)) = false by rw [hpt, ho]; rfl)
        have cv := fun w => vclo_any x y w
        rw [ho] at cv
        have CV := Lib.hid cv
        clear ho hpt cv
        go_wp2_with (go_at_call 60; refine (CV.out _).mono ?_; rintro e w2 ⟨rfl, hk2⟩; have HK2 := Lib.hid hk2; clear hk2)
        exact ⟨⟨k + 1, by omega, by go_num, kp_trans HK.out (kp_trans (by repeat (first | exact kp_refl _ | apply kp_alloc | apply kp_drew | apply kp_drewN)) HK2.out), fun j hj => by
          by_cases e : j = k
          · subst e; exact HN.out
          · exact HA.out j (by omega)⟩, by simp [intOf]; omega⟩
    · obtain rfl : k = len := by omega
      have hf : firstN (fun i => !okP (pt l i)) l.length = none := firstN_none (by rw [← HL.out]; exact hall)
      have HF := Lib.hid hf
      clear hf hall
      go_wp2_with fail
      go_ret
      exact ⟨by rw [HF.out]; rfl, hkp⟩
theorem vdS_any (b off len cap : Nat) (l : List Pt) (w : World) (hp : PtsAt w b off l) (hlen : len = l.length) (hl : len ≤ 100000) : Calls Try.prog 34 #[.slice (some ⟨b, off, none⟩) len cap] w fun e w' => e = .returned (.tuple #[.agg #[.int .i64 (vdS l).1, .int .i64 (vdS l).2.1], .bool (vdS l).2.2]) ∧ Kp w w' := by
  have hi := fun (w : World) hp => ixf_any b off len cap l w hp hlen hl
  have hv : vdS l = stg 2 (firstN (fun i => !okP (pt l i)) l.length) := rfl
  rw [hv]
  generalize firstN (fun i => !okP (pt l i)) l.length = o at *
  have HI := Lib.hid hi
  have HP := Lib.hid hp
  clear hi hv hp hlen
  cases o with
  | none =>
    go_enter Try.func34, Try.ntmps34
    go_wp2_with (go_at_call 59; refine (HI.out _ (HP.out.kp (kp_alloc (kp_refl _) _))).mono ?_; rintro e w1 ⟨rfl, hk⟩; rw [show idxI none = -1 from rfl]; have HB := Lib.hid (FltB.new hk); have z0 := HB.out.z0; have z1 := HB.out.z1; have f0 := HB.out.f0; have f1 := HB.out.f1; clear hk)
    refine bodyPost_ret (v := (.tuple #[.agg #[.int .i64 0, .int .i64 0], .bool false])) (by simp [results, Try.results34, go_sem, *]) rfl ⟨rfl, ?_⟩
    ((repeat (first | exact HB.out.k | exact kp_refl _ | apply kp_alloc | apply kp_drew | apply kp_drewN | refine kp_set ?_ ?_ _)); all_goals (first | exact Nat.le_refl _ | (simp; done) | omega))
  | some i =>
    have hs : stg 2 (some i) = (2, (i : Int), true) := rfl
    rw [hs]
    have hx : idxI (some i) = (i : Int) := rfl
    rw [hx] at HI
    have c0 : (0 : Int) ≤ (i : Int) := by omega
    clear hs hx
    go_enter Try.func34, Try.ntmps34
    go_wp2_with (first
      | (go_at_call 59; refine (HI.out _ (HP.out.kp (kp_alloc (kp_refl _) _))).mono ?_; rintro e w1 ⟨rfl, hk⟩; have HB1 := Lib.hid (FltB.new hk); clear hk)
      | (go_at_call 58; refine (bad_any _ _ _).mono ?_; rintro e wz ⟨rfl, hk⟩; have HB := Lib.hid (FltB.kp HB1.out hk); have z0 := HB.out.z0; have z1 := HB.out.z1; have f0 := HB.out.f0; have f1 := HB.out.f1; have lz := HB.out.lt; clear hk))
    refine bodyPost_ret (v := (.tuple #[.agg #[.int .i64 2, .int .i64 (i : Int)], .bool true])) (by simp [results, Try.results34, go_sem, z0, z1]) rfl ⟨rfl, ?_⟩
    ((repeat (first | exact HB.out.k | exact kp_refl _ | apply kp_alloc | apply kp_drew | apply kp_drewN | refine kp_set ?_ ?_ _)); all_goals (first | exact Nat.le_refl _ | (simp; done) | omega))
end Go.Proofs.Ytcpbemoiodbliaa
