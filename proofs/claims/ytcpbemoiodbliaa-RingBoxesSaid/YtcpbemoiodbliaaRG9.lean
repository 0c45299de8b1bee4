/- Contract of ring.Check. -/
import Derived.Test.YtcpbemoiodbliaaRG2
import Derived.Test.YtcpbemoiodbliaaRG3
import Derived.Test.YtcpbemoiodbliaaRG8
import Derived.Test.YtcpbemoiodbliaaMP
namespace Go.Proofs.Ytcpbemoiodbliaa
open Go.RowKit Go.Proofs.Geo
set_option linter.unusedVariables false
/-- The first k looks have found nothing. -/
def Passed (l : List Pt) (k : Nat) : Prop := (1 ≤ k → (szS l).2.2 = false) ∧ (2 ≤ k → (vdS l).2.2 = false) ∧ (3 ≤ k → (twS l).2.2 = false) ∧ (4 ≤ k → (bkS l).2.2 = false) ∧ (5 ≤ k → (mtS l).2.2 = false)
set_option maxHeartbeats 8000000 in
set_option maxRecDepth 100000 in
theorem check_out (a : Option Addr) (len cap : Nat) (l : List Pt) (w : World) (hlen : len = l.length) (hl : len ≤ 100000) (ho : len < 3 ∨ 200 < len) : Calls Try.prog 12 #[.slice a len cap] w fun e w' => e = .returned (.agg #[.int .i64 (chk l).1, .int .i64 (chk l).2]) ∧ Kp w w' := by
  have hc := fun w => szS_any a len cap l w hlen (by omega)
  have ht : (szS l).2.2 = true := by
    unfold szS; rw [← hlen]
    by_cases h : 200 < len
    · rw [if_pos h]
    · rw [if_neg h, if_pos (by omega)]
  obtain ⟨e, he⟩ : ∃ e, (szS l).1 = e := ⟨_, rfl⟩
  obtain ⟨q, ha⟩ : ∃ e, (szS l).2.1 = e := ⟨_, rfl⟩
  rw [he, ha, ht] at hc
  have hv : chk l = (e, q) := by unfold chk; rw [if_pos ht, he, ha]
  have HV := Lib.hid hv
  have HC := Lib.hid hc
  clear hc ht he ha hv hlen
  go_enter Try.func12, Try.ntmps12
  go_wp2_with fail
  obtain ⟨W1, hW1⟩ : ∃ W, (w.alloc (.cells #[.int .i64 0, .int .i64 0] 28)).alloc (.cells #[.func (.func 33) #[] #[], .func (.func 34) #[] #[], .func (.func 35) #[] #[], .func (.func 36) #[] #[], .func (.func 37) #[] #[]] 49) = W := ⟨_, rfl⟩
  have e0 : W1.cell? ⟨w.heap.size + 1, 0, none⟩ = some (.func (.func 33) #[] #[]) := by rw [← hW1]; simp [go_sem]
  have e1 : W1.cell? ⟨w.heap.size + 1, 1, none⟩ = some (.func (.func 34) #[] #[]) := by rw [← hW1]; simp [go_sem]
  have e2 : W1.cell? ⟨w.heap.size + 1, 2, none⟩ = some (.func (.func 35) #[] #[]) := by rw [← hW1]; simp [go_sem]
  have e3 : W1.cell? ⟨w.heap.size + 1, 3, none⟩ = some (.func (.func 36) #[] #[]) := by rw [← hW1]; simp [go_sem]
  have e4 : W1.cell? ⟨w.heap.size + 1, 4, none⟩ = some (.func (.func 37) #[] #[]) := by rw [← hW1]; simp [go_sem]
  have hB1 : FltB w W1 := by rw [← hW1]; exact FltB.new (kp_alloc (kp_refl _) _)
  rw [hW1]
  clear hW1
  have HS := Lib.hid hB1
  have HK1 := Lib.hid (kp_refl W1)
  clear hB1
  go_loopw [9] (fun i wr => i = .int .i64 0 ∧ W1 = wr) (fun i _ => 0)
  case atStart => exact ⟨rfl, rfl⟩
  case round =>
    obtain ⟨rfl, rfl⟩ := hrel
    go_wp2_with (go_at_call 33; refine (HC.out _).mono ?_; rintro e wz ⟨rfl, hk⟩; have HB := Lib.hid (HS.out.kp hk); have HK := Lib.hid (kp_trans HK1.out hk); have z0 := HB.out.z0; have z1 := HB.out.z1; have f0 := HB.out.f0; have f1 := HB.out.f1; have lz := HB.out.lt; clear hk)
    refine bodyPost_ret (v := (.agg #[.int .i64 e, .int .i64 q])) (by simp [results, Try.results12, go_sem, *]) rfl ⟨by rw [HV.out], ?_⟩
    ((repeat (first | exact HB.out.k | exact kp_refl _ | apply kp_alloc | apply kp_drew | apply kp_drewN | refine kp_set ?_ ?_ _)); all_goals (first | exact Nat.le_refl _ | (simp; done) | omega))
set_option maxHeartbeats 8000000 in
set_option maxRecDepth 100000 in
theorem check_in (b off len cap : Nat) (l : List Pt) (w : World) (hp : PtsAt w b off l) (hlen : len = l.length) (h3 : 3 ≤ len) (h200 : len ≤ 200) : Calls Try.prog 12 #[.slice (some ⟨b, off, none⟩) len cap] w fun e w' => e = .returned (.agg #[.int .i64 (chk l).1, .int .i64 (chk l).2]) ∧ Kp w w' := by
  have HC0 := Lib.hid (fun w => szS_any (some ⟨b, off, none⟩) len cap l w hlen (by omega))
  have HC1 := Lib.hid (fun w hp => vdS_any b off len cap l w hp hlen (by omega))
  have HC2 := Lib.hid (fun w hp hok => twS_any b off len cap l w hp hlen (by omega) hok)
  have HC3 := Lib.hid (fun w hp => bkS_any b off len cap l w hp hlen (by omega) (by omega))
  have HC4 := Lib.hid (fun w hp => mtS_any b off len cap l w hp hlen (by omega) (by omega))
  have HP := Lib.hid hp
  have HL := Lib.hid hlen
  clear hp hlen
  go_enter Try.func12, Try.ntmps12
  go_wp2_with fail
  obtain ⟨W1, hW1⟩ : ∃ W, (w.alloc (.cells #[.int .i64 0, .int .i64 0] 28)).alloc (.cells #[.func (.func 33) #[] #[], .func (.func 34) #[] #[], .func (.func 35) #[] #[], .func (.func 36) #[] #[], .func (.func 37) #[] #[]] 49) = W := ⟨_, rfl⟩
  have e0 : W1.cell? ⟨w.heap.size + 1, 0, none⟩ = some (.func (.func 33) #[] #[]) := by rw [← hW1]; simp [go_sem]
  have e1 : W1.cell? ⟨w.heap.size + 1, 1, none⟩ = some (.func (.func 34) #[] #[]) := by rw [← hW1]; simp [go_sem]
  have e2 : W1.cell? ⟨w.heap.size + 1, 2, none⟩ = some (.func (.func 35) #[] #[]) := by rw [← hW1]; simp [go_sem]
  have e3 : W1.cell? ⟨w.heap.size + 1, 3, none⟩ = some (.func (.func 36) #[] #[]) := by rw [← hW1]; simp [go_sem]
  have e4 : W1.cell? ⟨w.heap.size + 1, 4, none⟩ = some (.func (.func 37) #[] #[]) := by rw [← hW1]; simp [go_sem]
  have hB1 : FltB w W1 := by rw [← hW1]; exact FltB.new (kp_alloc (kp_refl _) _)
  rw [hW1]
  clear hW1
  have HB1 := Lib.hid hB1
  clear hB1
  go_loopw [9] (fun i wr => ∃ k : Nat, k ≤ 5 ∧ i = .int .i64 k ∧ FltB w wr ∧ Kp W1 wr ∧ Passed l k) (fun i _ => 5 - (intOf i).toNat)
  case atStart => exact ⟨0, by omega, rfl, HB1.out, kp_refl _, fun h => by omega, fun h => by omega, fun h => by omega, fun h => by omega, fun h => by omega⟩
  case round =>
    obtain ⟨k, hk, rfl, hs, hk1, hps⟩ := hrel
    have HS := Lib.hid hs
    have HK1 := Lib.hid hk1
    have HPS := Lib.hid hps
    replace e0 := kp_cell hk1 e0; replace e1 := kp_cell hk1 e1; replace e2 := kp_cell hk1 e2; replace e3 := kp_cell hk1 e3; replace e4 := kp_cell hk1 e4
    have le : w.heap.size + 1 < wr.heap.size := cell_lt e0
    clear hs hk1 hps
    have hk' : k = 0 ∨ k = 1 ∨ k = 2 ∨ k = 3 ∨ k = 4 ∨ k = 5 := by omega
    rcases hk' with rfl | rfl | rfl | rfl | rfl | rfl
    · obtain ⟨e, he⟩ : ∃ e, (szS l).1 = e := ⟨_, rfl⟩
      obtain ⟨a, ha⟩ : ∃ e, (szS l).2.1 = e := ⟨_, rfl⟩
      have hc := HC0.out
      rw [he, ha] at hc
      cases ht : (szS l).2.2
      · rw [ht] at hc
        have HT := Lib.hid ht
        replace hc := Lib.hid hc
        clear ht he ha
        go_wp2_with (go_at_call 33; refine (hc.out _).mono ?_; rintro e wz ⟨rfl, hk⟩; have HB := Lib.hid (HS.out.kp hk); have HK := Lib.hid (kp_trans HK1.out hk); have z0 := HB.out.z0; have z1 := HB.out.z1; have f0 := HB.out.f0; have f1 := HB.out.f1; have lz := HB.out.lt; clear hk)
        exact ⟨⟨1, by omega, rfl, HB.out.kp (kp_alloc (kp_refl _) _), kp_trans HK.out (kp_alloc (kp_refl _) _), ⟨fun _ => HT.out, fun h => by omega, fun h => by omega, fun h => by omega, fun h => by omega⟩⟩, by simp [intOf]⟩
      · rw [ht] at hc
        have hv : chk l = (e, a) := by unfold chk; rw [if_pos ht, he, ha]
        have HV := Lib.hid hv
        replace hc := Lib.hid hc
        clear ht he ha hv
        go_wp2_with (go_at_call 33; refine (hc.out _).mono ?_; rintro e wz ⟨rfl, hk⟩; have HB := Lib.hid (HS.out.kp hk); have HK := Lib.hid (kp_trans HK1.out hk); have z0 := HB.out.z0; have z1 := HB.out.z1; have f0 := HB.out.f0; have f1 := HB.out.f1; have lz := HB.out.lt; clear hk)
        refine bodyPost_ret (v := (.agg #[.int .i64 e, .int .i64 a])) (by simp [results, Try.results12, go_sem, *]) rfl ⟨by rw [HV.out], ?_⟩
        ((repeat (first | exact HB.out.k | exact kp_refl _ | apply kp_alloc | apply kp_drew | apply kp_drewN | refine kp_set ?_ ?_ _)); all_goals (first | exact Nat.le_refl _ | (simp; done) | omega))
    · obtain ⟨e, he⟩ : ∃ e, (vdS l).1 = e := ⟨_, rfl⟩
      obtain ⟨a, ha⟩ : ∃ e, (vdS l).2.1 = e := ⟨_, rfl⟩
      have hc := HC1.out
      rw [he, ha] at hc
      cases ht : (vdS l).2.2
      · rw [ht] at hc
        have HT := Lib.hid ht
        replace hc := Lib.hid hc
        clear ht he ha
        go_wp2_with (go_at_call 34; refine (hc.out _ (HP.out.kp HS.out.k)).mono ?_; rintro e wz ⟨rfl, hk⟩; have HB := Lib.hid (HS.out.kp hk); have HK := Lib.hid (kp_trans HK1.out hk); have z0 := HB.out.z0; have z1 := HB.out.z1; have f0 := HB.out.f0; have f1 := HB.out.f1; have lz := HB.out.lt; clear hk)
        exact ⟨⟨2, by omega, rfl, HB.out.kp (kp_alloc (kp_refl _) _), kp_trans HK.out (kp_alloc (kp_refl _) _), ⟨fun _ => HPS.out.1 (by omega), fun _ => HT.out, fun h => by omega, fun h => by omega, fun h => by omega⟩⟩, by simp [intOf]⟩
      · rw [ht] at hc
        have hv : chk l = (e, a) := by unfold chk; rw [if_neg (by rw [HPS.out.1 (by omega)]; decide)]; rw [if_pos ht, he, ha]
        have HV := Lib.hid hv
        replace hc := Lib.hid hc
        clear ht he ha hv
        go_wp2_with (go_at_call 34; refine (hc.out _ (HP.out.kp HS.out.k)).mono ?_; rintro e wz ⟨rfl, hk⟩; have HB := Lib.hid (HS.out.kp hk); have HK := Lib.hid (kp_trans HK1.out hk); have z0 := HB.out.z0; have z1 := HB.out.z1; have f0 := HB.out.f0; have f1 := HB.out.f1; have lz := HB.out.lt; clear hk)
        refine bodyPost_ret (v := (.agg #[.int .i64 e, .int .i64 a])) (by simp [results, Try.results12, go_sem, *]) rfl ⟨by rw [HV.out], ?_⟩
        ((repeat (first | exact HB.out.k | exact kp_refl _ | apply kp_alloc | apply kp_drew | apply kp_drewN | refine kp_set ?_ ?_ _)); all_goals (first | exact Nat.le_refl _ | (simp; done) | omega))
    · obtain ⟨e, he⟩ : ∃ e, (twS l).1 = e := ⟨_, rfl⟩
      obtain ⟨a, ha⟩ : ∃ e, (twS l).2.1 = e := ⟨_, rfl⟩
      have hc := HC2.out
      rw [he, ha] at hc
      cases ht : (twS l).2.2
      · rw [ht] at hc
        have HT := Lib.hid ht
        replace hc := Lib.hid hc
        clear ht he ha
        go_wp2_with (go_at_call 35; refine (hc.out _ (HP.out.kp HS.out.k) (vdS_false (HPS.out.2.1 (by omega)))).mono ?_; rintro e wz ⟨rfl, hk⟩; have HB := Lib.hid (HS.out.kp hk); have HK := Lib.hid (kp_trans HK1.out hk); have z0 := HB.out.z0; have z1 := HB.out.z1; have f0 := HB.out.f0; have f1 := HB.out.f1; have lz := HB.out.lt; clear hk)
        exact ⟨⟨3, by omega, rfl, HB.out.kp (kp_alloc (kp_refl _) _), kp_trans HK.out (kp_alloc (kp_refl _) _), ⟨fun _ => HPS.out.1 (by omega), fun _ => HPS.out.2.1 (by omega), fun _ => HT.out, fun h => by omega, fun h => by omega⟩⟩, by simp [intOf]⟩
      · rw [ht] at hc
        have hv : chk l = (e, a) := by unfold chk; rw [if_neg (by rw [HPS.out.1 (by omega)]; decide)]; rw [if_neg (by rw [HPS.out.2.1 (by omega)]; decide)]; rw [if_pos ht, he, ha]
        have HV := Lib.hid hv
        replace hc := Lib.hid hc
        clear ht he ha hv
        go_wp2_with (go_at_call 35; refine (hc.out _ (HP.out.kp HS.out.k) (vdS_false (HPS.out.2.1 (by omega)))).mono ?_; rintro e wz ⟨rfl, hk⟩; have HB := Lib.hid (HS.out.kp hk); have HK := Lib.hid (kp_trans HK1.out hk); have z0 := HB.out.z0; have z1 := HB.out.z1; have f0 := HB.out.f0; have f1 := HB.out.f1; have lz := HB.out.lt; clear hk)
        refine bodyPost_ret (v := (.agg #[.int .i64 e, .int .i64 a])) (by simp [results, Try.results12, go_sem, *]) rfl ⟨by rw [HV.out], ?_⟩
        ((repeat (first | exact HB.out.k | exact kp_refl _ | apply kp_alloc | apply kp_drew | apply kp_drewN | refine kp_set ?_ ?_ _)); all_goals (first | exact Nat.le_refl _ | (simp; done) | omega))
    · obtain ⟨e, he⟩ : ∃ e, (bkS l).1 = e := ⟨_, rfl⟩
      obtain ⟨a, ha⟩ : ∃ e, (bkS l).2.1 = e := ⟨_, rfl⟩
      have hc := HC3.out
      rw [he, ha] at hc
      cases ht : (bkS l).2.2
      · rw [ht] at hc
        have HT := Lib.hid ht
        replace hc := Lib.hid hc
        clear ht he ha
        go_wp2_with (go_at_call 36; refine (hc.out _ (HP.out.kp HS.out.k)).mono ?_; rintro e wz ⟨rfl, hk⟩; have HB := Lib.hid (HS.out.kp hk); have HK := Lib.hid (kp_trans HK1.out hk); have z0 := HB.out.z0; have z1 := HB.out.z1; have f0 := HB.out.f0; have f1 := HB.out.f1; have lz := HB.out.lt; clear hk)
        exact ⟨⟨4, by omega, rfl, HB.out.kp (kp_alloc (kp_refl _) _), kp_trans HK.out (kp_alloc (kp_refl _) _), ⟨fun _ => HPS.out.1 (by omega), fun _ => HPS.out.2.1 (by omega), fun _ => HPS.out.2.2.1 (by omega), fun _ => HT.out, fun h => by omega⟩⟩, by simp [intOf]⟩
      · rw [ht] at hc
        have hv : chk l = (e, a) := by unfold chk; rw [if_neg (by rw [HPS.out.1 (by omega)]; decide)]; rw [if_neg (by rw [HPS.out.2.1 (by omega)]; decide)]; rw [if_neg (by rw [HPS.out.2.2.1 (by omega)]; decide)]; rw [if_pos ht, he, ha]
        have HV := Lib.hid hv
        replace hc := Lib.hid hc
        clear ht he ha hv
        go_wp2_with (go_at_call 36; refine (hc.out _ (HP.out.kp HS.out.k)).mono ?_; rintro e wz ⟨rfl, hk⟩; have HB := Lib.hid (HS.out.kp hk); have HK := Lib.hid (kp_trans HK1.out hk); have z0 := HB.out.z0; have z1 := HB.out.z1; have f0 := HB.out.f0; have f1 := HB.out.f1; have lz := HB.out.lt; clear hk)
        refine bodyPost_ret (v := (.agg #[.int .i64 e, .int .i64 a])) (by simp [results, Try.results12, go_sem, *]) rfl ⟨by rw [HV.out], ?_⟩
        ((repeat (first | exact HB.out.k | exact kp_refl _ | apply kp_alloc | apply kp_drew | apply kp_drewN | refine kp_set ?_ ?_ _)); all_goals (first | exact Nat.le_refl _ | (simp; done) | omega))
    · obtain ⟨e, he⟩ : ∃ e, (mtS l).1 = e := ⟨_, rfl⟩
      obtain ⟨a, ha⟩ : ∃ e, (mtS l).2.1 = e := ⟨_, rfl⟩
      have hc := HC4.out
      rw [he, ha] at hc
      cases ht : (mtS l).2.2
      · rw [ht] at hc
        have HT := Lib.hid ht
        replace hc := Lib.hid hc
        clear ht he ha
        go_wp2_with (go_at_call 37; refine (hc.out _ (HP.out.kp HS.out.k)).mono ?_; rintro e wz ⟨rfl, hk⟩; have HB := Lib.hid (HS.out.kp hk); have HK := Lib.hid (kp_trans HK1.out hk); have z0 := HB.out.z0; have z1 := HB.out.z1; have f0 := HB.out.f0; have f1 := HB.out.f1; have lz := HB.out.lt; clear hk)
        exact ⟨⟨5, by omega, rfl, HB.out.kp (kp_alloc (kp_refl _) _), kp_trans HK.out (kp_alloc (kp_refl _) _), ⟨fun _ => HPS.out.1 (by omega), fun _ => HPS.out.2.1 (by omega), fun _ => HPS.out.2.2.1 (by omega), fun _ => HPS.out.2.2.2.1 (by omega), fun _ => HT.out⟩⟩, by simp [intOf]⟩
      · rw [ht] at hc
        have hv : chk l = (e, a) := by unfold chk; rw [if_neg (by rw [HPS.out.1 (by omega)]; decide)]; rw [if_neg (by rw [HPS.out.2.1 (by omega)]; decide)]; rw [if_neg (by rw [HPS.out.2.2.1 (by omega)]; decide)]; rw [if_neg (by rw [HPS.out.2.2.2.1 (by omega)]; decide)]; rw [if_pos ht, he, ha]
        have HV := Lib.hid hv
        replace hc := Lib.hid hc
        clear ht he ha hv
        go_wp2_with (go_at_call 37; refine (hc.out _ (HP.out.kp HS.out.k)).mono ?_; rintro e wz ⟨rfl, hk⟩; have HB := Lib.hid (HS.out.kp hk); have HK := Lib.hid (kp_trans HK1.out hk); have z0 := HB.out.z0; have z1 := HB.out.z1; have f0 := HB.out.f0; have f1 := HB.out.f1; have lz := HB.out.lt; clear hk)
        refine bodyPost_ret (v := (.agg #[.int .i64 e, .int .i64 a])) (by simp [results, Try.results12, go_sem, *]) rfl ⟨by rw [HV.out], ?_⟩
        ((repeat (first | exact HB.out.k | exact kp_refl _ | apply kp_alloc | apply kp_drew | apply kp_drewN | refine kp_set ?_ ?_ _)); all_goals (first | exact Nat.le_refl _ | (simp; done) | omega))
    · have hv : chk l = (0, 0) := by unfold chk; rw [if_neg (by rw [HPS.out.1 (by omega)]; decide), if_neg (by rw [HPS.out.2.1 (by omega)]; decide), if_neg (by rw [HPS.out.2.2.1 (by omega)]; decide), if_neg (by rw [HPS.out.2.2.2.1 (by omega)]; decide), if_neg (by rw [HPS.out.2.2.2.2 (by omega)]; decide)]
      have HV := Lib.hid hv
      have HB := HS
      have z0 := HB.out.z0; have z1 := HB.out.z1; have f0 := HB.out.f0; have f1 := HB.out.f1; have lz := HB.out.lt
      clear hv
      go_wp2_with fail
      refine bodyPost_ret (v := (.agg #[.int .i64 0, .int .i64 0])) (by simp [results, Try.results12, go_sem, *]) rfl ⟨by rw [HV.out], ?_⟩
      ((repeat (first | exact HB.out.k | exact kp_refl _ | apply kp_alloc | apply kp_drew | apply kp_drewN | refine kp_set ?_ ?_ _)); all_goals (first | exact Nat.le_refl _ | (simp; done) | omega))
theorem check_any (v : Value) (l : List Pt) (w : World) (h : RdC w v l) (hl : l.length ≤ 100000) : Calls Try.prog 12 #[v] w fun e w' => e = .returned (.agg #[.int .i64 (chk l).1, .int .i64 (chk l).2]) ∧ Kp w w' := by
  by_cases ho : l.length < 3 ∨ 200 < l.length
  · obtain ⟨_, ⟨rfl, hn⟩ | ⟨ad, cap, rfl, _⟩⟩ := h
    · exact check_out none 0 0 l w (by rw [hn]; rfl) (by omega) (by omega)
    · exact check_out (some ad) l.length cap l w rfl hl ho
  · obtain ⟨_, ⟨_, hn⟩ | ⟨b, off, cap, rfl, hp⟩⟩ := h.rd (by rintro rfl; simp at ho)
    · rw [hn] at ho; simp at ho
    · exact check_in b off l.length cap l w hp rfl (by omega) (by omega)
end Go.Proofs.Ytcpbemoiodbliaa
