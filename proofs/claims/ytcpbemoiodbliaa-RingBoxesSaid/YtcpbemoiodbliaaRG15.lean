/- Contracts of Same, of the reference's Same, and of over. -/
import Derived.Test.YtcpbemoiodbliaaRG14
import Derived.Test.YtcpbemoiodbliaaMP
import Derived.BigQuiet
namespace Go.Proofs.Ytcpbemoiodbliaa
open Go.RowKit Go.Proofs.Geo
set_option linter.unusedVariables false
set_option maxHeartbeats 8000000 in
set_option maxRecDepth 100000 in
theorem sameR_any (va vb : Value) (a b : List Pt) (w : World) (h : RdL w va a) (g : RdL w vb b) (hl : a.length ≤ 10000) (hm : b.length ≤ 10000) : Calls Try.prog 29 #[va, vb] w fun e w' => e = .returned (.bool (sameR a b)) ∧ Kp w w' := by
  obtain ⟨p, hp⟩ : ∃ p, decide (signR a ≠ 0) = p := ⟨_, rfl⟩
  obtain ⟨q, hq⟩ : ∃ p, decide (signR b ≠ 0) = p := ⟨_, rfl⟩
  have HS : Hid (sameR a b = (p && q && decide (normR a = normR b))) := Lib.hid (by unfold sameR; rw [hp, hq])
  have na := normal_any va a
  have nb := normal_any vb b
  have hna : ∀ w, RdL w va a → Calls Try.prog 22 #[va] w (fun e w' => ∃ v, e = .returned (.tuple #[v, .bool p]) ∧ OwnP w' w.heap.size v (normR a) ∧ Kp w w') := fun w h => (na w h hl).mono fun e w' ⟨v, h1, h2⟩ => ⟨v, by rw [← hp]; exact h1, h2⟩
  have hnb : ∀ w, RdL w vb b → Calls Try.prog 22 #[vb] w (fun e w' => ∃ v, e = .returned (.tuple #[v, .bool q]) ∧ OwnP w' w.heap.size v (normR b) ∧ Kp w w') := fun w h => (nb w h hm).mono fun e w' ⟨v, h1, h2⟩ => ⟨v, by rw [← hq]; exact h1, h2⟩
  have HNA := Lib.hid hna; have HNB := Lib.hid hnb; have HA := Lib.hid h; have HB := Lib.hid g; have HLA := Lib.hid hl; have HLB := Lib.hid hm
  have HLN : Hid ((normR a).length ≤ 10000000000 ∧ (normR b).length ≤ 10000000000) := Lib.hid (by have := norm_le a; have := norm_le b; omega)
  clear hna hnb na nb hp hq h g hl hm
  cases p
  · go_enter Try.func29, Try.ntmps29
    go_wp2_with (first
      | (go_at_call 22; have KB := K1; refine (HNB.out _ (HB.out.kp K1.out)).mono ?_; rintro e w2 ⟨v2, rfl, ho, hk⟩; have K2 := Lib.hid (kp_trans K1.out hk); clear ho hk)
      | (go_at_call 22; refine (HNA.out _ HA.out).mono ?_; rintro e w1 ⟨v1, rfl, ho, hk⟩; have K1 := Lib.hid hk; clear ho hk))
    go_ret
    exact ⟨by rw [HS.out]; rfl, K2.out⟩
  cases q
  · go_enter Try.func29, Try.ntmps29
    go_wp2_with (first
      | (go_at_call 22; have KB := K1; refine (HNB.out _ (HB.out.kp K1.out)).mono ?_; rintro e w2 ⟨v2, rfl, ho, hk⟩; have K2 := Lib.hid (kp_trans K1.out hk); clear ho hk)
      | (go_at_call 22; refine (HNA.out _ HA.out).mono ?_; rintro e w1 ⟨v1, rfl, ho, hk⟩; have K1 := Lib.hid hk; clear ho hk))
    go_ret
    exact ⟨by rw [HS.out]; rfl, K2.out⟩
  · go_enter Try.func29, Try.ntmps29
    go_wp2_with (first
      | (go_at_call 22; have KB := K1; refine (HNB.out _ (HB.out.kp K1.out)).mono ?_; rintro e w2 ⟨v2, rfl, ho, hk⟩; have K2 := Lib.hid (kp_trans K1.out hk); have RA := Lib.hid (R1.out.kp hk); have RB := Lib.hid (ho.rdc (Nat.le_trans HLN.out.2 (by decide))); clear ho hk)
      | (go_at_call 22; refine (HNA.out _ HA.out).mono ?_; rintro e w1 ⟨v1, rfl, ho, hk⟩; have K1 := Lib.hid hk; have R1 := Lib.hid (ho.rdc (Nat.le_trans HLN.out.1 (by decide))); clear ho hk)
      | (go_at_call 55; refine (equal_any _ _ (normR a) (normR b) _ RA.out RB.out HLN.out.1).mono ?_; rintro e w3 ⟨rfl, hk⟩; have K3 := Lib.hid (kp_trans K2.out hk); clear hk))
    go_ret
    exact ⟨by rw [HS.out]; rfl, K3.out⟩
set_option linter.unusedVariables false
set_option maxHeartbeats 8000000 in
set_option maxRecDepth 100000 in
theorem same9_bad (a1 b1 : Option Addr) (na ca nb cb : Nat) (a b : List Pt) (w : World) (e1 q1 e2 q2 : Int) (hb1 : na ≤ 10000) (hb2 : nb ≤ 10000) (HCA : Hid (∀ w, RdC w (.slice a1 na ca) a → Calls Try.prog 13 #[.slice a1 na ca] w fun e w' => e = .returned (.agg #[.int .i64 e1, .int .i64 q1]) ∧ Kp w w')) (HCB : Hid (∀ w, RdC w (.slice b1 nb cb) b → Calls Try.prog 13 #[.slice b1 nb cb] w fun e w' => e = .returned (.agg #[.int .i64 e2, .int .i64 q2]) ∧ Kp w w'))
    (HRA : Hid (RdC w (.slice a1 na ca) a)) (HRB : Hid (RdC w (.slice b1 nb cb) b)) (hbad : e1 ≠ 0 ∨ (e1 = 0 ∧ e2 ≠ 0) ∨ (e1 = 0 ∧ e2 = 0 ∧ na ≠ nb)) : Calls Try.prog 30 #[.slice a1 na ca, .slice b1 nb cb] w fun e w' => e = .returned (.bool false) ∧ Kp w w' := by
  rcases hbad with h1 | ⟨rfl, h2⟩ | ⟨rfl, rfl, h3⟩
  · have t1 : (e1 != 0) = true := by simpa using h1
    have hfl := fld_err e1 q1
    go_enter Try.func30, Try.ntmps30
    go_wp2_with (go_at_call 13; refine (HCA.out _ HRA.out).mono ?_; rintro e w1 ⟨rfl, hk⟩; have K1 := Lib.hid hk; clear hk)
    go_ret
    exact ⟨rfl, K1.out⟩
  · have t1 : (e2 != 0) = true := by simpa using h2
    have hfl := fld_err 0 q1
    have hfl2 := fld_err e2 q2
    go_enter Try.func30, Try.ntmps30
    go_wp2_with (first | (go_at_call 13; have KB := K1; refine (HCB.out _ (HRB.out.kp K1.out)).mono ?_; rintro e w2 ⟨rfl, hk⟩; have K2 := Lib.hid (kp_trans K1.out hk); clear hk) | (go_at_call 13; refine (HCA.out _ HRA.out).mono ?_; rintro e w1 ⟨rfl, hk⟩; have K1 := Lib.hid hk; clear hk))
    go_ret
    exact ⟨rfl, K2.out⟩
  · have t1 : ((na : Int) != (nb : Int)) = true := by simp; omega
    have hfl := fld_err 0 q1
    have hfl2 := fld_err 0 q2
    go_enter Try.func30, Try.ntmps30
    go_wp2_with (first | (go_at_call 13; have KB := K1; refine (HCB.out _ (HRB.out.kp K1.out)).mono ?_; rintro e w2 ⟨rfl, hk⟩; have K2 := Lib.hid (kp_trans K1.out hk); clear hk) | (go_at_call 13; refine (HCA.out _ HRA.out).mono ?_; rintro e w1 ⟨rfl, hk⟩; have K1 := Lib.hid hk; clear hk))
    go_ret
    exact ⟨rfl, K2.out⟩
set_option maxHeartbeats 8000000 in
set_option maxRecDepth 100000 in
theorem same9_in (ba oa ca bb ob cb len : Nat) (a b : List Pt) (w : World) (q1 q2 : Int) (h0 : 0 < len) (hl : len ≤ 200)
    (HLA : Hid (a.length = len)) (HLB : Hid (b.length = len)) (HPA : Hid (PtsAt w ba oa a)) (HOK : Hid (okR a = true ∧ okR b = true ∧ decide (a.length = b.length) = true))
    (HCA : Hid (∀ w, RdC w (.slice (some ⟨ba, oa, none⟩) len ca) a → Calls Try.prog 13 #[.slice (some ⟨ba, oa, none⟩) len ca] w fun e w' => e = .returned (.agg #[.int .i64 0, .int .i64 q1]) ∧ Kp w w'))
    (HCB : Hid (∀ w, RdC w (.slice (some ⟨bb, ob, none⟩) len cb) b → Calls Try.prog 13 #[.slice (some ⟨bb, ob, none⟩) len cb] w fun e w' => e = .returned (.agg #[.int .i64 0, .int .i64 q2]) ∧ Kp w w'))
    (HRA : Hid (RdC w (.slice (some ⟨ba, oa, none⟩) len ca) a)) (HRB : Hid (RdC w (.slice (some ⟨bb, ob, none⟩) len cb) b)) :
    Calls Try.prog 30 #[.slice (some ⟨ba, oa, none⟩) len ca, .slice (some ⟨bb, ob, none⟩) len cb] w fun e w' => e = .returned (.bool (same9R a b)) ∧ Kp w w' := by
  have hfl := fld_err 0 q1
  have hfl2 := fld_err 0 q2
  go_enter Try.func30, Try.ntmps30
  go_wp2_with (first | (go_at_call 13; have KB := K1; refine (HCB.out _ (HRB.out.kp K1.out)).mono ?_; rintro e w2 ⟨rfl, hk⟩; have K2 := Lib.hid (kp_trans K1.out hk); clear hk) | (go_at_call 13; refine (HCA.out _ HRA.out).mono ?_; rintro e w1 ⟨rfl, hk⟩; have K1 := Lib.hid hk; clear hk))
  go_loopw [1, 5] (fun s t wr => ∃ n : Nat, n ≤ 2 ∧ t = .int .i64 n ∧ (n < 2 → RdC wr s (if n = 0 then b else b.reverse)) ∧ Kp w wr ∧ (1 ≤ n → rotB a b = false) ∧ (2 ≤ n → rotB a b.reverse = false)) (fun _ t _ => 2 - (intOf t).toNat)
  case atStart => exact ⟨0, by omega, rfl, fun _ => HRB.out.kp K2.out, K2.out, fun h => by omega, fun h => by omega⟩
  case round =>
    obtain ⟨n, hn2, rfl, hrd, hkp, hno1, hno2⟩ := hrel
    have hn' : n = 0 ∨ n = 1 ∨ n = 2 := by omega
    rcases hn' with rfl | rfl | rfl
    · rw [show ((0 : Nat) : Int) = 0 from rfl]
      obtain ⟨m, hm⟩ : ∃ m, b = m := ⟨_, rfl⟩
      have HM := Lib.hid hm
      have HYES := Lib.hid (show rotB a m = true → same9R a b = true from fun h => by unfold same9R; rw [HOK.out.1, HOK.out.2.1, HOK.out.2.2]; rw [← hm] at h; rw [h]; simp)
      have HLM := Lib.hid (show m.length = len by rw [← hm]; simp [HLB.out])
      have hrm : RdC wr u1 m := by rw [← hm]; exact hrd (by omega)
      have HRM := Lib.hid hrm
      obtain ⟨_, ⟨_, hn⟩ | ⟨bm, om, cm, hv, hpm⟩⟩ := hrm.rd (by rintro rfl; have := HLM.out; simp at this; omega)
      · exact absurd hn (by rintro rfl; have := HLM.out; simp at this; omega)
      rw [HLM.out] at hv
      subst hv
      have HPM := Lib.hid hpm
      have HKW := Lib.hid hkp
      have HNO := Lib.hid hno1
      obtain ⟨W1, hW1⟩ : ∃ W, wr = W := ⟨_, rfl⟩
      rw [hW1] at HRM HPM HKW ⊢
      clear hW1 hpm hkp hrd hno1 hno2 hrm hm
      go_wp2_with fail
      go_loopw [6] (fun s wr => ∃ i : Nat, i ≤ len ∧ s = .int .i64 i ∧ Kp W1 wr ∧ ∀ j, j < i → eqK a m j len = false) (fun s _ => len - (intOf s).toNat)
      case atStart => exact ⟨0, by omega, rfl, kp_refl _, fun j h => by omega⟩
      case round =>
        obtain ⟨i, hi, rfl, hkp, hall⟩ := hrel
        have HALL := Lib.hid hall
        have HK1 := Lib.hid (kp_trans HKW.out hkp)
        have HKp := Lib.hid hkp
        clear hall hkp
        by_cases hlt : i < len
        · obtain ⟨W2, hW2⟩ : ∃ W, wr = W := ⟨_, rfl⟩
          rw [hW2] at HK1 HKp ⊢
          clear hW2
          go_wp2_with fail
          go_loopw [7, 8] (fun s c wr => ∃ k : Nat, k ≤ len ∧ c = .int .i64 k ∧ s = .bool (eqK a m i k) ∧ Kp W2 wr) (fun _ c _ => len - (intOf c).toNat)
          case atStart => exact ⟨0, by omega, rfl, rfl, kp_refl _⟩
          case round =>
            obtain ⟨k, hk, rfl, rfl, hkp⟩ := hrel
            have HK2 := Lib.hid (kp_trans HK1.out hkp)
            have HKq := Lib.hid (kp_trans HKp.out hkp)
            have HKr := Lib.hid hkp
            clear hkp
            have hnx := eqK_succ a m i k
            have hfin : k = len → eqK a m i len = eqK a m i k := fun h => by rw [h]
            have hmono : eqK a m i k = false → eqK a m i len = false := eqK_mono hk
            cases hb : eqK a m i k
            · have HF := Lib.hid (hmono hb)
              clear hnx hfin hmono hb
              by_cases hlk : k < len
              all_goals go_wp2_with fail
              all_goals
                refine ⟨⟨i + 1, by omega, by go_num, HKq.out, fun j hj => ?_⟩, by simp [intOf]; omega⟩
                by_cases e : j = i
                · subst e; exact HF.out
                · exact HALL.out j (by omega)
            · by_cases hlk : k < len
              · rw [hb] at hnx
                obtain ⟨y0, y1⟩ := pt_lt (HPA.out.kp HK2.out) (show k < a.length by rw [HLA.out]; exact hlk)
                obtain ⟨x, hx⟩ : ∃ x, (pt a k).1 = x := ⟨_, rfl⟩
                obtain ⟨y, hy⟩ : ∃ x, (pt a k).2 = x := ⟨_, rfl⟩
                obtain ⟨z, hz⟩ : ∃ x, (rat m ((i : Int) + k)).1 = x := ⟨_, rfl⟩
                obtain ⟨u, hu⟩ : ∃ x, (rat m ((i : Int) + k)).2 = x := ⟨_, rfl⟩
                have hpk : pt a k = (x, y) := by rw [← hx, ← hy]
                have hqk : rat m ((i : Int) + k) = (z, u) := by rw [← hz, ← hu]
                have ca := fun (w : World) hp => rat9_any bm om len cm m ((i : Int) + k) w hp HLM.out.symm (by omega) (by omega)
                rw [hqk] at ca hnx
                rw [hpk] at hnx
                rw [hx] at y0; rw [hy] at y1
                have CA := Lib.hid ca
                have lb : ba < wr.heap.size := cell_lt y0
                have c1 : (0 : Int) ≤ (k : Int) := by omega
                have c2 : (k : Int) < (len : Int) := by omega
                have wk : IntKind.i64.wrap ((i : Int) + (k : Int)) = (i : Int) + (k : Int) := IntWalk.i64_in _ (by omega)
                have K : Kp wr wr := kp_refl _
                clear hx hy hz hu hpk hqk ca hmono hfin hb
                have hc : (x = z ∧ y = u) ∨ (x == z) = false ∨ (x = z ∧ (y == u) = false) := by
                  by_cases h1 : x = z
                  · by_cases h2 : y = u
                    · exact .inl ⟨h1, h2⟩
                    · exact .inr (.inr ⟨h1, by simpa using h2⟩)
                  · exact .inr (.inl (by simpa using h1))
                rcases hc with ⟨rfl, rfl⟩ | h1 | ⟨rfl, h2⟩
                · have HNX := Lib.hid (show eqK a m i (k + 1) = true by rw [hnx]; simp)
                  clear hnx
                  go_wp2_with fail
                  go_region_held3 (fun w' => Kp wr w' ∧ w'.cell? ⟨ba, oa + k * 2, none⟩ = some (.int .i64 x) ∧ w'.cell? ⟨ba, oa + k * 2 + 1, none⟩ = some (.int .i64 y)) ((first | (with_reducible exact ⟨K, y0, y1⟩) | (with_reducible exact ⟨kp_drew K, cell_d y0, cell_d y1⟩)))
                    (first
                      | (go_at_call 54; refine (CA.out _ (HPM.out.kp (kp_trans HKq.out (by first | exact K | exact kp_drew K)))).mono ?_; rintro e w4 ⟨rfl, hk⟩; replace y0 : w4.cell? ⟨ba, oa + k * 2, none⟩ = some (.int .i64 x) := kp_cell hk (by first | exact y0 | exact cell_d y0 | exact cell_a y0 _ | exact cell_a (cell_d y0) _); replace y1 : w4.cell? ⟨ba, oa + k * 2 + 1, none⟩ = some (.int .i64 y) := kp_cell hk (by first | exact y1 | exact cell_d y1 | exact cell_a y1 _ | exact cell_a (cell_d y1) _); replace K : Kp wr w4 := kp_trans (by first | exact K | exact kp_drew K | exact kp_alloc K _ | exact kp_alloc (kp_drew K) _) hk; replace lb : ba < w4.heap.size := cell_lt y0; clear hk))
                  go_wp2_with fail
                  go_roundw
                  case rel => exact ⟨k + 1, by omega, by go_num, by rw [HNX.out], kp_trans HKr.out K⟩
                  case measure => simp [intOf]; omega
                · have HNX := Lib.hid (show eqK a m i (k + 1) = false by rw [hnx]; simp at h1 ⊢; intro e; exact absurd e h1)
                  clear hnx
                  go_wp2_with fail
                  go_region_held3 (fun w' => Kp wr w' ∧ w'.cell? ⟨ba, oa + k * 2, none⟩ = some (.int .i64 x) ∧ w'.cell? ⟨ba, oa + k * 2 + 1, none⟩ = some (.int .i64 y)) ((first | (with_reducible exact ⟨K, y0, y1⟩) | (with_reducible exact ⟨kp_drew K, cell_d y0, cell_d y1⟩)))
                    (first
                      | (go_at_call 54; refine (CA.out _ (HPM.out.kp (kp_trans HKq.out (by first | exact K | exact kp_drew K)))).mono ?_; rintro e w4 ⟨rfl, hk⟩; replace y0 : w4.cell? ⟨ba, oa + k * 2, none⟩ = some (.int .i64 x) := kp_cell hk (by first | exact y0 | exact cell_d y0 | exact cell_a y0 _ | exact cell_a (cell_d y0) _); replace y1 : w4.cell? ⟨ba, oa + k * 2 + 1, none⟩ = some (.int .i64 y) := kp_cell hk (by first | exact y1 | exact cell_d y1 | exact cell_a y1 _ | exact cell_a (cell_d y1) _); replace K : Kp wr w4 := kp_trans (by first | exact K | exact kp_drew K | exact kp_alloc K _ | exact kp_alloc (kp_drew K) _) hk; replace lb : ba < w4.heap.size := cell_lt y0; clear hk))
                  go_wp2_with fail
                  go_roundw
                  case rel => exact ⟨k + 1, by omega, by go_num, by rw [HNX.out], kp_trans HKr.out K⟩
                  case measure => simp [intOf]; omega
                · have HNX := Lib.hid (show eqK a m i (k + 1) = false by rw [hnx]; simp at h2 ⊢; exact h2)
                  clear hnx
                  go_wp2_with fail
                  go_region_held3 (fun w' => Kp wr w' ∧ w'.cell? ⟨ba, oa + k * 2, none⟩ = some (.int .i64 x) ∧ w'.cell? ⟨ba, oa + k * 2 + 1, none⟩ = some (.int .i64 y)) ((first | (with_reducible exact ⟨K, y0, y1⟩) | (with_reducible exact ⟨kp_drew K, cell_d y0, cell_d y1⟩)))
                    (first
                      | (go_at_call 54; refine (CA.out _ (HPM.out.kp (kp_trans HKq.out (by first | exact K | exact kp_drew K)))).mono ?_; rintro e w4 ⟨rfl, hk⟩; replace y0 : w4.cell? ⟨ba, oa + k * 2, none⟩ = some (.int .i64 x) := kp_cell hk (by first | exact y0 | exact cell_d y0 | exact cell_a y0 _ | exact cell_a (cell_d y0) _); replace y1 : w4.cell? ⟨ba, oa + k * 2 + 1, none⟩ = some (.int .i64 y) := kp_cell hk (by first | exact y1 | exact cell_d y1 | exact cell_a y1 _ | exact cell_a (cell_d y1) _); replace K : Kp wr w4 := kp_trans (by first | exact K | exact kp_drew K | exact kp_alloc K _ | exact kp_alloc (kp_drew K) _) hk; replace lb : ba < w4.heap.size := cell_lt y0; clear hk))
                  go_wp2_with fail
                  go_roundw
                  case rel => exact ⟨k + 1, by omega, by go_num, by rw [HNX.out], kp_trans HKr.out K⟩
                  case measure => simp [intOf]; omega
              · obtain rfl : len = k := by omega
                have HT := Lib.hid (HYES.out (any_range_true (show i < m.length by rw [HLM.out]; exact hlt) (by rw [HLA.out]; exact hb)))
                clear hnx hfin hmono hb
                go_wp2_with fail
                go_ret
                exact ⟨by rw [HT.out]; rfl, HK2.out⟩
        · obtain rfl : len = i := by omega
          have HNO2 := Lib.hid (show rotB a m = false from any_range_false fun j hj => by rw [HLA.out]; exact HALL.out j (by rw [HLM.out] at hj; exact hj))
          go_wp2_with (go_at_call 26; refine (turned9_any _ m _ (HRM.out.kp HKp.out) (by rw [HLM.out]; omega)).mono ?_; rintro e w5 ⟨v5, rfl, ho, hk⟩; have HK5 := Lib.hid (kp_trans HK1.out hk); have HR5 := Lib.hid (ho.rdc (by simp [HLM.out]; omega)); clear ho hk)
          exact ⟨⟨1, by omega, rfl, fun _ => by rw [if_neg (by omega), HM.out]; exact HR5.out, HK5.out, fun _ => by rw [HM.out]; exact HNO2.out, fun h => by omega⟩, by simp [intOf]⟩
    · rw [show ((1 : Nat) : Int) = 1 from rfl]
      obtain ⟨m, hm⟩ : ∃ m, b.reverse = m := ⟨_, rfl⟩
      have HM := Lib.hid hm
      have HYES := Lib.hid (show rotB a m = true → same9R a b = true from fun h => by unfold same9R; rw [HOK.out.1, HOK.out.2.1, HOK.out.2.2]; rw [← hm] at h; rw [h]; simp)
      have HLM := Lib.hid (show m.length = len by rw [← hm]; simp [HLB.out])
      have hrm : RdC wr u1 m := by rw [← hm]; exact hrd (by omega)
      have HRM := Lib.hid hrm
      obtain ⟨_, ⟨_, hn⟩ | ⟨bm, om, cm, hv, hpm⟩⟩ := hrm.rd (by rintro rfl; have := HLM.out; simp at this; omega)
      · exact absurd hn (by rintro rfl; have := HLM.out; simp at this; omega)
      rw [HLM.out] at hv
      subst hv
      have HPM := Lib.hid hpm
      have HKW := Lib.hid hkp
      have HNO := Lib.hid hno1
      obtain ⟨W1, hW1⟩ : ∃ W, wr = W := ⟨_, rfl⟩
      rw [hW1] at HRM HPM HKW ⊢
      clear hW1 hpm hkp hrd hno1 hno2 hrm hm
      go_wp2_with fail
      go_loopw [6] (fun s wr => ∃ i : Nat, i ≤ len ∧ s = .int .i64 i ∧ Kp W1 wr ∧ ∀ j, j < i → eqK a m j len = false) (fun s _ => len - (intOf s).toNat)
      case atStart => exact ⟨0, by omega, rfl, kp_refl _, fun j h => by omega⟩
      case round =>
        obtain ⟨i, hi, rfl, hkp, hall⟩ := hrel
        have HALL := Lib.hid hall
        have HK1 := Lib.hid (kp_trans HKW.out hkp)
        have HKp := Lib.hid hkp
        clear hall hkp
        by_cases hlt : i < len
        · obtain ⟨W2, hW2⟩ : ∃ W, wr = W := ⟨_, rfl⟩
          rw [hW2] at HK1 HKp ⊢
          clear hW2
          go_wp2_with fail
          go_loopw [7, 8] (fun s c wr => ∃ k : Nat, k ≤ len ∧ c = .int .i64 k ∧ s = .bool (eqK a m i k) ∧ Kp W2 wr) (fun _ c _ => len - (intOf c).toNat)
          case atStart => exact ⟨0, by omega, rfl, rfl, kp_refl _⟩
          case round =>
            obtain ⟨k, hk, rfl, rfl, hkp⟩ := hrel
            have HK2 := Lib.hid (kp_trans HK1.out hkp)
            have HKq := Lib.hid (kp_trans HKp.out hkp)
            have HKr := Lib.hid hkp
            clear hkp
            have hnx := eqK_succ a m i k
            have hfin : k = len → eqK a m i len = eqK a m i k := fun h => by rw [h]
            have hmono : eqK a m i k = false → eqK a m i len = false := eqK_mono hk
            cases hb : eqK a m i k
            · have HF := Lib.hid (hmono hb)
              clear hnx hfin hmono hb
              by_cases hlk : k < len
              all_goals go_wp2_with fail
              all_goals
                refine ⟨⟨i + 1, by omega, by go_num, HKq.out, fun j hj => ?_⟩, by simp [intOf]; omega⟩
                by_cases e : j = i
                · subst e; exact HF.out
                · exact HALL.out j (by omega)
            · by_cases hlk : k < len
              · rw [hb] at hnx
                obtain ⟨y0, y1⟩ := pt_lt (HPA.out.kp HK2.out) (show k < a.length by rw [HLA.out]; exact hlk)
                obtain ⟨x, hx⟩ : ∃ x, (pt a k).1 = x := ⟨_, rfl⟩
                obtain ⟨y, hy⟩ : ∃ x, (pt a k).2 = x := ⟨_, rfl⟩
                obtain ⟨z, hz⟩ : ∃ x, (rat m ((i : Int) + k)).1 = x := ⟨_, rfl⟩
                obtain ⟨u, hu⟩ : ∃ x, (rat m ((i : Int) + k)).2 = x := ⟨_, rfl⟩
                have hpk : pt a k = (x, y) := by rw [← hx, ← hy]
                have hqk : rat m ((i : Int) + k) = (z, u) := by rw [← hz, ← hu]
                have ca := fun (w : World) hp => rat9_any bm om len cm m ((i : Int) + k) w hp HLM.out.symm (by omega) (by omega)
                rw [hqk] at ca hnx
                rw [hpk] at hnx
                rw [hx] at y0; rw [hy] at y1
                have CA := Lib.hid ca
                have lb : ba < wr.heap.size := cell_lt y0
                have c1 : (0 : Int) ≤ (k : Int) := by omega
                have c2 : (k : Int) < (len : Int) := by omega
                have wk : IntKind.i64.wrap ((i : Int) + (k : Int)) = (i : Int) + (k : Int) := IntWalk.i64_in _ (by omega)
                have K : Kp wr wr := kp_refl _
                clear hx hy hz hu hpk hqk ca hmono hfin hb
                have hc : (x = z ∧ y = u) ∨ (x == z) = false ∨ (x = z ∧ (y == u) = false) := by
                  by_cases h1 : x = z
                  · by_cases h2 : y = u
                    · exact .inl ⟨h1, h2⟩
                    · exact .inr (.inr ⟨h1, by simpa using h2⟩)
                  · exact .inr (.inl (by simpa using h1))
                rcases hc with ⟨rfl, rfl⟩ | h1 | ⟨rfl, h2⟩
                · have HNX := Lib.hid (show eqK a m i (k + 1) = true by rw [hnx]; simp)
                  clear hnx
                  go_wp2_with fail
                  go_region_held3 (fun w' => Kp wr w' ∧ w'.cell? ⟨ba, oa + k * 2, none⟩ = some (.int .i64 x) ∧ w'.cell? ⟨ba, oa + k * 2 + 1, none⟩ = some (.int .i64 y)) ((first | (with_reducible exact ⟨K, y0, y1⟩) | (with_reducible exact ⟨kp_drew K, cell_d y0, cell_d y1⟩)))
                    (first
                      | (go_at_call 54; refine (CA.out _ (HPM.out.kp (kp_trans HKq.out (by first | exact K | exact kp_drew K)))).mono ?_; rintro e w4 ⟨rfl, hk⟩; replace y0 : w4.cell? ⟨ba, oa + k * 2, none⟩ = some (.int .i64 x) := kp_cell hk (by first | exact y0 | exact cell_d y0 | exact cell_a y0 _ | exact cell_a (cell_d y0) _); replace y1 : w4.cell? ⟨ba, oa + k * 2 + 1, none⟩ = some (.int .i64 y) := kp_cell hk (by first | exact y1 | exact cell_d y1 | exact cell_a y1 _ | exact cell_a (cell_d y1) _); replace K : Kp wr w4 := kp_trans (by first | exact K | exact kp_drew K | exact kp_alloc K _ | exact kp_alloc (kp_drew K) _) hk; replace lb : ba < w4.heap.size := cell_lt y0; clear hk))
                  go_wp2_with fail
                  go_roundw
                  case rel => exact ⟨k + 1, by omega, by go_num, by rw [HNX.out], kp_trans HKr.out K⟩
                  case measure => simp [intOf]; omega
                · have HNX := Lib.hid (show eqK a m i (k + 1) = false by rw [hnx]; simp at h1 ⊢; intro e; exact absurd e h1)
                  clear hnx
                  go_wp2_with fail
                  go_region_held3 (fun w' => Kp wr w' ∧ w'.cell? ⟨ba, oa + k * 2, none⟩ = some (.int .i64 x) ∧ w'.cell? ⟨ba, oa + k * 2 + 1, none⟩ = some (.int .i64 y)) ((first | (with_reducible exact ⟨K, y0, y1⟩) | (with_reducible exact ⟨kp_drew K, cell_d y0, cell_d y1⟩)))
                    (first
                      | (go_at_call 54; refine (CA.out _ (HPM.out.kp (kp_trans HKq.out (by first | exact K | exact kp_drew K)))).mono ?_; rintro e w4 ⟨rfl, hk⟩; replace y0 : w4.cell? ⟨ba, oa + k * 2, none⟩ = some (.int .i64 x) := kp_cell hk (by first | exact y0 | exact cell_d y0 | exact cell_a y0 _ | exact cell_a (cell_d y0) _); replace y1 : w4.cell? ⟨ba, oa + k * 2 + 1, none⟩ = some (.int .i64 y) := kp_cell hk (by first | exact y1 | exact cell_d y1 | exact cell_a y1 _ | exact cell_a (cell_d y1) _); replace K : Kp wr w4 := kp_trans (by first | exact K | exact kp_drew K | exact kp_alloc K _ | exact kp_alloc (kp_drew K) _) hk; replace lb : ba < w4.heap.size := cell_lt y0; clear hk))
                  go_wp2_with fail
                  go_roundw
                  case rel => exact ⟨k + 1, by omega, by go_num, by rw [HNX.out], kp_trans HKr.out K⟩
                  case measure => simp [intOf]; omega
                · have HNX := Lib.hid (show eqK a m i (k + 1) = false by rw [hnx]; simp at h2 ⊢; exact h2)
                  clear hnx
                  go_wp2_with fail
                  go_region_held3 (fun w' => Kp wr w' ∧ w'.cell? ⟨ba, oa + k * 2, none⟩ = some (.int .i64 x) ∧ w'.cell? ⟨ba, oa + k * 2 + 1, none⟩ = some (.int .i64 y)) ((first | (with_reducible exact ⟨K, y0, y1⟩) | (with_reducible exact ⟨kp_drew K, cell_d y0, cell_d y1⟩)))
                    (first
                      | (go_at_call 54; refine (CA.out _ (HPM.out.kp (kp_trans HKq.out (by first | exact K | exact kp_drew K)))).mono ?_; rintro e w4 ⟨rfl, hk⟩; replace y0 : w4.cell? ⟨ba, oa + k * 2, none⟩ = some (.int .i64 x) := kp_cell hk (by first | exact y0 | exact cell_d y0 | exact cell_a y0 _ | exact cell_a (cell_d y0) _); replace y1 : w4.cell? ⟨ba, oa + k * 2 + 1, none⟩ = some (.int .i64 y) := kp_cell hk (by first | exact y1 | exact cell_d y1 | exact cell_a y1 _ | exact cell_a (cell_d y1) _); replace K : Kp wr w4 := kp_trans (by first | exact K | exact kp_drew K | exact kp_alloc K _ | exact kp_alloc (kp_drew K) _) hk; replace lb : ba < w4.heap.size := cell_lt y0; clear hk))
                  go_wp2_with fail
                  go_roundw
                  case rel => exact ⟨k + 1, by omega, by go_num, by rw [HNX.out], kp_trans HKr.out K⟩
                  case measure => simp [intOf]; omega
              · obtain rfl : len = k := by omega
                have HT := Lib.hid (HYES.out (any_range_true (show i < m.length by rw [HLM.out]; exact hlt) (by rw [HLA.out]; exact hb)))
                clear hnx hfin hmono hb
                go_wp2_with fail
                go_ret
                exact ⟨by rw [HT.out]; rfl, HK2.out⟩
        · obtain rfl : len = i := by omega
          have HNO2 := Lib.hid (show rotB a m = false from any_range_false fun j hj => by rw [HLA.out]; exact HALL.out j (by rw [HLM.out] at hj; exact hj))
          go_wp2_with (go_at_call 26; refine (turned9_any _ m _ (HRM.out.kp HKp.out) (by rw [HLM.out]; omega)).mono ?_; rintro e w5 ⟨v5, rfl, ho, hk⟩; have HK5 := Lib.hid (kp_trans HK1.out hk); have HR5 := Lib.hid (ho.rdc (by simp [HLM.out]; omega)); clear ho hk)
          exact ⟨⟨2, by omega, rfl, fun h => by omega, HK5.out, fun _ => HNO.out (by omega), fun _ => by rw [HM.out]; exact HNO2.out⟩, by simp [intOf]⟩
    · have HF : Hid (same9R a b = false) := Lib.hid (by unfold same9R; rw [hno1 (by omega), hno2 (by omega)]; simp)
      have HK := Lib.hid hkp
      clear hno1 hno2 hkp hrd
      go_wp2_with fail
      go_ret
      exact ⟨by rw [HF.out]; rfl, HK.out⟩
theorem same9R_any (va vb : Value) (a b : List Pt) (w : World) (h : RdC w va a) (g : RdC w vb b) (hl : a.length ≤ 10000) (hm : b.length ≤ 10000) : Calls Try.prog 30 #[va, vb] w fun e w' => e = .returned (.bool (same9R a b)) ∧ Kp w w' := by
  have sh : ∀ (v : Value) (l : List Pt), RdC w v l → ∃ a cap, v = .slice a l.length cap := by
    rintro v l ⟨_, ⟨rfl, hn⟩ | ⟨ad, cap, rfl, _⟩⟩
    · exact ⟨none, 0, by rw [hn]; rfl⟩
    · exact ⟨_, _, rfl⟩
  have ha := fun w h => check9_any va a w h (by omega)
  have hb := fun w h => check9_any vb b w h (by omega)
  by_cases hbad : (chk a).1 ≠ 0 ∨ ((chk a).1 = 0 ∧ (chk b).1 ≠ 0) ∨ ((chk a).1 = 0 ∧ (chk b).1 = 0 ∧ a.length ≠ b.length)
  · have hs : same9R a b = false := by
      unfold same9R okR
      rcases hbad with h1 | ⟨_, h2⟩ | ⟨_, _, h3⟩
      · rw [decide_eq_false h1]; rfl
      · rw [decide_eq_false h2]; simp
      · rw [decide_eq_false h3]; simp
    rw [hs]
    obtain ⟨a1, ca, rfl⟩ := sh _ _ h
    obtain ⟨b1, cb, rfl⟩ := sh _ _ g
    exact same9_bad a1 b1 _ ca _ cb a b w _ _ _ _ hl hm (Lib.hid ha) (Lib.hid hb) (Lib.hid h) (Lib.hid g) hbad
  · have e1 : (chk a).1 = 0 := by omega
    have e2 : (chk b).1 = 0 := by omega
    have e3 : b.length = a.length := by omega
    have o1 : okR a = true := decide_eq_true e1
    have o2 : okR b = true := decide_eq_true e2
    have l1 := okR_iff.1 o1
    rw [e1] at ha
    rw [e2] at hb
    obtain ⟨_, ⟨_, hn⟩ | ⟨b1, f1, c1, rfl, hp⟩⟩ := h.rd (by rintro rfl; simp at l1)
    · rw [hn] at l1; simp at l1
    obtain ⟨_, ⟨_, hn⟩ | ⟨b2, f2, c2, rfl, hq⟩⟩ := g.rd (by rintro rfl; simp at e3; omega)
    · rw [hn] at e3; simp at e3; omega
    rw [e3] at hb g ⊢
    exact same9_in b1 f1 c1 b2 f2 c2 a.length a b w _ _ (by omega) (by omega) (Lib.hid rfl) (Lib.hid e3) (Lib.hid hp) (Lib.hid ⟨o1, o2, decide_eq_true e3.symm⟩) (Lib.hid ha) (Lib.hid hb) (Lib.hid h) (Lib.hid g)
end Go.Proofs.Ytcpbemoiodbliaa
