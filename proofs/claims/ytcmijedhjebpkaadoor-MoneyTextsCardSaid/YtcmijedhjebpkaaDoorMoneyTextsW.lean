/- The walk of MoneyTexts (with the lines of RT and RP: a claim has at most 60 files). -/
import Derived.Test.YtcmijedhjebpkaaDoorLH
import Derived.Test.YtcmijedhjebpkaaDoorTX
namespace Go.Proofs.YtcmijedhjebpkaaDoor
open Go.RowKit Go.Proofs.Geo Go.Proofs.Mon
set_option linter.unusedVariables false
theorem rtext_bad (n : Int) (w : World) (h0 : mchk n ≠ 0) : Calls Tryd.prog 17 #[.int .i64 n] w fun e w' => e = .returned (.tuple #[.string ⟨#[]⟩, .int .i64 5]) ∧ Kp w w' := by
  have K : Kp w w := kp_refl _
  have e5 : mchk n = 5 := by unfold mchk at *; split <;> simp_all
  have ca := fun w => rmcheck_any n w
  rw [e5] at ca
  have CA := Lib.hid ca
  clear ca e5 h0
  go_enter Tryd.func17, Tryd.ntmps17
  go_wp2_with (go_at_call 31; refine (CA.out _).mono ?_; rintro e wk ⟨rfl, hk⟩; replace K := kp_trans K hk; clear hk)
  go_ret2
  exact ⟨rfl, K⟩
theorem ba_app (a b : Array UInt8) : ((⟨a⟩ : ByteArray) ++ (⟨b⟩ : ByteArray)) = ⟨a ++ b⟩ := by apply ByteArray.ext; simp [ByteArray.data_append]
theorem big100 {x : Nat} (h : x ≤ 100) : ¬ 9223372036854775807 < x := Nat.not_lt.2 (Nat.le_trans h (by decide))
theorem itoa_one {R : Nat} (h : R < 10) : Lib.itoa (R : Int) = [dgB R] := by rw [itoa_nn, Lib.decDigits_one h]; rfl
theorem itoa_two {R : Nat} (h1 : ¬ R < 10) (h2 : R < 100) : Lib.itoa (R : Int) = [dgB (R / 10), dgB (R % 10)] := by rw [itoa_nn, Lib.decDigits_two h1 h2]; rfl
set_option maxHeartbeats 8000000 in
set_option maxRecDepth 100000 in
theorem rtext_ok (n : Int) (w : World) (h0 : mchk n = 0) (hT : Tb w) : Calls Tryd.prog 17 #[.int .i64 n] w fun e w' => e = .returned (.tuple #[.string ⟨(textL n).toArray⟩, .int .i64 0]) ∧ Kp w w' := by
  have K : Kp w w := kp_refl _
  have HB := mchk_zero h0
  have ca := fun w => rmcheck_any n w
  rw [h0] at ca
  have CA := Lib.hid ca
  have HT := Lib.hid hT
  clear ca hT h0
  obtain ⟨m, hm⟩ : ∃ m, n.natAbs = m := ⟨_, rfl⟩
  have hmb : m ≤ 1099511627775 := by omega
  have HM := Lib.hid hm
  clear hm
  have q1 : Int.tdiv (m : Int) 100 = ((m / 100 : Nat) : Int) := by rw [Int.tdiv_eq_ediv_of_nonneg (by omega)]; omega
  have q2 : Int.tmod (m : Int) 100 = ((m % 100 : Nat) : Int) := by rw [Int.tmod_eq_emod_of_nonneg (by omega)]; omega
  have hR : m % 100 < 100 := by omega
  have d1 : m % 100 / 10 = m / 10 % 10 := by omega
  have d2 : m % 100 % 10 = m % 10 := by omega
  have d3 : m % 100 < 10 → m / 10 % 10 = 0 := by omega
  have hq := Lib.hid (show m / 100 ≤ 99999999999 by omega)
  generalize hQ : m / 100 = Q at *
  generalize hRR : m % 100 = R at *
  have HQ := Lib.hid hQ; have HR := Lib.hid hRR
  have D1 := Lib.hid d1; have D2 := Lib.hid d2; have D3 := Lib.hid d3
  clear hQ hRR d1 d2 d3
  have IQ := Lib.hid (fun w hT => itoa_any (Q : Int) (Int.le_trans (by decide) (Int.natCast_nonneg Q)) (Int.le_trans (Int.ofNat_le.2 hq.out) (by decide)) w hT)
  have ir := fun w hT => itoa_any (R : Int) (Int.le_trans (by decide) (Int.natCast_nonneg R)) (Int.le_trans (Int.ofNat_le.2 (Nat.le_of_lt hR)) (by decide)) w hT
  have w7 : wrap64 (Q : Int) = (Q : Int) := IntWalk.wrap64_in _ (by have := hq.out; omega)
  have hIL := itoa_len Q hq.out
  generalize hL : (Lib.itoa (Q : Int)).length = L at *
  have HL := Lib.hid hL
  clear hL
  have z1 : ¬ 9223372036854775807 < 1 + L := big100 (by omega)
  have z2 : ¬ 9223372036854775807 < 1 + L + 1 := big100 (by omega)
  have z3 : ¬ 9223372036854775807 < 1 + L + 1 + 2 := big100 (by omega)
  have z4 : ¬ 9223372036854775807 < L := big100 (by omega)
  have z5 : ¬ 9223372036854775807 < L + 1 := big100 (by omega)
  have z6 : ¬ 9223372036854775807 < L + 1 + 2 := big100 (by omega)
  have zl : (Lib.itoa (Q : Int)).length = L := HL.out
  clear hIL
  by_cases hn : n < 0
  · have hw : IntKind.i64.wrap (-n) = (m : Int) := by rw [IntWalk.i64_in _ (by omega), ← HM.out]; omega
    have hpre := Lib.hid (show (if n < 0 then ([45] : List UInt8) else []) = [45] from if_pos hn)
    by_cases h10 : R < 10
    · rw [itoa_one h10] at ir
      have IR := Lib.hid ir
      have HS := Lib.hid (show textL n = [45] ++ Lib.itoa (Q : Int) ++ [46] ++ [48, dgB R] by unfold textL; rw [hpre.out, HM.out, HQ.out, D3.out h10, ← D2.out, Nat.mod_eq_of_lt h10]; simp [dgB])
      clear ir h10 hR
      go_enter Tryd.func17, Tryd.ntmps17
      go_wp2_with (first
        | (go_at_call 31; refine (CA.out _).mono ?_; rintro e wk ⟨rfl, hk⟩; replace K := kp_trans K hk; clear hk)
        | (go_at_call 32; (with_reducible refine (IR.out _ (HT.out.kp K)).mono ?_); rintro e wk ⟨rfl, hk⟩; replace K := kp_trans K hk; clear hk)
        | (go_at_call 32; (with_reducible refine (IQ.out _ (HT.out.kp K)).mono ?_); rintro e wk ⟨rfl, hk⟩; replace K := kp_trans K hk; clear hk))
      go_ret2
      refine ⟨?_, K⟩
      rw [HS.out]
      simp [ba_app]
    · rw [itoa_two h10 hR] at ir
      have IR := Lib.hid ir
      have HS := Lib.hid (show textL n = [45] ++ Lib.itoa (Q : Int) ++ [46] ++ [dgB (R / 10), dgB (R % 10)] by unfold textL; rw [hpre.out, HM.out, HQ.out, D1.out, D2.out]; simp)
      clear ir h10 hR
      go_enter Tryd.func17, Tryd.ntmps17
      go_wp2_with (first
        | (go_at_call 31; refine (CA.out _).mono ?_; rintro e wk ⟨rfl, hk⟩; replace K := kp_trans K hk; clear hk)
        | (go_at_call 32; (with_reducible refine (IR.out _ (HT.out.kp K)).mono ?_); rintro e wk ⟨rfl, hk⟩; replace K := kp_trans K hk; clear hk)
        | (go_at_call 32; (with_reducible refine (IQ.out _ (HT.out.kp K)).mono ?_); rintro e wk ⟨rfl, hk⟩; replace K := kp_trans K hk; clear hk))
      go_ret2
      refine ⟨?_, K⟩
      rw [HS.out]
      simp [ba_app]
  · have hpre := Lib.hid (show (if n < 0 then ([45] : List UInt8) else []) = [] from if_neg hn)
    obtain rfl : n = (m : Int) := by have := HM.out; omega
    by_cases h10 : R < 10
    · rw [itoa_one h10] at ir
      have IR := Lib.hid ir
      have HS := Lib.hid (show textL (m : Int) = [] ++ Lib.itoa (Q : Int) ++ [46] ++ [48, dgB R] by unfold textL; rw [hpre.out, HM.out, HQ.out, D3.out h10, ← D2.out, Nat.mod_eq_of_lt h10]; simp [dgB])
      clear ir h10 hR
      go_enter Tryd.func17, Tryd.ntmps17
      go_wp2_with (first
        | (go_at_call 31; refine (CA.out _).mono ?_; rintro e wk ⟨rfl, hk⟩; replace K := kp_trans K hk; clear hk)
        | (go_at_call 32; (with_reducible refine (IR.out _ (HT.out.kp K)).mono ?_); rintro e wk ⟨rfl, hk⟩; replace K := kp_trans K hk; clear hk)
        | (go_at_call 32; (with_reducible refine (IQ.out _ (HT.out.kp K)).mono ?_); rintro e wk ⟨rfl, hk⟩; replace K := kp_trans K hk; clear hk))
      go_ret2
      refine ⟨?_, K⟩
      rw [HS.out]
      simp [ba_app]
    · rw [itoa_two h10 hR] at ir
      have IR := Lib.hid ir
      have HS := Lib.hid (show textL (m : Int) = [] ++ Lib.itoa (Q : Int) ++ [46] ++ [dgB (R / 10), dgB (R % 10)] by unfold textL; rw [hpre.out, HM.out, HQ.out, D1.out, D2.out]; simp)
      clear ir h10 hR
      go_enter Tryd.func17, Tryd.ntmps17
      go_wp2_with (first
        | (go_at_call 31; refine (CA.out _).mono ?_; rintro e wk ⟨rfl, hk⟩; replace K := kp_trans K hk; clear hk)
        | (go_at_call 32; (with_reducible refine (IR.out _ (HT.out.kp K)).mono ?_); rintro e wk ⟨rfl, hk⟩; replace K := kp_trans K hk; clear hk)
        | (go_at_call 32; (with_reducible refine (IQ.out _ (HT.out.kp K)).mono ?_); rintro e wk ⟨rfl, hk⟩; replace K := kp_trans K hk; clear hk))
      go_ret2
      refine ⟨?_, K⟩
      rw [HS.out]
      simp [ba_app]
set_option maxHeartbeats 4000000 in
theorem rdigit_any (s : ByteArray) (a : Nat) (h20 : s.size ≤ 100) (w : World) : Calls Tryd.prog 33 #[.string s, .int .i64 a] w fun e w' => e = .returned (.bool (isDg ((bts s).getD a 0))) ∧ w = w' := by
  by_cases hz : a < s.size
  · have QQ := trivial
    have hgc := bts_get s hz
    obtain ⟨c, hc⟩ : ∃ c, (bts s).getD (a) 0 = c := ⟨_, rfl⟩
    rw [hc] at hgc
    have hc' : ((s[a]'hz).toNat : Int) = c := hgc.symm
    have HCc := Lib.hid hc
    clear hc hgc
    have y1c : (0 : Int) ≤ ((a : Nat) : Int) := by omega
    have y2c : ((a : Nat) : Int) < (s.size : Int) := by omega
    rw [HCc.out]
    obtain ⟨r, hr⟩ : ∃ r, isDg c = r := ⟨_, rfl⟩
    rw [hr]
    have HR := Lib.hid hr
    clear hr
    by_cases h1 : 48 ≤ c
    · by_cases h2 : c ≤ 57
      · obtain rfl : r = true := by rw [← HR.out]; unfold isDg; rw [decide_eq_true h1, decide_eq_true h2]; rfl
        go_enter Tryd.func33, Tryd.ntmps33
        go_wp2_with fail
        go_ret
        exact ⟨rfl, rfl⟩
      · obtain rfl : r = false := by rw [← HR.out]; unfold isDg; rw [decide_eq_false h2]; simp
        go_enter Tryd.func33, Tryd.ntmps33
        go_wp2_with fail
        go_ret
        exact ⟨rfl, rfl⟩
    · obtain rfl : r = false := by rw [← HR.out]; unfold isDg; rw [decide_eq_false h1]; rfl
      go_enter Tryd.func33, Tryd.ntmps33
      go_wp2_with fail
      go_ret
      exact ⟨rfl, rfl⟩
  · rw [getD_end (by rw [bts_len]; omega), show isDg 0 = false from rfl]
    have z1 : ¬ (a : Int) < (s.size : Int) := by omega
    go_enter Tryd.func33, Tryd.ntmps33
    go_wp2_with fail
    go_ret
    exact ⟨rfl, rfl⟩
/-- What a number comes to with the next digits, without a cap. -/
def numU (l : List Int) (V : Int) (a : Nat) : Nat → Int
  | 0 => V
  | k + 1 => 10 * numU l V a k + (l.getD (a + k) 0 - 48)
theorem numU_two (l : List Int) (V : Int) (a : Nat) : numU l V a 2 = num2 l V a := rfl
theorem numU_bd {l : List Int} {V : Int} {a : Nat} (h0 : 0 ≤ V) (h1 : V ≤ 1125899906842624) {k : Nat} (hk : k ≤ 1) (h : ∀ i, i < k → isDg (l.getD (a + i) 0) = true) : 0 ≤ numU l V a k ∧ numU l V a k ≤ 11258999068426249 := by
  obtain rfl | rfl : k = 0 ∨ k = 1 := by omega
  · unfold numU; omega
  · have := isDg_bd (h 0 (by omega))
    unfold numU numU
    omega
theorem numU_bd2 {l : List Int} {V : Int} {a : Nat} (h0 : 0 ≤ V) (h1 : V ≤ 1125899906842624) (h : ∀ i, i < 2 → isDg (l.getD (a + i) 0) = true) : 0 ≤ numU l V a 2 ∧ numU l V a 2 ≤ 112589990684262499 := by
  have h2 := numU_bd h0 h1 (k := 1) (by omega) (fun i hi => h i (by omega))
  have := isDg_bd (h 1 (by omega))
  show 0 ≤ 10 * numU l V a 1 + (l.getD (a + 1) 0 - 48) ∧ _
  have e : numU l V a 2 = 10 * numU l V a 1 + (l.getD (a + 1) 0 - 48) := rfl
  rw [e]
  omega
set_option maxHeartbeats 4000000 in
theorem rparse_long (s : ByteArray) (w : World) (h : 20 < s.size) (hs : s.size ≤ 100) : Calls Tryd.prog 18 #[.string s] w (RetP w (parseR (bts s))) := by
  rw [pr_long (by rw [bts_len]; exact h)]
  have z1 : (20 : Int) < (s.size : Int) := by omega
  go_enter Tryd.func18, Tryd.ntmps18
  go_wp2_with fail
  exact bodyPost_ret (v := .tuple #[.int .i64 0, .agg #[.int .i64 3, .int .i64 0]]) (by simp [results, Tryd.results18, go_sem]) rfl ⟨rfl, kp_alloc (kp_refl _) _⟩
set_option maxHeartbeats 16000000 in
set_option maxRecDepth 100000 in
theorem rparse_short (s : ByteArray) (w : World) (h20 : s.size ≤ 20) : Calls Tryd.prog 18 #[.string s] w (RetP w (parseR (bts s))) := by
  obtain ⟨P, hP⟩ : ∃ P, parseR (bts s) = P := ⟨_, rfl⟩
  rw [hP]
  have HP := Lib.hid hP
  clear hP
  have DG := Lib.hid (fun a w => rdigit_any s a (by omega) w)
  have HFB := Lib.hid (show ¬ 20 < (bts s).length by rw [bts_len]; omega)
  obtain ⟨fr, hfr⟩ : ∃ fr, frE (bts s) = fr := ⟨_, rfl⟩
  have HF := Lib.hid hfr
  have hfr1 : fr ≤ 1 := by rw [← hfr]; unfold frE; split <;> omega
  have hfrs : fr ≤ s.size := by rw [← hfr]; have := frE_le (bts s); rwa [bts_len] at this
  clear hfr
  go_enter Tryd.func18, Tryd.ntmps18
  go_upto_region 4 with fail
  obtain ⟨bl, hbl⟩ : ∃ b : Bool, decide (fr = 1) = b := ⟨_, rfl⟩
  have HB0 := Lib.hid hbl
  clear hbl
  go_cut [19] (fun b wx => b = .bool bl ∧ wx = w.alloc (.cells #[.int .i64 0, .int .i64 0] 28))
  case first =>
    by_cases h0 : 0 < s.size
    · have hg := bts_get s h0
      have z0 : (0 : Int) < (s.size : Int) := by omega
      by_cases h45 : (bts s).getD 0 0 = 45
      · have e := Lib.hid (show bl = true by rw [← HB0.out, ← HF.out]; unfold frE; rw [if_pos h45]; rfl)
        rw [h45] at hg
        have hg' : ((s[0]'h0).toNat : Int) = 45 := hg.symm
        clear hg h45
        go_wp2_with fail
        go_meet
        exact ⟨by rw [e.out], rfl⟩
      · have e := Lib.hid (show bl = false by rw [← HB0.out, ← HF.out]; unfold frE; rw [if_neg h45]; rfl)
        rw [hg] at h45
        have t1 : (((s[0]'h0).toNat : Int) == 45) = false := by simpa using h45
        clear hg h45
        go_wp2_with fail
        go_meet
        exact ⟨by rw [e.out], rfl⟩
    · have e := Lib.hid (show bl = false by
        rw [← HB0.out, ← HF.out]; unfold frE
        rw [if_neg (by rw [getD_end (by rw [bts_len]; omega)]; omega)]; rfl)
      have t1 : (s.size : Int) ≤ 0 := by omega
      go_wp2_with fail
      go_meet
      exact ⟨by rw [e.out], rfl⟩
  case rest =>
    obtain ⟨rfl, rfl⟩ := hcut
    go_upto_if 19 with fail
    go_cut [4] (fun x wx => x = .int .i64 (fr : Nat) ∧ wx = w.alloc (.cells #[.int .i64 0, .int .i64 0] 28))
    case first =>
      cases bl with
      | true =>
        have e := Lib.hid (show fr = 1 from by simpa using HB0.out)
        go_wp2_with fail
        go_meet
        exact ⟨by rw [e.out]; rfl, rfl⟩
      | false =>
        have e := Lib.hid (show fr = 0 from by have := HB0.out; simp at this; omega)
        go_wp2_with fail
        go_meet
        exact ⟨by rw [e.out]; rfl, rfl⟩
    case rest =>
     obtain ⟨rfl, rfl⟩ := hcut
     obtain ⟨ee, hee⟩ : ∃ ee, runE (bts s) fr = ee := ⟨_, rfl⟩
     have HE := Lib.hid hee
     have hele : fr + ee ≤ s.size := by rw [← hee]; have := runE_le (bts s) fr (by rw [bts_len]; exact hfrs); rwa [bts_len] at this
     clear hee
     have HST := Lib.hid (show ∀ j, j ≤ ee → (j < ee ↔ isDg ((bts s).getD (fr + j) 0) = true ∧ (j = 0 ∨ (bts s).getD fr 0 ≠ 48)) by intro j hj; rw [← HE.out] at hj ⊢; exact runE_step _ _ _ hj)
     go_wp2_with fail
     go_loopw [4, 6] (fun x v wr => ∃ a : Nat, fr ≤ a ∧ a ≤ fr + ee ∧ x = .int .i64 a ∧ v = .int .i64 (numV (bts s) fr (a - fr)) ∧ wr = w.alloc (.cells #[.int .i64 0, .int .i64 0] 28)) (fun x _ _ => s.size - (intOf x).toNat)
     case atStart => exact ⟨fr, by omega, by omega, rfl, by rw [Nat.sub_self]; rfl, rfl⟩
     case round =>
       obtain ⟨a, ha1, ha2, rfl, rfl, rfl⟩ := hrel
       have hS := HST.out (a - fr) (by omega)
       rw [show fr + (a - fr) = a by omega] at hS
       have da := DG.out a
       cases hdg : isDg ((bts s).getD a 0) with
       | true =>
         rw [hdg] at hS da
         have DA := Lib.hid da
         clear da
         have hz2 : a < s.size := by have := isDg_lt hdg; rwa [bts_len] at this
         have hzf : fr < s.size := by omega
         have hgc2 := bts_get s hz2
         obtain ⟨c2, hc2⟩ : ∃ c, (bts s).getD (a) 0 = c := ⟨_, rfl⟩
         rw [hc2] at hgc2
         have hc2' : ((s[a]'hz2).toNat : Int) = c2 := hgc2.symm
         have HCc2 := Lib.hid hc2
         clear hc2 hgc2
         have y1c2 : (0 : Int) ≤ ((a : Nat) : Int) := by omega
         have y2c2 : ((a : Nat) : Int) < (s.size : Int) := by omega
         have hgc := bts_get s hzf
         obtain ⟨c, hc⟩ : ∃ c, (bts s).getD (fr) 0 = c := ⟨_, rfl⟩
         rw [hc] at hgc
         have hc' : ((s[fr]'hzf).toNat : Int) = c := hgc.symm
         have HCc := Lib.hid hc
         clear hc hgc
         have y1c : (0 : Int) ≤ ((fr : Nat) : Int) := by omega
         have y2c : ((fr : Nat) : Int) < (s.size : Int) := by omega
         have hdg : isDg c2 = true := by rw [← HCc2.out]; exact hdg
         by_cases haf : a = fr
         · clear hc'
           obtain rfl : a = fr := haf
           have hlt : a - a < ee := hS.2 ⟨rfl, .inl (by omega)⟩
           have hbd := isDg_bd hdg
           have hV := numV_bd (bts s) a (a - a) (by rw [HE.out]; omega)
           have HV := Lib.hid (show numV (bts s) a (a + 1 - a) = cap50 (10 * numV (bts s) a (a - a) + (c2 - 48)) by rw [show a + 1 - a = (a - a) + 1 by omega, ← HCc2.out]; show cap50 (10 * numV (bts s) a (a - a) + ((bts s).getD (a + (a - a)) 0 - 48)) = _; rw [show a + (a - a) = a by omega])
           generalize numV (bts s) a (a - a) = V at *
           have w1 : IntKind.i64.wrap (10 * V) = 10 * V := IntWalk.i64_in _ (by omega)
           have w2 : IntKind.u8.wrap (c2 - 48) = c2 - 48 := IntWalk.u8_in _ (by omega)
           have w3 : IntKind.i64.wrap (c2 - 48) = c2 - 48 := IntWalk.i64_in _ (by omega)
           have w4 : IntKind.i64.wrap (10 * V + (c2 - 48)) = 10 * V + (c2 - 48) := IntWalk.i64_in _ (by omega)
           have w5 : IntKind.i64.wrap ((a : Int) + 1) = (a : Int) + 1 := IntWalk.i64_in _ (by omega)
           have hcap : (if 1125899906842624 < 10 * V + (c2 - 48) then 1125899906842624 else 10 * V + (c2 - 48)) = cap50 (10 * V + (c2 - 48)) := by unfold cap50; split <;> omega
           obtain ⟨X, hX⟩ : ∃ X, cap50 (10 * V + (c2 - 48)) = X := ⟨_, rfl⟩
           have HXM := Lib.hid (show min (10 * V + (c2 - 48)) 1125899906842624 = X from hX)
           rw [hX] at hcap HV
           have HE2 := Lib.hid (show a < a + ee by omega)
           clear hX hV hbd hdg

           go_wp2_with (go_at_call 33; refine (DA.out _).mono ?_; rintro e wk ⟨rfl, rfl⟩)
           exact ⟨⟨a + 1, by omega, by have := HE2.out; omega, by go_num, by first | (rw [HV.out]; done) | rw [HV.out, HXM.out], trivial⟩, by simp [intOf]; omega⟩
         · have taf : ((a : Int) == (fr : Int)) = false := by simp; omega
           by_cases h48 : c = 48
           · have hne : ¬ a - fr < ee := fun h => by rcases (hS.1 h).2 with g | g; omega; exact g (by rw [HCc.out]; exact h48)
             have hae : a = fr + ee := by omega
             subst h48
             have n46 : (c2 != 46) = true := by have := isDg_bd hdg; simp; omega
             have n46' : ¬ c2 = 46 := by have := isDg_bd hdg; omega
             have ge : ¬ (s.size : Int) ≤ (a : Int) := by omega
             have H1 := Lib.hid (show isDg ((bts s).getD fr 0) = true by rw [HCc.out]; rfl)
             have HAE := Lib.hid hae
             have HN := Lib.hid n46'
             clear hS hne hae n46' hdg haf
             have hP := Lib.hid (show P = (0, 4, ((a : Nat) : Int)) by rw [← HP.out]; rw [HAE.out]; exact pr_dot HFB.out HF.out H1.out HE.out (by rw [← HAE.out, HCc2.out]; exact HN.out))
             go_wp2_with (go_at_call 33; refine (DA.out _).mono ?_; rintro e wk ⟨rfl, rfl⟩)
             exact bodyPost_ret (v := .tuple #[.int .i64 0, .agg #[.int .i64 4, .int .i64 (a : Nat)]]) (by simp [results, Tryd.results18, go_sem]) rfl ⟨by rw [hP.out], kp_alloc (kp_refl _) _⟩
           · have t48 : (c != 48) = true := by simpa using h48
             clear h48
             have hlt : a - fr < ee := hS.2 ⟨rfl, .inr (by rw [HCc.out]; simpa using t48)⟩
             have hbd := isDg_bd hdg
             have hV := numV_bd (bts s) fr (a - fr) (by rw [HE.out]; omega)
             have HV := Lib.hid (show numV (bts s) fr (a + 1 - fr) = cap50 (10 * numV (bts s) fr (a - fr) + (c2 - 48)) by rw [show a + 1 - fr = (a - fr) + 1 by omega, ← HCc2.out]; show cap50 (10 * numV (bts s) fr (a - fr) + ((bts s).getD (fr + (a - fr)) 0 - 48)) = _; rw [show fr + (a - fr) = a by omega])
             generalize numV (bts s) fr (a - fr) = V at *
             have w1 : IntKind.i64.wrap (10 * V) = 10 * V := IntWalk.i64_in _ (by omega)
             have w2 : IntKind.u8.wrap (c2 - 48) = c2 - 48 := IntWalk.u8_in _ (by omega)
             have w3 : IntKind.i64.wrap (c2 - 48) = c2 - 48 := IntWalk.i64_in _ (by omega)
             have w4 : IntKind.i64.wrap (10 * V + (c2 - 48)) = 10 * V + (c2 - 48) := IntWalk.i64_in _ (by omega)
             have w5 : IntKind.i64.wrap ((a : Int) + 1) = (a : Int) + 1 := IntWalk.i64_in _ (by omega)
             have hcap : (if 1125899906842624 < 10 * V + (c2 - 48) then 1125899906842624 else 10 * V + (c2 - 48)) = cap50 (10 * V + (c2 - 48)) := by unfold cap50; split <;> omega
             obtain ⟨X, hX⟩ : ∃ X, cap50 (10 * V + (c2 - 48)) = X := ⟨_, rfl⟩
             have HXM := Lib.hid (show min (10 * V + (c2 - 48)) 1125899906842624 = X from hX)
             rw [hX] at hcap HV
             have HE2 := Lib.hid (show a < fr + ee by omega)
             clear hX hV hbd hdg

             go_wp2_with (go_at_call 33; refine (DA.out _).mono ?_; rintro e wk ⟨rfl, rfl⟩)
             exact ⟨⟨a + 1, by omega, by have := HE2.out; omega, by go_num, by first | (rw [HV.out]; done) | rw [HV.out, HXM.out], trivial⟩, by simp [intOf]; omega⟩
       | false =>
         rw [hdg] at hS da
         have DA := Lib.hid da
         clear da
         have hae : a = fr + ee := by
           rcases Nat.lt_or_ge (a - fr) ee with g | g
           · exact absurd (hS.1 g).1 (by simp)
           · omega
         clear hS
         have HDG := Lib.hid hdg
         clear hdg
         by_cases haf : a = fr
         · have taf : ((a : Int) == (fr : Int)) = true := by rw [haf]; simp
           have HAF := Lib.hid haf
           clear haf hae
           have hP := Lib.hid (show P = (0, 4, ((a : Nat) : Int)) by rw [← HP.out]; rw [pr_first HFB.out (by rw [HF.out, ← HAF.out]; exact HDG.out), HF.out, HAF.out])
           go_wp2_with (go_at_call 33; refine (DA.out _).mono ?_; rintro e wk ⟨rfl, rfl⟩)
           exact bodyPost_ret (v := .tuple #[.int .i64 0, .agg #[.int .i64 4, .int .i64 (a : Nat)]]) (by simp [results, Tryd.results18, go_sem]) rfl ⟨by rw [hP.out], kp_alloc (kp_refl _) _⟩
         · have taf : ((a : Int) == (fr : Int)) = false := by simp; omega
           have H1 := Lib.hid (show isDg ((bts s).getD fr 0) = true by have := runE_dig (bts s) fr (j := 0) (by rw [HE.out]; omega); rwa [Nat.add_zero] at this)
           have HAE := Lib.hid hae
           clear haf
           by_cases hz2 : a < s.size
           · have ge : ¬ (s.size : Int) ≤ (a : Int) := by omega
             have hgc2 := bts_get s hz2
             obtain ⟨c2, hc2⟩ : ∃ c, (bts s).getD (a) 0 = c := ⟨_, rfl⟩
             rw [hc2] at hgc2
             have hc2' : ((s[a]'hz2).toNat : Int) = c2 := hgc2.symm
             have HCc2 := Lib.hid hc2
             clear hc2 hgc2
             have y1c2 : (0 : Int) ≤ ((a : Nat) : Int) := by omega
             have y2c2 : ((a : Nat) : Int) < (s.size : Int) := by omega
             by_cases h46 : c2 = 46
             · subst h46
               have HDT := Lib.hid (show (bts s).getD (fr + ee) 0 = 46 by rw [← HAE.out]; exact HCc2.out)
               have hV := numV_bd (bts s) fr (a - fr) (by rw [HE.out]; omega)
               have HVV := Lib.hid (show numV (bts s) fr ee = numV (bts s) fr (a - fr) by rw [HAE.out, show fr + ee - fr = ee by omega])
               generalize numV (bts s) fr (a - fr) = V at *
               have HVB := Lib.hid hV
               have w5 : IntKind.i64.wrap ((a : Int) + 1) = (a : Int) + 1 := IntWalk.i64_in _ (by omega)
               clear hV hae
               go_wp2_with (go_at_call 33; refine (DA.out _).mono ?_; rintro e wk ⟨rfl, rfl⟩)
               have HZ2 := Lib.hid hz2
               have hdz : decide (s.size ≤ a) = false := decide_eq_false (by omega)
               simp only [hdz]
               clear hdz hc2' ge hz2 y1c2 y2c2
               have hU := numU_bd (l := bts s) (a := fr + ee + 1) HVB.out.1 HVB.out.2 (k := 0) (by omega) (fun i hi => absurd hi (Nat.not_lt_zero _))
               go_loopw [4, 6, 7] (fun x v i wx => ∃ k : Nat, k ≤ 2 ∧ i = .int .i64 k ∧ a + 1 + k ≤ s.size ∧ x = .int .i64 (a + 1 + k : Nat) ∧ (∀ q, q < k → isDg ((bts s).getD (fr + ee + 1 + q) 0) = true) ∧ v = .int .i64 (numU (bts s) V (fr + ee + 1) k) ∧ wx = w.alloc (.cells #[.int .i64 0, .int .i64 0] 28)) (fun _ _ i _ => 2 - (intOf i).toNat)
               case atStart => exact ⟨0, by omega, rfl, by have := HZ2.out; omega, by go_num, fun q hq => absurd hq (Nat.not_lt_zero _), rfl, rfl⟩
               case round =>
                 clear hU
                 obtain ⟨k, hk, rfl, hks, rfl, hpk, rfl, rfl⟩ := hrel
                 have HPK := Lib.hid hpk
                 obtain ⟨b, hb⟩ : ∃ b, a + 1 + k = b := ⟨_, rfl⟩
                 rw [hb] at hks ⊢
                 have HB := Lib.hid (show b = fr + ee + 1 + k by rw [← HAE.out]; exact hb.symm)
                 by_cases hk2 : k < 2
                 · have hW := numU_bd (l := bts s) (V := V) (a := fr + ee + 1) HVB.out.1 HVB.out.2 (k := k) (by omega) hpk
                   have HB2 := Lib.hid hb
                   clear hpk hb
                   have db := DG.out b
                   cases hdg : isDg ((bts s).getD b 0) with
                   | true =>
                     rw [hdg] at db
                     have DB := Lib.hid db
                     clear db
                     have hz3 : b < s.size := by have := isDg_lt hdg; rwa [bts_len] at this
                     have hgc3 := bts_get s hz3
                     obtain ⟨c3, hc3⟩ : ∃ c, (bts s).getD (b) 0 = c := ⟨_, rfl⟩
                     rw [hc3] at hgc3
                     have hc3' : ((s[b]'hz3).toNat : Int) = c3 := hgc3.symm
                     have HCc3 := Lib.hid hc3
                     clear hc3 hgc3
                     have y1c3 : (0 : Int) ≤ ((b : Nat) : Int) := by omega
                     have y2c3 : ((b : Nat) : Int) < (s.size : Int) := by omega
                     have hbd := isDg_bd (show isDg c3 = true by rw [← HCc3.out]; exact hdg)
                     have HD3 := Lib.hid hdg
                     have HV3 := Lib.hid (show numU (bts s) V (fr + ee + 1) (k + 1) = 10 * numU (bts s) V (fr + ee + 1) k + (c3 - 48) by rw [← HCc3.out, HB.out]; rfl)
                     generalize numU (bts s) V (fr + ee + 1) k = U at *
                     have w1 : IntKind.i64.wrap (10 * U) = 10 * U := IntWalk.i64_in _ (by omega)
                     have w2 : IntKind.u8.wrap (c3 - 48) = c3 - 48 := IntWalk.u8_in _ (by omega)
                     have w3 : IntKind.i64.wrap (c3 - 48) = c3 - 48 := IntWalk.i64_in _ (by omega)
                     have w4 : IntKind.i64.wrap (10 * U + (c3 - 48)) = 10 * U + (c3 - 48) := IntWalk.i64_in _ (by omega)
                     have w6 : IntKind.i64.wrap ((k : Int) + 1) = (k : Int) + 1 := IntWalk.i64_in _ (by omega)
                     have w7 : IntKind.i64.wrap ((b : Int) + 1) = (b : Int) + 1 := IntWalk.i64_in _ (by omega)
                     clear hW hbd hdg
                     go_wp2_with (go_at_call 33; refine (DB.out _).mono ?_; rintro e wk ⟨rfl, rfl⟩)
                     refine ⟨⟨k + 1, by omega, by go_num, by have := HB2.out; omega, by have := HB2.out; go_num, ?_, by rw [HV3.out], trivial⟩, by simp [intOf]; omega⟩
                     intro q hq
                     rcases Nat.lt_or_ge q k with g | g
                     · exact HPK.out q g
                     · obtain rfl : q = k := by omega
                       rw [← HB.out]; exact HD3.out
                   | false =>
                     rw [hdg] at db
                     have DB := Lib.hid db
                     have HD3 := Lib.hid hdg
                     clear db hW hdg
                     have hP := Lib.hid (show P = (0, 4, ((b : Nat) : Int)) by rw [← HP.out]; rw [HB.out]; exact pr_cent HFB.out HF.out H1.out HE.out HDT.out hk2 HPK.out (by rw [← HB.out]; exact HD3.out))
                     go_wp2_with (go_at_call 33; refine (DB.out _).mono ?_; rintro e wk ⟨rfl, rfl⟩)
                     exact bodyPost_ret (v := .tuple #[.int .i64 0, .agg #[.int .i64 4, .int .i64 (b : Nat)]]) (by simp [results, Tryd.results18, go_sem]) rfl ⟨by rw [hP.out], kp_alloc (kp_refl _) _⟩
                 · obtain rfl : k = 2 := by omega
                   by_cases hm : b < s.size
                   · have z2 : (b : Int) < (s.size : Int) := by omega
                     clear hpk hb
                     have hP := Lib.hid (show P = (0, 4, ((b : Nat) : Int)) by rw [← HP.out]; rw [HB.out]; exact pr_more HFB.out HF.out H1.out HE.out HDT.out HPK.out (by rw [bts_len]; have := HB.out; omega))
                     go_wp2_with fail
                     exact bodyPost_ret (v := .tuple #[.int .i64 0, .agg #[.int .i64 4, .int .i64 (b : Nat)]]) (by simp [results, Tryd.results18, go_sem]) rfl ⟨by rw [hP.out], kp_alloc (kp_refl _) _⟩
                   · have z2 : ¬ (b : Int) < (s.size : Int) := by omega
                     have hU2 := numU_bd2 (l := bts s) (V := V) (a := fr + ee + 1) HVB.out.1 HVB.out.2 hpk
                     have hT := Lib.hid (show P = tellR fr (numU (bts s) V (fr + ee + 1) 2) by rw [← HP.out, pr_tell HFB.out HF.out H1.out HE.out HDT.out HPK.out (by rw [bts_len]; have := HB.out; omega), numU_two, HVV.out])
                     generalize numU (bts s) V (fr + ee + 1) 2 = U at *
                     clear hpk hb
                     by_cases hmax : 1099511627775 < U
                     · have hP := Lib.hid (show P = (0, 5, 0) by rw [hT.out]; unfold tellR; rw [if_pos hmax])
                       go_wp2_with fail
                       exact bodyPost_ret (v := .tuple #[.int .i64 0, .agg #[.int .i64 5, .int .i64 0]]) (by simp [results, Tryd.results18, go_sem]) rfl ⟨by rw [hP.out], kp_alloc (kp_refl _) _⟩
                     · by_cases h1 : fr = 1
                       · subst h1
                         by_cases h0 : U = 0
                         · have hP := Lib.hid (show P = (0, 5, 0) by rw [hT.out]; unfold tellR; rw [if_neg hmax, if_pos ⟨rfl, h0⟩])
                           have t0 : (U == 0) = true := by simpa using h0
                           clear h0
                           go_wp2_with fail
                           exact bodyPost_ret (v := .tuple #[.int .i64 0, .agg #[.int .i64 5, .int .i64 0]]) (by simp [results, Tryd.results18, go_sem]) rfl ⟨by rw [hP.out], kp_alloc (kp_refl _) _⟩
                         · have hP := Lib.hid (show P = (-U, 0, 0) by rw [hT.out]; unfold tellR; rw [if_neg hmax, if_neg (fun h => h0 h.2), if_pos rfl])
                           have t0 : (U == 0) = false := by simpa using h0
                           have w6 : IntKind.i64.wrap (-U) = -U := IntWalk.i64_in _ (by omega)
                           clear h0
                           go_wp2_with fail
                           exact bodyPost_ret (v := .tuple #[.int .i64 (-U), .agg #[.int .i64 0, .int .i64 0]]) (by simp [results, Tryd.results18, go_sem]) rfl ⟨by rw [hP.out], kp_alloc (kp_refl _) _⟩
                       · obtain rfl : fr = 0 := by omega
                         have hP := Lib.hid (show P = (U, 0, 0) by rw [hT.out]; unfold tellR; rw [if_neg hmax, if_neg (fun h => h1 h.1), if_neg h1])
                         go_wp2_with fail
                         exact bodyPost_ret (v := .tuple #[.int .i64 U, .agg #[.int .i64 0, .int .i64 0]]) (by simp [results, Tryd.results18, go_sem]) rfl ⟨by rw [hP.out], kp_alloc (kp_refl _) _⟩
             · have n46 : (c2 != 46) = true := by simpa using h46
               have HN := Lib.hid h46
               clear h46 hae
               have hP := Lib.hid (show P = (0, 4, ((a : Nat) : Int)) by rw [← HP.out]; rw [HAE.out]; exact pr_dot HFB.out HF.out H1.out HE.out (by rw [← HAE.out, HCc2.out]; exact HN.out))
               go_wp2_with (go_at_call 33; refine (DA.out _).mono ?_; rintro e wk ⟨rfl, rfl⟩)
               exact bodyPost_ret (v := .tuple #[.int .i64 0, .agg #[.int .i64 4, .int .i64 (a : Nat)]]) (by simp [results, Tryd.results18, go_sem]) rfl ⟨by rw [hP.out], kp_alloc (kp_refl _) _⟩
           · have ge : (s.size : Int) ≤ (a : Int) := by omega
             have HN := Lib.hid (show (bts s).getD a 0 = 0 from getD_end (by rw [bts_len]; omega))
             clear hae
             have hP := Lib.hid (show P = (0, 4, ((a : Nat) : Int)) by rw [← HP.out]; rw [HAE.out]; exact pr_dot HFB.out HF.out H1.out HE.out (by rw [← HAE.out, HN.out]; omega))
             go_wp2_with (go_at_call 33; refine (DA.out _).mono ?_; rintro e wk ⟨rfl, rfl⟩)
             exact bodyPost_ret (v := .tuple #[.int .i64 0, .agg #[.int .i64 4, .int .i64 (a : Nat)]]) (by simp [results, Tryd.results18, go_sem]) rfl ⟨by rw [hP.out], kp_alloc (kp_refl _) _⟩
theorem rparse_any (s : ByteArray) (w : World) (hs : s.size ≤ 100) : Calls Tryd.prog 18 #[.string s] w (RetP w (parseR (bts s))) := by
  by_cases h : s.size ≤ 20
  · exact rparse_short s w h
  · exact rparse_long s w (by omega) hs
theorem alloc_c0' (w : World) (a b : Value) (t : TypeId) : (w.alloc (.cells #[a, b] t)).cell? ⟨w.heap.size, 0, none⟩ = some a := by simp [go_sem]
theorem alloc_c1' (w : World) (a b : Value) (t : TypeId) : (w.alloc (.cells #[a, b] t)).cell? ⟨w.heap.size, 1, none⟩ = some b := by simp [go_sem]
set_option maxHeartbeats 16000000 in
set_option maxRecDepth 100000 in
theorem moneyTexts_walk (n : Int) (s : ByteArray) (w : World) (hT : Tb w) : Calls Tryd.prog 6 #[.int .i64 n, .string s] w fun e w' => e = .returned (.bool true) ∧ Kp w w' := by
  have K : Kp w w := kp_refl _
  have HT := Lib.hid hT
  clear hT
  have AW := Lib.hid awake_any
  by_cases hl : 100 < s.size
  · have z1 : (100 : Int) < (s.size : Int) := by omega
    go_enter Tryd.func6, Tryd.ntmps6
    go_wp2_with (go_at_call 7; refine (AW.out _).mono ?_; rintro e wk ⟨rfl, hk⟩; replace K := kp_trans K hk; clear hk)
    go_ret
    exact ⟨rfl, K⟩
  have z1 : ¬ (100 : Int) < (s.size : Int) := by omega
  have hp := fun w => parse_any s w (by omega)
  have hr := fun w => rparse_any s w (by omega)
  generalize parseR (bts s) = r at *
  obtain ⟨x, er, at_⟩ := r
  have P1 := Lib.hid hp
  have P2 := Lib.hid hr
  have n1 : (x == x) = true := by simp
  have n2 : (er == er) = true := by simp
  have n3 : (at_ == at_) = true := by simp
  clear hp hr hl
  by_cases h0 : mchk n = 0
  · have C1 := Lib.hid (fun w hT => text_ok n w h0 hT)
    have C2 := Lib.hid (fun w hT => rtext_ok n w h0 hT)
    clear h0
    generalize textL n = tl at *
    go_enter Tryd.func6, Tryd.ntmps6
    go_wp2_with (first
      | (go_at_call 8; (with_reducible refine (C1.out _ (HT.out.kp (by repeat (first | (with_reducible exact K) | (with_reducible apply kp_alloc))))).mono ?_); rintro e wk ⟨rfl, hk⟩; replace K := kp_trans (by repeat (first | (with_reducible exact K) | (with_reducible apply kp_alloc))) hk; clear hk)
      | (go_at_call 17; (with_reducible refine (C2.out _ (HT.out.kp (by repeat (first | (with_reducible exact K) | (with_reducible apply kp_alloc))))).mono ?_); rintro e wk ⟨rfl, hk⟩; replace K := kp_trans (by repeat (first | (with_reducible exact K) | (with_reducible apply kp_alloc))) hk; clear hk)
      | (go_at_call 10; (with_reducible refine (P1.out _).mono ?_); rintro e wk ⟨rfl, hk⟩; replace K := kp_trans (by repeat (first | (with_reducible exact K) | (with_reducible apply kp_alloc))) hk; clear hk)
      | (go_at_call 18; (with_reducible refine (P2.out _).mono ?_); rintro e wk ⟨rfl, hk⟩; have c0 := kp_cell hk (alloc_c0' _ _ _ _); have c1 := kp_cell hk (alloc_c1' _ _ _ _); have lB := cell_lt c0; replace K := kp_trans (by repeat (first | (with_reducible exact K) | (with_reducible apply kp_alloc))) hk; clear hk)
      | (go_at_call 7; refine (AW.out _).mono ?_; rintro e wk ⟨rfl, hk⟩; replace K := kp_trans (by repeat (first | (with_reducible exact K) | (with_reducible apply kp_alloc))) hk; clear hk))
    go_ret
    exact ⟨rfl, by repeat (first | (with_reducible exact K) | (with_reducible apply kp_alloc))⟩
  · have C1 := Lib.hid (fun (w : World) (hT : Tb w) => text_bad n w h0)
    have C2 := Lib.hid (fun (w : World) (hT : Tb w) => rtext_bad n w h0)
    clear h0
    go_enter Tryd.func6, Tryd.ntmps6
    go_wp2_with (first
      | (go_at_call 8; (with_reducible refine (C1.out _ (HT.out.kp (by repeat (first | (with_reducible exact K) | (with_reducible apply kp_alloc))))).mono ?_); rintro e wk ⟨rfl, hk⟩; replace K := kp_trans (by repeat (first | (with_reducible exact K) | (with_reducible apply kp_alloc))) hk; clear hk)
      | (go_at_call 17; (with_reducible refine (C2.out _ (HT.out.kp (by repeat (first | (with_reducible exact K) | (with_reducible apply kp_alloc))))).mono ?_); rintro e wk ⟨rfl, hk⟩; replace K := kp_trans (by repeat (first | (with_reducible exact K) | (with_reducible apply kp_alloc))) hk; clear hk)
      | (go_at_call 10; (with_reducible refine (P1.out _).mono ?_); rintro e wk ⟨rfl, hk⟩; replace K := kp_trans (by repeat (first | (with_reducible exact K) | (with_reducible apply kp_alloc))) hk; clear hk)
      | (go_at_call 18; (with_reducible refine (P2.out _).mono ?_); rintro e wk ⟨rfl, hk⟩; have c0 := kp_cell hk (alloc_c0' _ _ _ _); have c1 := kp_cell hk (alloc_c1' _ _ _ _); have lB := cell_lt c0; replace K := kp_trans (by repeat (first | (with_reducible exact K) | (with_reducible apply kp_alloc))) hk; clear hk)
      | (go_at_call 7; refine (AW.out _).mono ?_; rintro e wk ⟨rfl, hk⟩; replace K := kp_trans (by repeat (first | (with_reducible exact K) | (with_reducible apply kp_alloc))) hk; clear hk))
    go_ret
    exact ⟨rfl, by repeat (first | (with_reducible exact K) | (with_reducible apply kp_alloc))⟩
end Go.Proofs.YtcmijedhjebpkaaDoor
