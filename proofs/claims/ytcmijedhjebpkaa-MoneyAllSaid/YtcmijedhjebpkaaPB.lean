/- Contract of Parse. -/
import Derived.Test.YtcmijedhjebpkaaPA
namespace Go.Proofs.Ytcmijedhjebpkaa
open Go.RowKit Go.Proofs.Geo Go.Proofs.Mon
set_option linter.unusedVariables false
/-- What Parse hands back. -/
def RetP (W : World) (r : Int × Int × Int) (e : Ending) (w' : World) : Prop := e = .returned (.tuple #[.int .i64 r.1, .agg #[.int .i64 r.2.1, .int .i64 r.2.2]]) ∧ Kp W w'
set_option maxHeartbeats 4000000 in
theorem parse_long (s : ByteArray) (w : World) (h : 20 < s.size) (hs : s.size ≤ 1000000) : Calls Try.prog 31 #[.string s] w (RetP w (parseR (bts s))) := by
  rw [pr_long (by rw [bts_len]; exact h)]
  have K := Lib.hid (kp_refl w)
  go_enter Try.func31, Try.ntmps31
  go_wp2_with fail
  exact bodyPost_ret (v := .tuple #[.int .i64 0, .agg #[.int .i64 3, .int .i64 0]]) (by simp [results, Try.results31, go_sem]) rfl ⟨rfl, kp_alloc (kp_alloc K.out _) _⟩
/-- The place in the text. -/
def atOf (w : World) (g : Nat) : Nat := match w.cell? ⟨g, 0, none⟩ with | some (.int _ x) => x.toNat | _ => 0
theorem atOf_eq {w : World} {g : Nat} {k : IntKind} {x : Int} (h : w.cell? ⟨g, 0, none⟩ = some (.int k x)) : atOf w g = x.toNat := by unfold atOf; rw [h]
set_option maxHeartbeats 16000000 in
set_option maxRecDepth 100000 in
theorem parse_short (s : ByteArray) (w : World) (h20 : s.size ≤ 20) : Calls Try.prog 31 #[.string s] w (RetP w (parseR (bts s))) := by
  obtain ⟨P, hP⟩ : ∃ P, parseR (bts s) = P := ⟨_, rfl⟩
  rw [hP]
  have HP := Lib.hid hP
  clear hP
  have K := Lib.hid (kp_refl w)
  go_enter Try.func31, Try.ntmps31
  go_upto_region 6 with fail
  obtain ⟨W1, hW⟩ : ∃ W, ((((w.alloc (Obj.cells #[Value.string s] 9)).alloc (Obj.cells #[Value.int .i64 0, Value.int .i64 0] 49)).alloc (Obj.cells #[Value.int .i64 0] 3)).alloc (Obj.cells #[Value.int .i64 0] 3)) = W := ⟨_, rfl⟩
  have hm : PM w w.heap.size (w.heap.size + 1 + 1) (w.heap.size + 1 + 1 + 1) (w.heap.size + 1) s 0 0 W1 := by
    rw [← hW]
    exact ⟨kp_alloc (kp_alloc (kp_alloc (kp_alloc (kp_refl _) _) _) _) _, by simp [go_sem], by simp [go_sem], by simp [go_sem], by simp [go_sem], by simp [go_sem], by simp [go_sem], by simp [go_sem], by simp [go_sem], by simp [go_sem]⟩
  have hd : PD w w.heap.size (w.heap.size + 1 + 1) (w.heap.size + 1 + 1 + 1) (w.heap.size + 1) := ⟨by omega, by omega, by omega, by omega, by omega, by omega, by omega, by omega, by omega, by omega⟩
  rw [hW]
  clear hW
  generalize w.heap.size + 1 + 1 + 1 = gN at *
  generalize w.heap.size + 1 + 1 = gA at *
  generalize w.heap.size + 1 = gF at *
  generalize w.heap.size = gS at *
  have HM := Lib.hid hm; have HD := Lib.hid hd
  clear hm hd
  obtain ⟨fr, hfr⟩ : ∃ fr, frE (bts s) = fr := ⟨_, rfl⟩
  have HF := Lib.hid hfr
  have hfr1 : fr ≤ 1 := by rw [← hfr]; unfold frE; split <;> omega
  have hfrs : fr ≤ s.size := by rw [← hfr]; have := frE_le (bts s); rwa [bts_len] at this
  clear hfr
  obtain ⟨bl, hbl⟩ : ∃ b : Bool, decide (fr = 1) = b := ⟨_, rfl⟩
  have HB := Lib.hid hbl
  clear hbl
  go_cut [8] (fun b wx => b = .bool bl ∧ wx = W1)
  case first =>
    have cS := HM.out.s
    have lS := cell_lt cS
    by_cases h0 : 0 < s.size
    · have hg := bts_get s h0
      by_cases h45 : (bts s).getD 0 0 = 45
      · have e := Lib.hid (show bl = true by rw [← HB.out, ← HF.out]; unfold frE; rw [if_pos h45]; rfl)
        rw [h45] at hg
        have hg' : ((s[0]'h0).toNat : Int) = 45 := hg.symm
        clear hg h45
        go_wp2_with fail
        go_meet
        exact ⟨by rw [e.out], rfl⟩
      · have e := Lib.hid (show bl = false by rw [← HB.out, ← HF.out]; unfold frE; rw [if_neg h45]; rfl)
        rw [hg] at h45
        have t1 : (((s[0]'h0).toNat : Int) == 45) = false := by simpa using h45
        clear hg h45
        go_wp2_with fail
        go_meet
        exact ⟨by rw [e.out], rfl⟩
    · have e := Lib.hid (show bl = false by
        rw [← HB.out, ← HF.out]; unfold frE
        rw [if_neg (by rw [getD_end (by rw [bts_len]; omega)]; omega)]; rfl)
      have t1 : (s.size : Int) ≤ 0 := by omega
      go_wp2_with fail
      go_meet
      exact ⟨by rw [e.out], rfl⟩
  case rest =>
    obtain ⟨rfl, rfl⟩ := hcut
    go_upto_if 25 with fail
    go_cut [8] (fun b wx => b = .bool bl ∧ PM w gS gA gN gF s (fr : Nat) 0 wx)
    case first =>
      have cA := HM.out.a; have fA := HM.out.za; have lA := cell_lt cA
      have w5 : IntKind.i64.wrap (0 + 1) = 1 := by decide
      cases bl with
      | true =>
        have e := Lib.hid (show fr = 1 from by simpa using HB.out)
        go_wp2_with fail
        go_meet
        exact ⟨rfl, by rw [show ((fr : Nat) : Int) = 1 by rw [e.out]; rfl]; exact HM.out.seta HD.out 1⟩
      | false =>
        have e := Lib.hid (show fr = 0 from by have := HB.out; simp at this; omega)
        go_wp2_with fail
        go_meet
        exact ⟨rfl, by rw [show ((fr : Nat) : Int) = 0 by rw [e.out]; rfl]; exact HM.out⟩
    case rest =>
      clear HM
      obtain ⟨rfl, hM⟩ := hcut
      have HM := Lib.hid hM
      clear hM
      have DG := Lib.hid (@digit_any)
      have HFB := Lib.hid (show ¬ 20 < (bts s).length by rw [bts_len]; omega)
      by_cases hz : fr < s.size
      · have QQ := trivial
        have hg := bts_get s hz
        obtain ⟨c, hc⟩ : ∃ c, (bts s).getD (fr) 0 = c := ⟨_, rfl⟩
        rw [hc] at hg
        have hc' : ((s[fr]'hz).toNat : Int) = c := hg.symm
        have HCc := Lib.hid hc
        clear hc hg
        have cS := HM.out.s; have cA := HM.out.a; have lS := cell_lt cS; have lA := cell_lt cA
        have z1 : (0 : Int) ≤ ((fr : Nat) : Int) := by omega
        have z2 : ((fr : Nat) : Int) < (s.size : Int) := by omega
        have z3 : ((fr : Int) == (s.size : Int)) = false := by simp; omega
        cases hdg : isDg c with
        | false =>
          have hP := Lib.hid (show P = (0, 4, ((fr : Nat) : Int)) by rw [← HP.out]; rw [pr_first HFB.out (by rw [HF.out, HCc.out]; exact hdg), HF.out])
          have f0 := HM.out.f0; have f1 := HM.out.f1; have x0 := HM.out.z0; have x1 := HM.out.z1; have lF := cell_lt f0
          go_wp2_with (first
            | (go_at_call 49; refine (DG.out _ _).mono ?_; rintro e wk ⟨rfl, rfl⟩; rw [hdg])
            | (go_at_call 48; refine (fault_any gA _ _ HM.out.a).mono ?_; rintro e wk ⟨rfl, hk⟩
               replace f0 := kp_cell hk HM.out.f0; replace f1 := kp_cell hk HM.out.f1; replace x0 := kp_froz hk HM.out.f0 HM.out.z0; replace x1 := kp_froz hk HM.out.f1 HM.out.z1
               replace lF := cell_lt f0
               have HK := Lib.hid (kp_trans HM.out.k hk)
               clear hk))
          exact bodyPost_ret (v := .tuple #[.int .i64 0, .agg #[.int .i64 4, .int .i64 (fr : Nat)]]) (by simp [results, Try.results31, go_sem, f0, f1]) rfl ⟨by rw [hP.out], kp_set (kp_set HK.out HD.out.lf _) HD.out.lf _⟩
        | true =>
          have H1 := Lib.hid (show isDg ((bts s).getD fr 0) = true by rw [HCc.out]; exact hdg)
          obtain ⟨ee, hee⟩ : ∃ ee, runE (bts s) fr = ee := ⟨_, rfl⟩
          have HE := Lib.hid hee
          have hele : fr + ee ≤ s.size := by rw [← hee]; have := runE_le (bts s) fr (by rw [bts_len]; exact hfrs); rwa [bts_len] at this
          have hbd := isDg_bd hdg
          clear hee
          have HST := Lib.hid (show ∀ j, j ≤ ee → (j < ee ↔ isDg ((bts s).getD (fr + j) 0) = true ∧ (j = 0 ∨ c ≠ 48)) by intro j hj; rw [← HE.out] at hj ⊢; rw [← HCc.out]; exact runE_step _ _ _ hj)
          obtain ⟨zb, hzb⟩ : ∃ zb, (c == (48 : Int)) = zb := ⟨_, rfl⟩
          have HZ := Lib.hid (show (zb = true ↔ c = 48) by rw [← hzb]; simp)
          go_wp2_with (first
            | (go_at_call 49; refine (DG.out _ _).mono ?_; rintro e wk ⟨rfl, rfl⟩; rw [hdg]))
          clear hzb hdg cS cA lS lA z1 z2 z3 hbd
          go_loopw [10] (fun f wr => ∃ j : Nat, j ≤ ee ∧ f = .bool (decide (j = 0)) ∧ PM w gS gA gN gF s (fr + j : Nat) (numV (bts s) fr j) wr) (fun _ wr => s.size - atOf wr gA)
          case atStart => exact ⟨0, by omega, rfl, HM.out⟩
          case round =>
            obtain ⟨j, hj, rfl, hMr⟩ := hrel
            have HR := Lib.hid hMr
            clear hMr
            obtain ⟨fb, hfb⟩ : ∃ fb, decide (j = 0) = fb := ⟨_, rfl⟩
            have HJ := Lib.hid (show (fb = true ↔ j = 0) by rw [← hfb]; simp)
            rw [hfb]
            clear hfb
            have hS := HST.out j hj
            by_cases hz2 : fr + j < s.size
            · have QQ := trivial
              have hg := bts_get s hz2
              obtain ⟨c2, hc2⟩ : ∃ c, (bts s).getD (fr + j) 0 = c := ⟨_, rfl⟩
              rw [hc2] at hg
              have hc2' : ((s[fr + j]'hz2).toNat : Int) = c2 := hg.symm
              have HCc2 := Lib.hid hc2
              clear hc2 hg
              have cS := HR.out.s; have cA := HR.out.a; have lS := cell_lt cS; have lA := cell_lt cA
              have z1 : (0 : Int) ≤ ((fr + j : Nat) : Int) := by omega
              have z2 : ((fr + j : Nat) : Int) < (s.size : Int) := by omega
              have z3 : ((fr : Int) + (j : Int) == (s.size : Int)) = false := by simp; omega
              rw [HCc2.out] at hS
              cases hdg : isDg c2 with
              | true =>
                have hbd := isDg_bd hdg
                rw [hdg] at hS
                by_cases hje : j < ee
                · have hor := (hS.1 hje).2
                  have hV := numV_bd (bts s) fr j (by rw [HE.out]; omega)
                  have HV := Lib.hid (show numV (bts s) fr (j + 1) = cap50 (10 * numV (bts s) fr j + (c2 - 48)) by rw [← HCc2.out]; rfl)
                  generalize numV (bts s) fr j = V at *
                  have AD := Lib.hid (add_any w gS gA gN gF s (fr + j) V c2 _ HD.out HR.out hz2 h20 hc2' hbd.1 hbd.2 hV.1 hV.2)
                  clear hV hbd
                  cases fb with
                  | true =>
                    clear hS hor
                    go_wp2_with (first
                      | (go_at_call 49; refine (DG.out _ _).mono ?_; rintro e wk ⟨rfl, rfl⟩; rw [hdg])
                      | (go_at_call 47; refine AD.out.mono ?_; rintro e wk ⟨rfl, hM2⟩; have HM2 := Lib.hid hM2; clear hM2))
                    have e1 := HJ.out.1 (by simp)
                    exact ⟨⟨j + 1, by omega, by rw [decide_eq_false (by omega)], by rw [HV.out]; exact HM2.out⟩, by rw [atOf_eq HM2.out.a, atOf_eq HR.out.a]; omega⟩
                  | false =>
                    have hzf : zb = false := by
                      cases zb with
                      | true => rcases hor with h | h; exact absurd (HJ.out.2 h) (by simp); exact absurd (HZ.out.1 rfl) h
                      | false => rfl
                    subst hzf
                    clear hS hor
                    go_wp2_with (first
                      | (go_at_call 49; refine (DG.out _ _).mono ?_; rintro e wk ⟨rfl, rfl⟩; rw [hdg])
                      | (go_at_call 47; refine AD.out.mono ?_; rintro e wk ⟨rfl, hM2⟩; have HM2 := Lib.hid hM2; clear hM2))
                    exact ⟨⟨j + 1, by omega, by rw [decide_eq_false (by omega)], by rw [HV.out]; exact HM2.out⟩, by rw [atOf_eq HM2.out.a, atOf_eq HR.out.a]; omega⟩
                · have hne : ¬ (j = 0 ∨ c ≠ 48) := fun h => hje (hS.2 ⟨rfl, h⟩)
                  obtain rfl : j = ee := by omega
                  have hfF : fb = false := by
                    cases fb with
                    | true => exact absurd (.inl (HJ.out.1 rfl)) hne
                    | false => rfl
                  have hzT : zb = true := HZ.out.2 (by omega)
                  subst hfF; subst hzT
                  have n46 : (c2 == 46) = false := by have := isDg_bd hdg; simp; omega
                  have n46' : (c2 != 46) = true := by have := isDg_bd hdg; simp; omega
                  have HN := Lib.hid (show c2 ≠ 46 by have := isDg_bd hdg; omega)
                  clear hS hne
                  have hP := Lib.hid (show P = (0, 4, ((fr + j : Nat) : Int)) by rw [← HP.out]; exact pr_dot HFB.out HF.out H1.out HE.out (by rw [HCc2.out]; exact HN.out))
                  have f0 := HR.out.f0; have f1 := HR.out.f1; have x0 := HR.out.z0; have x1 := HR.out.z1; have lF := cell_lt f0
                  go_wp2_with (first
                    | (go_at_call 49; refine (DG.out _ _).mono ?_; rintro e wk ⟨rfl, rfl⟩; rw [hdg])
                    | (go_at_call 48; refine (fault_any gA _ _ HR.out.a).mono ?_; rintro e wk ⟨rfl, hk⟩
                       replace f0 := kp_cell hk HR.out.f0; replace f1 := kp_cell hk HR.out.f1; replace x0 := kp_froz hk HR.out.f0 HR.out.z0; replace x1 := kp_froz hk HR.out.f1 HR.out.z1
                       replace lF := cell_lt f0
                       have HK := Lib.hid (kp_trans HR.out.k hk)
                       clear hk))
                  exact bodyPost_ret (v := .tuple #[.int .i64 0, .agg #[.int .i64 4, .int .i64 (fr + j : Nat)]]) (by simp [results, Try.results31, go_sem, f0, f1]) rfl ⟨by rw [hP.out], kp_set (kp_set HK.out HD.out.lf _) HD.out.lf _⟩
              | false =>
                obtain rfl : j = ee := by
                  rw [hdg] at hS
                  rcases Nat.lt_or_ge j ee with g | g
                  · exact absurd (hS.1 g).1 (by simp)
                  · omega
                clear hS
                by_cases h46 : c2 = 46
                · have hV := numV_bd (bts s) fr j (by rw [HE.out]; omega)
                  obtain ⟨V, hVV⟩ : ∃ V, numV (bts s) fr j = V := ⟨_, rfl⟩
                  have HV := Lib.hid hVV
                  rw [hVV] at hV
                  have HVB := Lib.hid hV
                  have HMR := Lib.hid (show PM w gS gA gN gF s (fr + j : Nat) V _ by rw [← hVV]; exact HR.out)
                  clear hVV hV HR
                  subst h46
                  have fA := HMR.out.za
                  have HDT := Lib.hid (show (bts s).getD (fr + j) 0 = 46 by rw [HCc2.out])
                  have w5 : IntKind.i64.wrap ((fr : Int) + (j : Int) + 1) = (fr : Int) + (j : Int) + 1 := IntWalk.i64_in _ (by omega)
                  go_wp2_with (first
                    | (go_at_call 49; refine (DG.out _ _).mono ?_; rintro e wk ⟨rfl, rfl⟩; rw [hdg]))
                  clear hc2' hdg
                  have HM3 := Lib.hid (HMR.out.seta HD.out ((fr : Int) + (j : Int) + 1))
                  go_loopw [82] (fun i wx => ∃ k : Nat, k ≤ 2 ∧ i = .int .i64 k ∧ fr + j + 1 + k ≤ s.size ∧ (∀ q, q < k → isDg ((bts s).getD (fr + j + 1 + q) 0) = true) ∧ PM w gS gA gN gF s (fr + j + 1 + k : Nat) (numW (bts s) V (fr + j + 1) k) wx) (fun i _ => 2 - (intOf i).toNat)
                  case atStart => exact ⟨0, by omega, rfl, by omega, fun q hq => absurd hq (Nat.not_lt_zero _), by rw [show ((fr + j + 1 + 0 : Nat) : Int) = (fr : Int) + (j : Int) + 1 by omega]; exact HM3.out⟩
                  case round =>
                    obtain ⟨k, hk, rfl, hks, hpk, hMx⟩ := hrel
                    have HX := Lib.hid hMx; have HPK := Lib.hid hpk
                    have hW := numW_bd (l := bts s) (V := V) (a := fr + j + 1) HVB.out.1 HVB.out.2 k hpk
                    clear hMx hpk
                    by_cases hk2 : k < 2
                    · by_cases hz3 : fr + j + 1 + k < s.size
                      · have QQ := trivial
                        have hg := bts_get s hz3
                        obtain ⟨c3, hc3⟩ : ∃ c, (bts s).getD (fr + j + 1 + k) 0 = c := ⟨_, rfl⟩
                        rw [hc3] at hg
                        have hc3' : ((s[fr + j + 1 + k]'hz3).toNat : Int) = c3 := hg.symm
                        have HCc3 := Lib.hid hc3
                        clear hc3 hg
                        have cS := HX.out.s; have cA := HX.out.a; have lS := cell_lt cS; have lA := cell_lt cA
                        have z1 : (0 : Int) ≤ ((fr + j + 1 + k : Nat) : Int) := by omega
                        have z2 : ((fr + j + 1 + k : Nat) : Int) < (s.size : Int) := by omega
                        have z3 : ((fr : Int) + (j : Int) + (1 : Int) + (k : Int) == (s.size : Int)) = false := by simp; omega
                        cases hdg : isDg c3 with
                        | true =>
                          have hbd := isDg_bd hdg
                          have HD3 := Lib.hid hdg
                          have HV3 := Lib.hid (show numW (bts s) V (fr + j + 1) (k + 1) = cap50 (10 * numW (bts s) V (fr + j + 1) k + (c3 - 48)) by rw [← HCc3.out]; rfl)
                          generalize numW (bts s) V (fr + j + 1) k = U at *
                          have AD := Lib.hid (add_any w gS gA gN gF s (fr + j + 1 + k) U c3 _ HD.out HX.out hz3 h20 hc3' hbd.1 hbd.2 hW.1 hW.2)
                          have w6 : IntKind.i64.wrap ((k : Int) + 1) = (k : Int) + 1 := IntWalk.i64_in _ (by omega)
                          clear hW hbd
                          go_wp2_with (first
                            | (go_at_call 49; refine (DG.out _ _).mono ?_; rintro e wk ⟨rfl, rfl⟩; rw [hdg])
                            | (go_at_call 47; refine AD.out.mono ?_; rintro e wk ⟨rfl, hM2⟩; have HM2 := Lib.hid hM2; clear hM2))
                          refine ⟨⟨k + 1, by omega, by go_num, by omega, ?_, by rw [HV3.out]; exact HM2.out⟩, by simp [intOf]; omega⟩
                          intro q hq
                          rcases Nat.lt_or_ge q k with g | g
                          · exact HPK.out q g
                          · obtain rfl : q = k := by omega
                            rw [HCc3.out]; exact HD3.out
                        | false =>
                          have hP := Lib.hid (show P = (0, 4, ((fr + j + 1 + k : Nat) : Int)) by rw [← HP.out]; exact pr_cent HFB.out HF.out H1.out HE.out HDT.out hk2 HPK.out (by rw [HCc3.out]; exact hdg))
                          have f0 := HX.out.f0; have f1 := HX.out.f1; have x0 := HX.out.z0; have x1 := HX.out.z1; have lF := cell_lt f0
                          go_wp2_with (first
                            | (go_at_call 49; refine (DG.out _ _).mono ?_; rintro e wk ⟨rfl, rfl⟩; rw [hdg])
                            | (go_at_call 48; refine (fault_any gA _ _ HX.out.a).mono ?_; rintro e wk ⟨rfl, hk⟩
                               replace f0 := kp_cell hk HX.out.f0; replace f1 := kp_cell hk HX.out.f1; replace x0 := kp_froz hk HX.out.f0 HX.out.z0; replace x1 := kp_froz hk HX.out.f1 HX.out.z1
                               replace lF := cell_lt f0
                               have HK := Lib.hid (kp_trans HX.out.k hk)
                               clear hk))
                          exact bodyPost_ret (v := .tuple #[.int .i64 0, .agg #[.int .i64 4, .int .i64 (fr + j + 1 + k : Nat)]]) (by simp [results, Try.results31, go_sem, f0, f1]) rfl ⟨by rw [hP.out], kp_set (kp_set HK.out HD.out.lf _) HD.out.lf _⟩
                      · have QQ := trivial
                        have hn0 := Lib.hid (show (bts s).getD (fr + j + 1 + k) 0 = 0 from getD_end (by rw [bts_len]; omega))
                        have cS := HX.out.s; have cA := HX.out.a; have lS := cell_lt cS; have lA := cell_lt cA
                        have z1 : (0 : Int) ≤ ((fr + j + 1 + k : Nat) : Int) := by omega
                        have z2 : ((fr + j + 1 + k : Nat) : Int) = (s.size : Int) := by omega
                        have hP := Lib.hid (show P = (0, 4, ((fr + j + 1 + k : Nat) : Int)) by rw [← HP.out]; exact pr_cent HFB.out HF.out H1.out HE.out HDT.out hk2 HPK.out (by rw [hn0.out]; rfl))
                        have f0 := HX.out.f0; have f1 := HX.out.f1; have x0 := HX.out.z0; have x1 := HX.out.z1; have lF := cell_lt f0
                        go_wp2_with (first
                          | (go_at_call 48; refine (fault_any gA _ _ HX.out.a).mono ?_; rintro e wk ⟨rfl, hk⟩
                             replace f0 := kp_cell hk HX.out.f0; replace f1 := kp_cell hk HX.out.f1; replace x0 := kp_froz hk HX.out.f0 HX.out.z0; replace x1 := kp_froz hk HX.out.f1 HX.out.z1
                             replace lF := cell_lt f0
                             have HK := Lib.hid (kp_trans HX.out.k hk)
                             clear hk))
                        exact bodyPost_ret (v := .tuple #[.int .i64 0, .agg #[.int .i64 4, .int .i64 (fr + j + 1 + k : Nat)]]) (by simp [results, Try.results31, go_sem, f0, f1]; omega) rfl ⟨by rw [hP.out], kp_set (kp_set HK.out HD.out.lf _) HD.out.lf _⟩
                    · obtain rfl : k = 2 := by omega
                      have cS := HX.out.s; have cA := HX.out.a; have lS := cell_lt cS; have lA := cell_lt cA
                      by_cases hm : fr + j + 1 + 2 < s.size
                      · have z2 : ((fr + j + 1 + 2 : Nat) : Int) < (s.size : Int) := by omega
                        have hP := Lib.hid (show P = (0, 4, ((fr + j + 1 + 2 : Nat) : Int)) by rw [← HP.out]; exact pr_more HFB.out HF.out H1.out HE.out HDT.out HPK.out (by rw [bts_len]; exact hm))
                        have f0 := HX.out.f0; have f1 := HX.out.f1; have x0 := HX.out.z0; have x1 := HX.out.z1; have lF := cell_lt f0
                        go_wp2_with (first
                          | (go_at_call 48; refine (fault_any gA _ _ HX.out.a).mono ?_; rintro e wk ⟨rfl, hk⟩
                             replace f0 := kp_cell hk HX.out.f0; replace f1 := kp_cell hk HX.out.f1; replace x0 := kp_froz hk HX.out.f0 HX.out.z0; replace x1 := kp_froz hk HX.out.f1 HX.out.z1
                             replace lF := cell_lt f0
                             have HK := Lib.hid (kp_trans HX.out.k hk)
                             clear hk))
                        exact bodyPost_ret (v := .tuple #[.int .i64 0, .agg #[.int .i64 4, .int .i64 (fr + j + 1 + 2 : Nat)]]) (by simp [results, Try.results31, go_sem, f0, f1]) rfl ⟨by rw [hP.out], kp_set (kp_set HK.out HD.out.lf _) HD.out.lf _⟩
                      · have z2 : ¬ ((fr + j + 1 + 2 : Nat) : Int) < (s.size : Int) := by omega
                        have hT := Lib.hid (show P = tellR fr (numW (bts s) V (fr + j + 1) 2) by rw [← HP.out, pr_tell HFB.out HF.out H1.out HE.out HDT.out HPK.out (by rw [bts_len]; exact hm), tell_num fr HPK.out, HV.out])
                        generalize numW (bts s) V (fr + j + 1) 2 = U at *
                        have f0 := HX.out.f0; have f1 := HX.out.f1; have x0 := HX.out.z0; have x1 := HX.out.z1; have lF := cell_lt f0
                        have cN := HX.out.n; have fN := HX.out.zn; have lN := cell_lt cN
                        have d1 := HD.out.nf
                        by_cases hmax : 1099511627775 < U
                        · have hP := Lib.hid (show P = (0, 5, 0) by rw [hT.out]; unfold tellR; rw [if_pos hmax])
                          go_wp2_with fail
                          exact bodyPost_ret (v := .tuple #[.int .i64 0, .agg #[.int .i64 5, .int .i64 0]]) (by simp [results, Try.results31, go_sem, f0, f1]) rfl ⟨by rw [hP.out], kp_set (kp_set HX.out.k HD.out.lf _) HD.out.lf _⟩
                        · cases bl with
                          | true =>
                            have e1 := Lib.hid (show fr = 1 by simpa using HB.out)
                            by_cases h0 : U = 0
                            · have hP := Lib.hid (show P = (0, 5, 0) by rw [hT.out]; unfold tellR; rw [if_neg hmax, if_pos ⟨e1.out, h0⟩])
                              have t0 : (U == 0) = true := by simpa using h0
                              clear h0
                              go_wp2_with fail
                              exact bodyPost_ret (v := .tuple #[.int .i64 0, .agg #[.int .i64 5, .int .i64 0]]) (by simp [results, Try.results31, go_sem, f0, f1]) rfl ⟨by rw [hP.out], kp_set (kp_set HX.out.k HD.out.lf _) HD.out.lf _⟩
                            · have hP := Lib.hid (show P = (-U, 0, 0) by rw [hT.out]; unfold tellR; rw [if_neg hmax, if_neg (fun h => h0 h.2), if_pos e1.out])
                              have t0 : (U == 0) = false := by simpa using h0
                              have w6 : IntKind.i64.wrap (-U) = -U := IntWalk.i64_in _ (by omega)
                              clear h0
                              go_wp2_with fail
                              exact bodyPost_ret (v := .tuple #[.int .i64 (-U), .agg #[.int .i64 0, .int .i64 0]]) (by simp [results, Try.results31, go_sem, f0, f1]) rfl ⟨by rw [hP.out], kp_set (kp_set (kp_set HX.out.k HD.out.ln _) HD.out.lf _) HD.out.lf _⟩
                          | false =>
                            have e1 := Lib.hid (show ¬ fr = 1 by simpa using HB.out)
                            have hP := Lib.hid (show P = (U, 0, 0) by rw [hT.out]; unfold tellR; rw [if_neg hmax, if_neg (fun h => e1.out h.1), if_neg e1.out])
                            go_wp2_with fail
                            exact bodyPost_ret (v := .tuple #[.int .i64 U, .agg #[.int .i64 0, .int .i64 0]]) (by simp [results, Try.results31, go_sem, f0, f1]) rfl ⟨by rw [hP.out], kp_set (kp_set HX.out.k HD.out.lf _) HD.out.lf _⟩
                · have n46' : (c2 != 46) = true := by simp; omega
                  have HN := Lib.hid h46
                  clear h46
                  have hP := Lib.hid (show P = (0, 4, ((fr + j : Nat) : Int)) by rw [← HP.out]; exact pr_dot HFB.out HF.out H1.out HE.out (by rw [HCc2.out]; exact HN.out))
                  have f0 := HR.out.f0; have f1 := HR.out.f1; have x0 := HR.out.z0; have x1 := HR.out.z1; have lF := cell_lt f0
                  go_wp2_with (first
                    | (go_at_call 49; refine (DG.out _ _).mono ?_; rintro e wk ⟨rfl, rfl⟩; rw [hdg])
                    | (go_at_call 48; refine (fault_any gA _ _ HR.out.a).mono ?_; rintro e wk ⟨rfl, hk⟩
                       replace f0 := kp_cell hk HR.out.f0; replace f1 := kp_cell hk HR.out.f1; replace x0 := kp_froz hk HR.out.f0 HR.out.z0; replace x1 := kp_froz hk HR.out.f1 HR.out.z1
                       replace lF := cell_lt f0
                       have HK := Lib.hid (kp_trans HR.out.k hk)
                       clear hk))
                  exact bodyPost_ret (v := .tuple #[.int .i64 0, .agg #[.int .i64 4, .int .i64 (fr + j : Nat)]]) (by simp [results, Try.results31, go_sem, f0, f1]) rfl ⟨by rw [hP.out], kp_set (kp_set HK.out HD.out.lf _) HD.out.lf _⟩
            · obtain rfl : j = ee := by omega
              clear hS
              have hn0 := Lib.hid (show (bts s).getD (fr + j) 0 = 0 from getD_end (by rw [bts_len]; omega))
              have cS := HR.out.s; have cA := HR.out.a; have lS := cell_lt cS; have lA := cell_lt cA
              have z1 : (0 : Int) ≤ ((fr + j : Nat) : Int) := by omega
              have z2 : ((fr + j : Nat) : Int) = (s.size : Int) := by omega
              have hP := Lib.hid (show P = (0, 4, ((fr + j : Nat) : Int)) by rw [← HP.out]; exact pr_dot HFB.out HF.out H1.out HE.out (by rw [hn0.out]; omega))
              have f0 := HR.out.f0; have f1 := HR.out.f1; have x0 := HR.out.z0; have x1 := HR.out.z1; have lF := cell_lt f0
              go_wp2_with (first
                | (go_at_call 48; refine (fault_any gA _ _ HR.out.a).mono ?_; rintro e wk ⟨rfl, hk⟩
                   replace f0 := kp_cell hk HR.out.f0; replace f1 := kp_cell hk HR.out.f1; replace x0 := kp_froz hk HR.out.f0 HR.out.z0; replace x1 := kp_froz hk HR.out.f1 HR.out.z1
                   replace lF := cell_lt f0
                   have HK := Lib.hid (kp_trans HR.out.k hk)
                   clear hk))
              exact bodyPost_ret (v := .tuple #[.int .i64 0, .agg #[.int .i64 4, .int .i64 (fr + j : Nat)]]) (by simp [results, Try.results31, go_sem, f0, f1]; omega) rfl ⟨by rw [hP.out], kp_set (kp_set HK.out HD.out.lf _) HD.out.lf _⟩
      · have QQ := trivial
        have hn0 := Lib.hid (show (bts s).getD (fr) 0 = 0 from getD_end (by rw [bts_len]; omega))
        have cS := HM.out.s; have cA := HM.out.a; have lS := cell_lt cS; have lA := cell_lt cA
        have z1 : (0 : Int) ≤ ((fr : Nat) : Int) := by omega
        have z2 : ((fr : Nat) : Int) = (s.size : Int) := by omega
        have hP := Lib.hid (show P = (0, 4, ((fr : Nat) : Int)) by rw [← HP.out]; rw [pr_first HFB.out (by rw [HF.out, hn0.out]; rfl), HF.out])
        have f0 := HM.out.f0; have f1 := HM.out.f1; have x0 := HM.out.z0; have x1 := HM.out.z1; have lF := cell_lt f0
        go_wp2_with (first
          | (go_at_call 48; refine (fault_any gA _ _ HM.out.a).mono ?_; rintro e wk ⟨rfl, hk⟩
             replace f0 := kp_cell hk HM.out.f0; replace f1 := kp_cell hk HM.out.f1; replace x0 := kp_froz hk HM.out.f0 HM.out.z0; replace x1 := kp_froz hk HM.out.f1 HM.out.z1
             replace lF := cell_lt f0
             have HK := Lib.hid (kp_trans HM.out.k hk)
             clear hk))
        exact bodyPost_ret (v := .tuple #[.int .i64 0, .agg #[.int .i64 4, .int .i64 (fr : Nat)]]) (by simp [results, Try.results31, go_sem, f0, f1]; omega) rfl ⟨by rw [hP.out], kp_set (kp_set HK.out HD.out.lf _) HD.out.lf _⟩
theorem parse_any (s : ByteArray) (w : World) (hs : s.size ≤ 1000000) : Calls Try.prog 31 #[.string s] w (RetP w (parseR (bts s))) := by
  by_cases h : s.size ≤ 20
  · exact parse_short s w h
  · exact parse_long s w (by omega) hs
end Go.Proofs.Ytcmijedhjebpkaa
