/- The walk of WideOrder. -/
import Derived.Test.YtcadaejpegdpeaaIR
import Derived.Test.YtcadaejpegdpeaaWA
import Derived.Deep.DeepCutAuto
import Derived.Deep.QuietTactic
import Derived.BigQuiet
import Derived.BigRegion
import Derived.RegionTactic
import Derived.IntWalk
namespace Go.Proofs.Ytcadaejpegdpeaa
open Go.RowKit Go.Proofs.Geo
set_option linter.unusedVariables false
theorem OwnI.shape {w : World} {B : Nat} {v : Value} {l : List Int} (h : OwnI w B v l) : ∃ a cap, v = .slice a l.length cap := by
  obtain ⟨h1, ⟨hv, hn⟩ | ⟨g, cap, cur, hv, _⟩⟩ := h
  · exact ⟨none, 0, by rw [hn]; exact hv⟩
  · exact ⟨_, _, hv⟩
/-- The ints while some change places. -/
def OrdL (w1 : World) (v : Value) (n : Nat) (T : Int) (L : List Int) (wr : World) : Prop := OwnI wr w1.heap.size v L ∧ Kp w1 wr ∧ L.length = n ∧ L.sum = T ∧ ∀ x ∈ L, I64 x
theorem sumI_cases (T : Int) : sumI T = (T, 0) ∨ sumI T = (0, 5) := by unfold sumI; split <;> simp
set_option maxHeartbeats 8000000 in
set_option maxRecDepth 100000 in
theorem wideOrder_walk (w : World) (a0 : Option Addr) (len0 cap0 : Nat) (hA0 : ∃ l : List Int, len0 = l.length ∧ RdI w (.slice a0 len0 cap0) l) (a1 : Option Addr) (len1 cap1 : Nat) (hA1 : ∃ l : List Int, len1 = l.length ∧ RdI w (.slice a1 len1 cap1) l) (x2 : Int) (h2 : I64 x2) : Calls Try.prog 6 #[.slice a0 len0 cap0, .slice a1 len1 cap1, .int .i64 x2] w fun e w' => e = .returned (.bool true) ∧ Kp w w' := by
  obtain ⟨l, e0, R0⟩ := hA0
  obtain ⟨t, e1, R1⟩ := hA1
  have HE := Lib.hid e0; clear e0
  have HE1 := Lib.hid e1; clear e1
  by_cases g0 : len0 ≤ 200
  · by_cases g1 : len1 ≤ 200
    · obtain ⟨i0, hi, hz0, hz1, hz2⟩ := info_parts infoInt8
      have HI := Lib.hid hi; have HZ0 := Lib.hid hz0; have HZ1 := Lib.hid hz1; have HZ2 := Lib.hid hz2; clear hi hz0 hz1 hz2
      have HG := Lib.hid g0
      have HR := Lib.hid R0
      have HR1 := Lib.hid R1
      have HI64 := Lib.hid R0.2.1
      have HX2 := Lib.hid h2
      have hx21 : -9223372036854775808 ≤ x2 := h2.1
      have hx22 : x2 ≤ 9223372036854775807 := h2.2
      clear R0 R1 h2
      go_enter Try.func6, Try.ntmps6
      go_upto_region 4 with (go_at_call 14; refine (awake01_any _).mono ?_; rintro e w1 ⟨rfl, k1⟩; have HK1 := Lib.hid k1; clear k1)
      go_cut [8] (fun s wx => OwnI wx w1.heap.size s l ∧ Kp w1 wx)
      case first =>
        have R0 : RdI w1 (.slice a0 len0 cap0) l := HR.out.kp HK1.out
        have HO0 : Hid (OwnI (w1.alloc (.cells #[] 3)) w1.heap.size (.slice (some ⟨w1.heap.size, 0, none⟩) 0 0) []) := Lib.hid (OwnI.lit w1 [] #[] rfl (by simp))
        obtain ⟨hl0, hl1, ⟨hv, hn⟩ | ⟨ad, cp, hv, hc⟩⟩ := R0
        · injection hv with q1 q2 q3; subst q1 q2 q3 hn
          go_wp2_with (at_builtin; refine wpList_append_own_none rfl (.tmp 26) (.tmp 27) 32 rfl w1.heap.size 3 i0 1 Try.underlying32 HI.out _ _ _ rfl HO0.out rfl ?_)
          go_meet
          exact ⟨HO0.out, kp_alloc (kp_refl _) _⟩
        · injection hv with q1 q2 q3; subst q1 q3; clear q2
          have HC := Lib.hid hc; clear hc
          go_wp2_with (at_builtin; refine wpList_append_own _ rfl (.tmp 26) (.tmp 27) 32 rfl w1.heap.size 3 i0 (.int .i64 0) 1 8 Try.underlying32 HI.out HZ0.out HZ1.out HZ2.out rfl (by decide) _ _ _ rfl HO0.out ad _ _ (intsV l) rfl (by rw [intsV_len, Nat.mul_one, ← HE.out]) (cells_kpI HC.out (kp_alloc (kp_refl _) _)) (intsV_one _) (by have := HE.out; have := HG.out; unfold maxLen; (try simp) <;> omega) (by have := HE.out; have := HG.out; (try simp) <;> omega) (Below.size (kp_alloc (kp_refl w1) _)) ?_; intro u2 w2 hown hg _)
          have hr : OwnI w2 w1.heap.size u2 l := by have h := (OwnI.append (l := []) (m := l) (by have h := hown; rw [HE.out] at h; exact h)); rwa [List.nil_append] at h
          have k2 : Kp w1 w2 := kp_grown_ownI (kp_alloc (kp_refl w1) _) hg HO0.out
          clear hown hg
          go_meet
          exact ⟨hr, k2⟩
      case rest =>
        obtain ⟨hown, KC⟩ := hcut
        obtain ⟨sa, scap, rfl⟩ := hown.shape
        have he := HE.out
        rw [← he] at hown ⊢
        obtain ⟨T, hT⟩ : ∃ T, l.sum = T := ⟨_, rfl⟩
        have HO := Lib.hid (show OrdL w1 (.slice sa len0 scap) len0 T l wc from ⟨hown, KC, he.symm, hT, HI64.out⟩)
        have HT := Lib.hid hT
        clear he hown KC hT
        go_wp2_with fail
        go_loopw [9] (fun i wr => ∃ (k : Nat) (L : List Int), k ≤ len1 ∧ i = .int .i64 k ∧ OrdL w1 (.slice sa len0 scap) len0 T L wr) (fun i _ => len1 - (intOf i).toNat)
        case atStart => exact ⟨0, l, by omega, rfl, HO.out⟩
        case round =>
          obtain ⟨k, L, hk, rfl, hord⟩ := hrel
          by_cases hgo : k < len1 ∧ 0 < len0
          · obtain ⟨hlt, hn⟩ := hgo
            obtain ⟨ho, hk1, hLn, hLs, hLi⟩ := hord
            obtain ⟨b1, c1, hb1, hs1⟩ := (HR1.out.kp (kp_trans HK1.out hk1)).shape
            have hk2 : k < t.length := by rw [← HE1.out]; exact hlt
            injection hb1 with q1 q2 q3
            subst q1
            clear q2 q3
            obtain ⟨tb, ot, rfl, pt⟩ := hs1.resolve_left (by rintro rfl; simp at hk2)
            have yt := pt k hk2
            generalize t[k]'hk2 = x at *
            rcases row_of_ownI ho hk1 with ⟨_, rfl⟩ | ⟨g, cap, S, hv, hr, hc1, hc2, hS⟩
            · simp at hLn; omega
            injection hv with q1 q2 q3
            subst q1 q3
            clear q2 pt
            obtain ⟨p, hp⟩ : ∃ p, k % len0 = p := ⟨_, rfl⟩
            have hpl : p < len0 := by rw [← hp]; exact Nat.mod_lt _ hn
            obtain ⟨N, hN⟩ : ∃ N, nU x = N := ⟨_, rfl⟩
            have hNb : N < 18446744073709551616 := by rw [← hN]; unfold nU; omega
            obtain ⟨q, hq⟩ : ∃ q, N % len0 = q := ⟨_, rfl⟩
            have hql : q < len0 := by rw [← hq]; exact Nat.mod_lt _ hn
            have wk1 : IntKind.u64.wrap x = (N : Int) := by rw [u64_nU, hN]
            have wk2 : IntKind.u64.wrap (len0 : Int) = (len0 : Int) := by rw [IntKind.wrap_u64]; omega
            have wk3 : (N : Int).tmod (len0 : Int) = (q : Int) := by rw [Int.tmod_eq_emod_of_nonneg (by omega), ← hq]; exact (Int.natCast_emod N len0).symm ▸ (by simp)
            have wk4 : IntKind.i64.wrap (q : Int) = (q : Int) := IntWalk.i64_in _ (by omega)
            have wk5 : (k : Int).tmod (len0 : Int) = (p : Int) := by rw [Int.tmod_eq_emod_of_nonneg (by omega), ← hp]; exact (Int.natCast_emod k len0).symm ▸ (by simp)
            have wk6 : IntKind.u64.wrap (q : Int) = (q : Int) := by rw [IntKind.wrap_u64]; omega
            have wk7 : IntKind.i64.wrap (p : Int) = (p : Int) := IntWalk.i64_in _ (by omega)
            have hpL : p < L.length := by omega
            have hqL : q < L.length := by omega
            have yp := hr.cells p hpL
            have yq := hr.cells q hqL
            rw [Nat.zero_add] at yp yq
            have fp := hr.frozen p
            have fq := hr.frozen q
            have lg := hr.lt
            have hsw := sum_swap L p q hpL hqL
            have hi1 := i64_set (i64_set hLi p (hLi _ (List.getElem_mem hqL))) q (hLi _ (List.getElem_mem hpL))
            generalize L[p]'hpL = vp at *
            generalize L[q]'hqL = vq at *
            have HRr := Lib.hid hr
            have HSW := Lib.hid (hsw.trans hLs)
            have HI1 := Lib.hid hi1
            have HLn := Lib.hid hLn
            have HC := Lib.hid hc1
            have HC2 := Lib.hid hc2
            have HS := Lib.hid hS
            have lt0 : tb < wr.heap.size := cell_lt yt
            have nz : ¬ len0 = 0 := by omega
            have nz2 : ¬ ((len0 : Int) = 0) := by omega
            have d1 : (0 : Int) ≤ (p : Int) := by omega
            have d2 : (p : Int) < (len0 : Int) := by omega
            have d3 : (0 : Int) ≤ (q : Int) := by omega
            have d4 : (q : Int) < (len0 : Int) := by omega
            have d5 : (0 : Int) ≤ (k : Int) := by omega
            have d6 : (k : Int) < (len1 : Int) := by omega
            have d7 : (0 : Int) < (len0 : Int) := by omega
            clear hp hN hq hsw hi1 hLn hLs hLi hc1 hc2 hS hr ho hk1 hNb hk2 hpL hqL
            have hfin : ∀ W, RowI w1 g S ((L.set p vq).set q vp) W → OrdL w1 (.slice (some ⟨g, 0, none⟩) len0 scap) len0 T ((L.set p vq).set q vp) W := fun W h => by
              have hln : ((L.set p vq).set q vp).length = len0 := by simp [HLn.out]
              have := own_of_rowI h (by rw [hln, ← HLn.out]; exact HC.out) HC2.out HS.out
              rw [hln] at this
              exact ⟨this, h.k, hln, HSW.out, HI1.out⟩
            have HF := Lib.hid hfin
            clear hfin
            have hcase : p = q ∨ (¬ p = q ∧ ¬ q = p) := by omega
            rcases hcase with e | ⟨ne1, ne2⟩
            · subst e
              have ev : vq = vp := by have h := yp.symm.trans yq; simp at h; exact h.symm
              subst ev
              go_upto_region 8 with fail
              go_quiet (fail)
              go_wp2_with fail
              go_region
              all_goals go_wp2_with fail
              refine ⟨⟨k + 1, _, by omega, by go_num, HF.out _ ?_⟩, by simp [intOf]; omega⟩
              first
                | exact ((HRr.out.kp (kp_drewN (kp_refl _) _)).set p vq).set p vq
                | exact (((HRr.out.kp (kp_drewN (kp_refl _) _)).set p vq).set p vq).kp (kp_drew (kp_refl _))
                | exact (((HRr.out.kp (kp_drew (kp_drewN (kp_refl _) _))).set p vq).set p vq)
            · go_upto_region 8 with fail
              go_quiet (fail)
              go_wp2_with fail
              go_region
              all_goals go_wp2_with fail
              refine ⟨⟨k + 1, _, by omega, by go_num, HF.out _ ?_⟩, by simp [intOf]; omega⟩
              first
                | exact ((HRr.out.kp (kp_drewN (kp_refl _) _)).set p vq).set q vp
                | exact (((HRr.out.kp (kp_drewN (kp_refl _) _)).set p vq).set q vp).kp (kp_drew (kp_refl _))
                | exact (((HRr.out.kp (kp_drew (kp_drewN (kp_refl _) _))).set p vq).set q vp)
          · obtain ⟨ho, hk1, hLn, hLs, hLi⟩ := hord
            have hcase : (decide (k < len1) = false ∧ decide ((k : Int) < (len1 : Int)) = false) ∨ (k < len1 ∧ decide (0 < len0) = false ∧ decide ((0 : Int) < (len0 : Int)) = false) := by
              by_cases h : k < len1
              · right; exact ⟨h, decide_eq_false (by omega), decide_eq_false (by omega)⟩
              · left; exact ⟨decide_eq_false h, decide_eq_false (by omega)⟩
            have HW := Lib.hid ho
            have HK := Lib.hid hk1
            have HLn := Lib.hid hLn
            have HLs := Lib.hid hLs
            have HLi := Lib.hid hLi
            clear ho hk1 hLn hLs hLi hgo
            rcases hcase with ⟨t1, t2⟩ | ⟨t1, t2, t3⟩
            all_goals
              go_upto_if 69 with fail
              go_cut [8] (fun s wx => ∃ M : List Int, RdI wx s M ∧ M.sum = T ∧ Kp wr wx)
              case first =>
                have hLl : L.length ≤ 200 := by have := HLn.out; omega
                by_cases hm : -9223372036854775808 < x2
                · have tm : decide (-9223372036854775808 < x2) = true := decide_eq_true hm
                  have ho1 := OwnI.lit wr [x2] #[.int .i64 x2] rfl (by simp)
                  have HO1 : Hid (OwnI (wr.alloc (.cells #[.int .i64 x2] 3)) wr.heap.size (.slice (some ⟨wr.heap.size, 0, none⟩) 1 1) [x2]) := Lib.hid ho1
                  have HM2 : Hid (∀ y ∈ ([x2] ++ L) ++ [-x2], I64 y) := Lib.hid (by
                    intro y hy
                    simp only [List.mem_append, List.mem_singleton] at hy
                    rcases hy with (rfl | hy) | rfl
                    · exact HX2.out
                    · exact HLi.out y hy
                    · unfold I64; omega)
                  have HM3 : Hid ((([x2] ++ L) ++ [-x2]).sum = T) := Lib.hid (by rw [← HLs.out]; simp; omega)
                  have hA : ∀ (u2 : Value) (w2 : World), w2.ownsRow wr.heap.size 3 1 u2 (1 + len0) (intsV [x2] ++ intsV L) → OwnI w2 wr.heap.size u2 ([x2] ++ L) := fun u2 w2 h => OwnI.append (l := [x2]) (m := L) (by rw [HLn.out]; exact h)
                  have HAA := Lib.hid hA
                  clear ho1 hA
                  rcases row_of_ownI HW.out HK.out with ⟨hv, hLe⟩ | ⟨g, cap, S, hv, hr, hc1, hc2, hS⟩
                  · injection hv with q1 q2 q3; subst q1 q2 q3 hLe
                    go_wp2_with (first
                      | (at_builtin; refine wpList_append_own_none rfl (.tmp 71) (.tmp 72) 32 rfl wr.heap.size 3 i0 1 Try.underlying32 HI.out _ _ _ rfl HO1.out rfl ?_)
                      | (at_builtin; refine wpList_append_own _ rfl (.tmp 73) (.tmp 76) 32 rfl wr.heap.size 3 i0 (.int .i64 0) 1 8 Try.underlying32 HI.out HZ0.out HZ1.out HZ2.out rfl (by decide) _ _ _ rfl (HO1.out.kp (kp_alloc (kp_refl _) _)) ⟨wr.heap.size + 1, 0, none⟩ 1 _ (intsV [-x2]) rfl rfl (by have h := cell_one_new (wr.alloc (.cells #[.int .i64 x2] 3)) (.int .i64 (-x2)) 3; rw [World.size_alloc] at h; exact h) (intsV_one _) (by show 1 + 1 ≤ maxLen; unfold maxLen; omega) (by show (1 + 1) * 8 ≤ 140737488355328; omega) (by simp; omega) ?_; intro u3 w3 hown hg _))
                    go_meet
                    have ho3 : OwnI w3 wr.heap.size u3 ([x2] ++ [-x2]) := OwnI.append hown
                    exact ⟨_, ho3.rd (by simp) HM2.out, HM3.out, kp_grown_ownI (kp_alloc (kp_alloc (kp_refl _) _) _) hg (HO1.out.kp (kp_alloc (kp_refl _) _))⟩
                  · injection hv with q1 q2 q3; subst q1 q3
                    have hcl := hr.cells
                    have hcl2 : ∀ j u, (intsV L)[j]? = some u → wr.cell? ((⟨g, 0, none⟩ : Addr).add j) = some u := fun j u hj => by
                      have hl : j < L.length := by have := (List.getElem?_eq_some_iff.1 hj).1; rwa [intsV_len] at this
                      rw [add_cellI, hcl j hl, ← hj]; unfold intsV; rw [List.getElem?_map, List.getElem?_eq_getElem hl]; rfl
                    have HCL := Lib.hid (fun j u hj => kp_cell (kp_alloc (kp_refl wr) (.cells #[.int .i64 x2] 3)) (hcl2 j u hj))
                    clear hcl hcl2 hr hc1 hc2 hS q2
                    go_wp2_with (first
                      | (at_builtin; refine wpList_append_own _ rfl (.tmp 71) (.tmp 72) 32 rfl wr.heap.size 3 i0 (.int .i64 0) 1 8 Try.underlying32 HI.out HZ0.out HZ1.out HZ2.out rfl (by decide) _ _ _ rfl HO1.out ⟨g, 0, none⟩ _ _ (intsV L) rfl (by rw [intsV_len, Nat.mul_one, HLn.out]) HCL.out (intsV_one _) (by show 1 + len0 ≤ maxLen; unfold maxLen; omega) (by show (1 + len0) * 8 ≤ 140737488355328; omega) (by simp) ?_; intro u2 w2 hown hg _; have HO2 := Lib.hid (HAA.out _ _ hown); have HK2 := Lib.hid (kp_grown_ownI (kp_alloc (kp_refl wr) _) hg HO1.out); have hsz2 : wr.heap.size ≤ w2.heap.size := Below.size HK2.out; clear hown hg)
                      | (at_builtin; refine wpList_append_own _ rfl (.tmp 73) (.tmp 76) 32 rfl wr.heap.size 3 i0 (.int .i64 0) 1 8 Try.underlying32 HI.out HZ0.out HZ1.out HZ2.out rfl (by decide) _ _ _ rfl (HO2.out.kp (kp_alloc (kp_refl _) _)) ⟨w2.heap.size, 0, none⟩ 1 _ (intsV [-x2]) rfl rfl (cell_one_new _ _ _) (intsV_one _) (by have h := HLn.out; simp only [List.length_append, List.length_singleton]; unfold maxLen; omega) (by have h := HLn.out; simp only [List.length_append, List.length_singleton]; omega) (by simp; omega) ?_; intro u3 w3 hown hg _; have ho3 := OwnI.append (l := [x2] ++ L) (m := [-x2]) hown; have HO3 := Lib.hid ho3; have HK3 := Lib.hid (kp_grown_ownI (kp_alloc HK2.out _) hg (HO2.out.kp (kp_alloc (kp_refl _) _))); clear hown hg ho3))
                    go_meet
                    exact ⟨_, HO3.out.rd (by have h := HLn.out; simp only [List.length_append, List.length_singleton]; omega) HM2.out, HM3.out, HK3.out⟩
                · have tm : decide (-9223372036854775808 < x2) = false := decide_eq_false hm
                  have HRD := Lib.hid (HW.out.rd (by omega) HLi.out)
                  go_wp2_with fail
                  go_meet
                  exact ⟨L, HRD.out, HLs.out, kp_refl _⟩
              case rest =>
                obtain ⟨M, hM, hMs, hkx⟩ := hcut
                have s1 := fun (w : World) (h : RdI w (.slice a0 len0 cap0) l) => sum_any _ l w h
                rw [HT.out] at s1
                have s2 := fun s (w : World) (h : RdI w s M) => sum_any s M w h
                rw [hMs] at s2
                have HR0 := Lib.hid (HR.out.kp (kp_trans (kp_trans HK1.out HK.out) hkx))
                have HRM := Lib.hid hM
                have HKX := Lib.hid (kp_trans (kp_trans HK1.out HK.out) hkx)
                rcases sumI_cases T with hs | hs
                all_goals
                  rw [hs] at s1 s2
                  have S1 := Lib.hid s1
                  have S2 := Lib.hid s2
                  clear s1 s2 hs hM hMs hkx
                  go_wp2_with (first
                    | (go_at_call 19; with_reducible refine (S1.out _ HR0.out).mono ?_; rintro e w' ⟨rfl, rfl⟩)
                    | (go_at_call 19; refine (S2.out _ _ HRM.out).mono ?_; rintro e w' ⟨rfl, rfl⟩))
                  go_ret
                  exact ⟨by simp, HKX.out⟩
    · have g2 : 200 < len1 := by omega
      have HR := Lib.hid R0
      have HR1 := Lib.hid R1
      clear R0 R1 h2
      go_enter Try.func6, Try.ntmps6
      go_wp2_with (go_at_call 14; refine (awake01_any _).mono ?_; rintro e w1 ⟨rfl, hk⟩)
      go_ret
      exact ⟨rfl, hk⟩
  · have g1 : 200 < len0 := by omega
    clear R0 R1 h2
    go_enter Try.func6, Try.ntmps6
    go_wp2_with (go_at_call 14; refine (awake01_any _).mono ?_; rintro e w2 ⟨rfl, hk⟩)
    go_ret
    exact ⟨rfl, hk⟩
end Go.Proofs.Ytcadaejpegdpeaa
