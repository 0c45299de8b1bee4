/- The walk of WideSums. -/
import Derived.Test.YtcadaejpegdpeaaRS
import Derived.Test.YtcadaejpegdpeaaOI
import Derived.Test.YtcadaejpegdpeaaWA
import Derived.Deep.DeepCutAuto
import Derived.Deep.QuietTactic
import Derived.BigQuiet
namespace Go.Proofs.Ytcadaejpegdpeaa
open Go.RowKit Go.Proofs.Num Go.Proofs.Geo
set_option linter.unusedVariables false
set_option maxHeartbeats 8000000 in
set_option maxRecDepth 100000 in
theorem wideSums_walk (w : World) (a0 : Option Addr) (len0 cap0 : Nat) (hA0 : ∃ l : List Int, len0 = l.length ∧ RdI w (.slice a0 len0 cap0) l) : Calls Try.prog 7 #[.slice a0 len0 cap0] w fun e w' => e = .returned (.bool true) ∧ Kp w w' := by
  obtain ⟨l, e0, R0⟩ := hA0
  have HE := Lib.hid e0; clear e0
  by_cases g0 : len0 ≤ 1000
  · obtain ⟨i0, hi, hz0, hz1, hz2⟩ := info_parts infoInt8
    have HI := Lib.hid hi; have HZ0 := Lib.hid hz0; have HZ1 := Lib.hid hz1; have HZ2 := Lib.hid hz2; clear hi hz0 hz1 hz2
    have HG := Lib.hid g0
    have HR := Lib.hid R0
    have HI64 := Lib.hid R0.2.1
    clear R0
    obtain ⟨r1, hr1⟩ : ∃ r, (sumI l.sum).1 = r := ⟨_, rfl⟩
    obtain ⟨r2, hr2⟩ : ∃ r, (sumI l.sum).2 = r := ⟨_, rfl⟩
    have s1 := fun v (w : World) (h : RdI w v l) => sum_any v l w h
    have s2 := fun v (w : World) (h : RdI w v l) => rsum_any v l w h
    rw [hr1, hr2] at s1 s2
    have S1 := Lib.hid s1
    have S2 := Lib.hid s2
    have n1 : (r1 == r1) = true := by simp
    have n2 : (r2 == r2) = true := by simp
    clear s1 s2 hr1 hr2
    have R0 : RdI w (.slice a0 len0 cap0) l := HR.out
    go_enter Try.func7, Try.ntmps7
    go_upto_region 3 with fail
    go_cut [3] (fun s wx => RdI wx s l ∧ Kp w wx)
    case first =>
      have HO0 : Hid (OwnI (w.alloc (.cells #[] 3)) w.heap.size (.slice (some ⟨w.heap.size, 0, none⟩) 0 0) []) := Lib.hid (OwnI.lit w [] #[] rfl (by simp))
      obtain ⟨hl0, hl1, ⟨hv, hn⟩ | ⟨ad, cp, hv, hc⟩⟩ := R0
      · injection hv with q1 q2 q3; subst q1 q2 q3 hn
        go_wp2_with (at_builtin; refine wpList_append_own_none rfl (.tmp 17) (.tmp 18) 32 rfl w.heap.size 3 i0 1 Try.underlying32 HI.out _ _ _ rfl HO0.out rfl ?_)
        go_meet
        exact ⟨HO0.out.rd (by simp) (by simp), kp_alloc (kp_refl _) _⟩
      · injection hv with q1 q2 q3; subst q1 q3; clear q2
        have HC := Lib.hid hc; clear hc
        go_wp2_with (at_builtin; refine wpList_append_own _ rfl (.tmp 17) (.tmp 18) 32 rfl w.heap.size 3 i0 (.int .i64 0) 1 8 Try.underlying32 HI.out HZ0.out HZ1.out HZ2.out rfl (by decide) _ _ _ rfl HO0.out ad _ _ (intsV l) rfl (by rw [intsV_len, Nat.mul_one, ← HE.out]) (cells_kpI HC.out (kp_alloc (kp_refl _) _)) (intsV_one _) (by have := HE.out; have := HG.out; unfold maxLen; (try simp) <;> omega) (by have := HE.out; have := HG.out; (try simp) <;> omega) (Below.size (kp_alloc (kp_refl w) _)) ?_; intro u2 w2 hown hg _)
        have hr : RdI w2 u2 l := by have h := (OwnI.append (l := []) (m := l) (by have h := hown; rw [HE.out] at h; exact h)).rd (by have := HE.out; have := HG.out; simp only [List.nil_append]; omega) (by rw [List.nil_append]; exact hl1); rwa [List.nil_append] at h
        have k2 : Kp w w2 := kp_grown_ownI (kp_alloc (kp_refl w) _) hg HO0.out
        clear hown hg
        go_meet
        exact ⟨hr, k2⟩
    case rest =>
      obtain ⟨hin, KC⟩ := hcut
      have HIN := Lib.hid hin; clear hin
      have HR0 := Lib.hid R0
      have HKC := Lib.hid KC
      clear R0 KC
      go_wp2_with (first
        | (go_at_call 19; refine (S1.out _ _ HIN.out).mono ?_; rintro e w' ⟨rfl, rfl⟩)
        | (go_at_call 20; refine (S2.out _ _ (HR0.out.kp HKC.out)).mono ?_; rintro e w2 ⟨rfl, hk⟩; have HK2 := Lib.hid hk; clear hk))
      obtain ⟨u3, rfl⟩ : ∃ u, u = u3 := ⟨_, rfl⟩
      obtain ⟨a3, cap3, hu3, hs3⟩ := (HIN.out.kp HK2.out).shape
      obtain ⟨a1, cap1, ha1, hs1⟩ := (HR0.out.kp (kp_trans HKC.out HK2.out)).shape
      injection ha1 with q1 q2 q3
      subst hu3 q1 q3
      clear q2
      have he := HE.out
      rw [← he]
      have K2 := Lib.hid (kp_trans HKC.out HK2.out)
      have H3 := Lib.hid hs3
      have H1 := Lib.hid hs1
      have hlen : len0 ≤ 1000 := HG.out
      clear hs3 hs1 he HIN HR0 HKC HK2 S1 S2 HR
      go_loopw [8] (fun i wr => ∃ k : Nat, k ≤ len0 ∧ i = .int .i64 k ∧ Kp w2 wr) (fun i _ => len0 - (intOf i).toNat)
      case atStart => exact ⟨0, by omega, rfl, kp_refl _⟩
      case round =>
        obtain ⟨k, hk, rfl, hkp⟩ := hrel
        by_cases hlt : k < len0
        · have hlt' : k < l.length := by rw [← HE.out]; exact hlt
          have hne : l ≠ [] := by rintro rfl; simp at hlt'
          obtain ⟨b3, o3, rfl, p3⟩ := H3.out.resolve_left hne
          obtain ⟨b1, o1, rfl, p1⟩ := H1.out.resolve_left hne
          have y3 := (p3.kp hkp) k hlt'
          have y1 := (p1.kp hkp) k hlt'
          generalize l[k]'hlt' = x at *
          have n3 : (x != x) = false := by simp
          have c1 : 0 ≤ (k : Int) := by omega
          have c2 : (k : Int) < (len0 : Int) := by omega
          have HKW := Lib.hid hkp
          clear hkp p3 p1 hne hlt'
          go_wp2_with fail
          go_quiet (fail)
          go_wp2_with fail
          exact ⟨⟨k + 1, by omega, by go_num, kp_drewN HKW.out _⟩, by simp [intOf]; omega⟩
        · obtain rfl : k = len0 := by omega
          by_cases h2 : 2 ≤ k
          · have hl2 : 2 ≤ l.length := by rw [← HE.out]; exact h2
            have hne : l ≠ [] := by rintro rfl; simp at hl2
            obtain ⟨b1, o1, rfl, p1⟩ := H1.out.resolve_left hne
            have y0 : wr.cell? ⟨b1, o1, none⟩ = some (.int .i64 (l[0]'(by omega))) := (p1.kp hkp) 0 (by omega)
            have y1 : wr.cell? ⟨b1, o1 + 1, none⟩ = some (.int .i64 (l[1]'(by omega))) := (p1.kp hkp) 1 (by omega)
            have hx := HI64.out _ (List.getElem_mem (show 0 < l.length by omega))
            have hy := HI64.out _ (List.getElem_mem (show 1 < l.length by omega))
            generalize l[0]'(by omega) = x at *
            generalize l[1]'(by omega) = y at *
            have m1 := fun w => wadd_any x y hx hy w
            have m2 := fun w => radd_any x y hx hy w
            obtain ⟨t1, ht1⟩ : ∃ r, (sumI (x + y)).1 = r := ⟨_, rfl⟩
            obtain ⟨t2, ht2⟩ : ∃ r, (sumI (x + y)).2 = r := ⟨_, rfl⟩
            rw [ht1, ht2] at m1 m2
            have M1 := Lib.hid m1
            have M2 := Lib.hid m2
            have n3 : (t1 != t1) = false := by simp
            have n4 : (t2 != t2) = false := by simp
            have KP := Lib.hid hkp
            have K : Kp wr wr := kp_refl _
            have c2 : (2 : Int) ≤ (k : Int) := by omega
            have c3 : (1 : Int) < (k : Int) := by omega
            have c5 : 0 < k := by omega
            have c6 : 1 < k := by omega
            have c4 : (0 : Int) < (k : Int) := by omega
            clear m1 m2 ht1 ht2 hkp p1 hne hl2 hx hy
            go_upto_region 12 with fail
            go_region_held3 (fun w' => Kp wr w' ∧ w'.cell? ⟨b1, o1, none⟩ = some (.int .i64 x) ∧ w'.cell? ⟨b1, o1 + 1, none⟩ = some (.int .i64 y)) ((first | exact ⟨K, y0, y1⟩ | exact ⟨kp_drew K, cell_d y0, cell_d y1⟩))
              ((go_at_call 21; refine (M1.out _).mono ?_; rintro e w5 ⟨rfl, hk⟩; replace y0 : w5.cell? ⟨b1, o1, none⟩ = some (.int .i64 x) := kp_cell hk (by first | exact y0 | exact cell_d y0); replace y1 : w5.cell? ⟨b1, o1 + 1, none⟩ = some (.int .i64 y) := kp_cell hk (by first | exact y1 | exact cell_d y1); replace K : Kp wr w5 := kp_trans (by first | exact K | exact kp_drew K) hk; clear hk))
            go_upto_region 13 with fail
            go_region_held3 (fun w' => Kp wr w' ∧ w'.cell? ⟨b1, o1, none⟩ = some (.int .i64 x) ∧ w'.cell? ⟨b1, o1 + 1, none⟩ = some (.int .i64 y)) ((first | exact ⟨K, y0, y1⟩ | exact ⟨kp_drew K, cell_d y0, cell_d y1⟩))
              ((go_at_call 22; refine (M2.out _).mono ?_; rintro e w6 ⟨rfl, hk⟩; replace y0 : w6.cell? ⟨b1, o1, none⟩ = some (.int .i64 x) := kp_cell hk (by first | exact y0 | exact cell_d y0); replace y1 : w6.cell? ⟨b1, o1 + 1, none⟩ = some (.int .i64 y) := kp_cell hk (by first | exact y1 | exact cell_d y1); replace K : Kp wr w6 := kp_trans (by first | exact K | exact kp_drew K) hk; clear hk))
            go_wp2_with (go_at_call 14; refine (awake01_any _).mono ?_; rintro e w7 ⟨rfl, hk⟩; replace K : Kp wr w7 := kp_trans (by first | exact K | exact kp_drew K) hk; clear hk)
            go_ret
            exact ⟨rfl, kp_trans (kp_trans K2.out KP.out) K⟩
          · have c2 : decide ((2 : Int) ≤ (k : Int)) = false := decide_eq_false (by omega)
            have c3 : decide (2 ≤ k) = false := decide_eq_false h2
            have KP := Lib.hid hkp
            clear hkp h2
            go_wp2_with (go_at_call 14; refine (awake01_any _).mono ?_; rintro e w7 ⟨rfl, hk⟩)
            go_ret
            exact ⟨rfl, kp_trans (kp_trans K2.out KP.out) hk⟩
  · have g1 : 1000 < len0 := by omega
    go_enter Try.func7, Try.ntmps7
    go_wp2_with (go_at_call 14; refine (awake01_any _).mono ?_; rintro e w2 ⟨rfl, hk⟩)
    go_ret
    exact ⟨rfl, hk⟩
end Go.Proofs.Ytcadaejpegdpeaa
