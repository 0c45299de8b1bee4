/- Contract of the reference's Check. -/
import Derived.Test.YtcpbemoiodbliaaRG5
import Derived.Test.YtcpbemoiodbliaaRG6
import Derived.Test.YtcpbemoiodbliaaRG7
import Derived.Test.YtcpbemoiodbliaaRG10
namespace Go.Proofs.Ytcpbemoiodbliaa
open Go.RowKit Go.Proofs.Geo
set_option linter.unusedVariables false
set_option maxHeartbeats 8000000 in
set_option maxRecDepth 100000 in
theorem check9_out (a : Option Addr) (len cap : Nat) (l : List Pt) (w : World) (hlen : len = l.length) (hl : len ≤ 100000) (ho : len < 3 ∨ 200 < len) : Calls Try.prog 13 #[.slice a len cap] w fun e w' => e = .returned (.agg #[.int .i64 (chk l).1, .int .i64 (chk l).2]) ∧ Kp w w' := by
  by_cases h : 200 < len
  · have HV := Lib.hid (chk_long (l := l) (by omega))
    clear hlen ho
    go_enter Try.func13, Try.ntmps13
    go_wp2_with fail
    refine bodyPost_ret (v := (.agg #[.int .i64 3, .int .i64 0])) (by simp [results, Try.results13, go_sem, *]) rfl ⟨by rw [HV.out], ?_⟩
    ((repeat (first | exact (kp_refl _) | exact kp_refl _ | apply kp_alloc | apply kp_drew | apply kp_drewN | refine kp_set ?_ ?_ _)); all_goals (first | exact Nat.le_refl _ | (simp; done) | omega))
  · have HV := Lib.hid (chk_few (l := l) (by omega))
    have h' : len < 3 := by omega
    clear hlen ho
    go_enter Try.func13, Try.ntmps13
    go_wp2_with fail
    refine bodyPost_ret (v := (.agg #[.int .i64 190, .int .i64 0])) (by simp [results, Try.results13, go_sem, *]) rfl ⟨by rw [HV.out], ?_⟩
    ((repeat (first | exact (kp_refl _) | exact kp_refl _ | apply kp_alloc | apply kp_drew | apply kp_drewN | refine kp_set ?_ ?_ _)); all_goals (first | exact Nat.le_refl _ | (simp; done) | omega))
set_option maxHeartbeats 8000000 in
set_option maxRecDepth 100000 in
theorem check9_in (b off len cap : Nat) (l : List Pt) (w : World) (hp : PtsAt w b off l) (hlen : len = l.length) (h3 : 3 ≤ len) (h200 : len ≤ 200) : Calls Try.prog 13 #[.slice (some ⟨b, off, none⟩) len cap] w fun e w' => e = .returned (.agg #[.int .i64 (chk l).1, .int .i64 (chk l).2]) ∧ Kp w w' := by
  have h3' : 3 ≤ l.length := by omega
  have h200' : l.length ≤ 200 := by omega
  have HP := Lib.hid hp
  have HL := Lib.hid hlen
  have HS0 : Hid (FltB w (w.alloc (.cells #[.int .i64 0, .int .i64 0] 28))) := Lib.hid (FltB.new (kp_refl _))
  clear hp hlen
  go_enter Try.func13, Try.ntmps13
  go_wp2_with fail
  go_loopw [3] (fun s wr => ∃ k : Nat, k ≤ len ∧ s = .int .i64 k ∧ FltB w wr ∧ ∀ j, j < k → ((fun i => !okP (pt l i)) j) = false) (fun s _ => len - (intOf s).toNat)
  case atStart => exact ⟨0, by omega, rfl, HS0.out, fun j h => by omega⟩
  case round =>
    obtain ⟨k, hk, rfl, hs, hall⟩ := hrel
    have HS := Lib.hid hs; have HA := Lib.hid hall
    by_cases hlt : k < len
    · have hkl : k < l.length := by rw [← HL.out]; exact hlt
      obtain ⟨y0, y1⟩ := pt_lt (HP.out.kp hs.k) hkl
      obtain ⟨x, hx⟩ : ∃ x, (pt l k).1 = x := ⟨_, rfl⟩
      obtain ⟨y, hy⟩ : ∃ x, (pt l k).2 = x := ⟨_, rfl⟩
      have hpk : pt l k = (x, y) := by rw [← hx, ← hy]
      rw [hx] at y0; rw [hy] at y1
      have lb : b < wr.heap.size := cell_lt y0
      have hcon := fun w => rvalid_any x y w
      have hval : (!okP (pt l k)) = !okP (x, y) := by rw [hpk]
      cases hb : okP (x, y)
      · rw [hb] at hcon
        have HCN := Lib.hid hcon
        have HPV := Lib.hid (show ((fun i => !okP (pt l i)) k) = true by show (!okP (pt l k)) = true; rw [hval, hb]; rfl)
        have HV := Lib.hid (chk_vd h3' h200' (firstN_some hkl HPV.out HA.out))
        clear hx hy hpk hval hb hcon hs hall
        go_wp2_with (go_at_call 38; refine (HCN.out _).mono ?_; rintro e w2 ⟨rfl, hk2⟩; have HB := Lib.hid (HS.out.kp hk2); have z0 := HB.out.z0; have z1 := HB.out.z1; have f0 := HB.out.f0; have f1 := HB.out.f1; have lz := HB.out.lt; clear hk2)
        refine bodyPost_ret (v := (.agg #[.int .i64 2, .int .i64 (k : Int)])) (by simp [results, Try.results13, go_sem, *]) rfl ⟨by rw [HV.out], ?_⟩
        ((repeat (first | exact HB.out.k | exact kp_refl _ | apply kp_alloc | apply kp_drew | apply kp_drewN | refine kp_set ?_ ?_ _)); all_goals (first | exact Nat.le_refl _ | (simp; done) | omega))
      · rw [hb] at hcon
        have HCN := Lib.hid hcon
        have HPV := Lib.hid (show ((fun i => !okP (pt l i)) k) = false by show (!okP (pt l k)) = false; rw [hval, hb]; rfl)
        clear hx hy hpk hval hb hcon hs hall
        go_wp2_with (go_at_call 38; refine (HCN.out _).mono ?_; rintro e w2 ⟨rfl, hk2⟩; have HB := Lib.hid (HS.out.kp hk2); have z0 := HB.out.z0; have z1 := HB.out.z1; have f0 := HB.out.f0; have f1 := HB.out.f1; have lz := HB.out.lt; clear hk2)
        refine ⟨⟨k + 1, by omega, by go_num, HB.out, fun j hj => ?_⟩, by simp [intOf]; omega⟩
        by_cases e : j = k
        · subst e; exact HPV.out
        · exact HA.out j (by omega)
    · obtain rfl : len = k := by omega
      have N0 := Lib.hid (show ∀ j, j < l.length → ((fun i => !okP (pt l i)) j) = false from fun j hj => HA.out j (by rw [HL.out]; exact hj))
      have HS1 := HS
      have lz := hs.lt
      clear hs hall HA HS
      go_wp2_with fail
      go_loopw [4] (fun s wr => ∃ k : Nat, k ≤ len ∧ s = .int .i64 k ∧ FltB w wr ∧ ∀ j, j < k → ((twiceB l) j) = false) (fun s _ => len - (intOf s).toNat)
      case atStart => exact ⟨0, by omega, rfl, HS1.out, fun j h => by omega⟩
      case round =>
        obtain ⟨k, hk, rfl, hs, hall⟩ := hrel
        have HS := Lib.hid hs; have HA := Lib.hid hall
        by_cases hlt : k < len
        · have hkl : k < l.length := by rw [← HL.out]; exact hlt
          have hcon := fun w hp => twice_any b off len cap l k w hp HL.out hlt (by omega)
          cases hb : ((twiceB l) k)
          · rw [hb] at hcon
            have HCN := Lib.hid hcon
            have HPV := Lib.hid (show ((twiceB l) k) = false by exact hb)
            clear hb hcon hs hall
            go_wp2_with (go_at_call 39; refine (HCN.out _ (HP.out.kp HS.out.k)).mono ?_; rintro e w2 ⟨rfl, hk2⟩; have HB := Lib.hid (HS.out.kp hk2); have z0 := HB.out.z0; have z1 := HB.out.z1; have f0 := HB.out.f0; have f1 := HB.out.f1; have lz := HB.out.lt; clear hk2)
            refine ⟨⟨k + 1, by omega, by go_num, HB.out, fun j hj => ?_⟩, by simp [intOf]; omega⟩
            by_cases e : j = k
            · subst e; exact HPV.out
            · exact HA.out j (by omega)
          · rw [hb] at hcon
            have HCN := Lib.hid hcon
            have HPV := Lib.hid (show ((twiceB l) k) = true by exact hb)
            have HV := Lib.hid (chk_tw h3' h200' N0.out (firstN_some hkl HPV.out HA.out))
            clear hb hcon hs hall
            go_wp2_with (go_at_call 39; refine (HCN.out _ (HP.out.kp HS.out.k)).mono ?_; rintro e w2 ⟨rfl, hk2⟩; have HB := Lib.hid (HS.out.kp hk2); have z0 := HB.out.z0; have z1 := HB.out.z1; have f0 := HB.out.f0; have f1 := HB.out.f1; have lz := HB.out.lt; clear hk2)
            refine bodyPost_ret (v := (.agg #[.int .i64 191, .int .i64 (k : Int)])) (by simp [results, Try.results13, go_sem, *]) rfl ⟨by rw [HV.out], ?_⟩
            ((repeat (first | exact HB.out.k | exact kp_refl _ | apply kp_alloc | apply kp_drew | apply kp_drewN | refine kp_set ?_ ?_ _)); all_goals (first | exact Nat.le_refl _ | (simp; done) | omega))
        · obtain rfl : len = k := by omega
          have N1 := Lib.hid (show ∀ j, j < l.length → ((twiceB l) j) = false from fun j hj => HA.out j (by rw [HL.out]; exact hj))
          have HS2 := HS
          have lz := hs.lt
          clear hs hall HA HS
          go_wp2_with fail
          go_loopw [5] (fun s wr => ∃ k : Nat, k ≤ len ∧ s = .int .i64 k ∧ FltB w wr ∧ ∀ j, j < k → ((backB l) j) = false) (fun s _ => len - (intOf s).toNat)
          case atStart => exact ⟨0, by omega, rfl, HS2.out, fun j h => by omega⟩
          case round =>
            obtain ⟨k, hk, rfl, hs, hall⟩ := hrel
            have HS := Lib.hid hs; have HA := Lib.hid hall
            by_cases hlt : k < len
            · have hkl : k < l.length := by rw [← HL.out]; exact hlt
              have hcon := fun w hp => back_any b off len cap l k w hp HL.out hlt (by omega)
              cases hb : ((backB l) k)
              · rw [hb] at hcon
                have HCN := Lib.hid hcon
                have HPV := Lib.hid (show ((backB l) k) = false by exact hb)
                clear hb hcon hs hall
                go_wp2_with (go_at_call 40; refine (HCN.out _ (HP.out.kp HS.out.k)).mono ?_; rintro e w2 ⟨rfl, hk2⟩; have HB := Lib.hid (HS.out.kp hk2); have z0 := HB.out.z0; have z1 := HB.out.z1; have f0 := HB.out.f0; have f1 := HB.out.f1; have lz := HB.out.lt; clear hk2)
                refine ⟨⟨k + 1, by omega, by go_num, HB.out, fun j hj => ?_⟩, by simp [intOf]; omega⟩
                by_cases e : j = k
                · subst e; exact HPV.out
                · exact HA.out j (by omega)
              · rw [hb] at hcon
                have HCN := Lib.hid hcon
                have HPV := Lib.hid (show ((backB l) k) = true by exact hb)
                have HV := Lib.hid (chk_bk h3' h200' N0.out N1.out (firstN_some hkl HPV.out HA.out))
                clear hb hcon hs hall
                go_wp2_with (go_at_call 40; refine (HCN.out _ (HP.out.kp HS.out.k)).mono ?_; rintro e w2 ⟨rfl, hk2⟩; have HB := Lib.hid (HS.out.kp hk2); have z0 := HB.out.z0; have z1 := HB.out.z1; have f0 := HB.out.f0; have f1 := HB.out.f1; have lz := HB.out.lt; clear hk2)
                refine bodyPost_ret (v := (.agg #[.int .i64 192, .int .i64 (k : Int)])) (by simp [results, Try.results13, go_sem, *]) rfl ⟨by rw [HV.out], ?_⟩
                ((repeat (first | exact HB.out.k | exact kp_refl _ | apply kp_alloc | apply kp_drew | apply kp_drewN | refine kp_set ?_ ?_ _)); all_goals (first | exact Nat.le_refl _ | (simp; done) | omega))
            · obtain rfl : len = k := by omega
              have N2 := Lib.hid (show ∀ j, j < l.length → ((backB l) j) = false from fun j hj => HA.out j (by rw [HL.out]; exact hj))
              have HS3 := HS
              have lz := hs.lt
              clear hs hall HA HS
              go_wp2_with fail
              go_loopw [6] (fun s wr => ∃ k : Nat, k ≤ len ∧ s = .int .i64 k ∧ FltB w wr ∧ ∀ j, j < k → ((meetB l) j) = false) (fun s _ => len - (intOf s).toNat)
              case atStart => exact ⟨0, by omega, rfl, HS3.out, fun j h => by omega⟩
              case round =>
                obtain ⟨k, hk, rfl, hs, hall⟩ := hrel
                have HS := Lib.hid hs; have HA := Lib.hid hall
                by_cases hlt : k < len
                · have hkl : k < l.length := by rw [← HL.out]; exact hlt
                  have hcon := fun w hp => meets9_any b off len cap l k w hp HL.out hlt (by omega)
                  cases hb : ((meetB l) k)
                  · rw [hb] at hcon
                    have HCN := Lib.hid hcon
                    have HPV := Lib.hid (show ((meetB l) k) = false by exact hb)
                    clear hb hcon hs hall
                    go_wp2_with (go_at_call 41; refine (HCN.out _ (HP.out.kp HS.out.k)).mono ?_; rintro e w2 ⟨rfl, hk2⟩; have HB := Lib.hid (HS.out.kp hk2); have z0 := HB.out.z0; have z1 := HB.out.z1; have f0 := HB.out.f0; have f1 := HB.out.f1; have lz := HB.out.lt; clear hk2)
                    refine ⟨⟨k + 1, by omega, by go_num, HB.out, fun j hj => ?_⟩, by simp [intOf]; omega⟩
                    by_cases e : j = k
                    · subst e; exact HPV.out
                    · exact HA.out j (by omega)
                  · rw [hb] at hcon
                    have HCN := Lib.hid hcon
                    have HPV := Lib.hid (show ((meetB l) k) = true by exact hb)
                    have HV := Lib.hid (chk_mt h3' h200' N0.out N1.out N2.out (firstN_some hkl HPV.out HA.out))
                    clear hb hcon hs hall
                    go_wp2_with (go_at_call 41; refine (HCN.out _ (HP.out.kp HS.out.k)).mono ?_; rintro e w2 ⟨rfl, hk2⟩; have HB := Lib.hid (HS.out.kp hk2); have z0 := HB.out.z0; have z1 := HB.out.z1; have f0 := HB.out.f0; have f1 := HB.out.f1; have lz := HB.out.lt; clear hk2)
                    refine bodyPost_ret (v := (.agg #[.int .i64 193, .int .i64 (k : Int)])) (by simp [results, Try.results13, go_sem, *]) rfl ⟨by rw [HV.out], ?_⟩
                    ((repeat (first | exact HB.out.k | exact kp_refl _ | apply kp_alloc | apply kp_drew | apply kp_drewN | refine kp_set ?_ ?_ _)); all_goals (first | exact Nat.le_refl _ | (simp; done) | omega))
                · obtain rfl : len = k := by omega
                  have N3 := Lib.hid (show ∀ j, j < l.length → ((meetB l) j) = false from fun j hj => HA.out j (by rw [HL.out]; exact hj))
                  have HV := Lib.hid (chk_ok h3' h200' N0.out N1.out N2.out N3.out)
                  have HB := HS
                  have z0 := HB.out.z0; have z1 := HB.out.z1; have f0 := HB.out.f0; have f1 := HB.out.f1; have lz := HB.out.lt
                  clear hs hall
                  go_wp2_with fail
                  refine bodyPost_ret (v := (.agg #[.int .i64 0, .int .i64 0])) (by simp [results, Try.results13, go_sem, *]) rfl ⟨by rw [HV.out], ?_⟩
                  ((repeat (first | exact HB.out.k | exact kp_refl _ | apply kp_alloc | apply kp_drew | apply kp_drewN | refine kp_set ?_ ?_ _)); all_goals (first | exact Nat.le_refl _ | (simp; done) | omega))
theorem check9_any (v : Value) (l : List Pt) (w : World) (h : RdC w v l) (hl : l.length ≤ 100000) : Calls Try.prog 13 #[v] w fun e w' => e = .returned (.agg #[.int .i64 (chk l).1, .int .i64 (chk l).2]) ∧ Kp w w' := by
  by_cases ho : l.length < 3 ∨ 200 < l.length
  · obtain ⟨_, ⟨rfl, hn⟩ | ⟨ad, cap, rfl, _⟩⟩ := h
    · exact check9_out none 0 0 l w (by rw [hn]; rfl) (by omega) (by omega)
    · exact check9_out (some ad) l.length cap l w rfl hl ho
  · obtain ⟨_, ⟨_, hn⟩ | ⟨b, off, cap, rfl, hp⟩⟩ := h.rd (by rintro rfl; simp at ho)
    · rw [hn] at ho; simp at ho
    · exact check9_in b off l.length cap l w hp rfl (by omega) (by omega)
theorem ringSign9_any (v : Value) (l : List Pt) (w : World) (h : RdC w v l) (hl : l.length ≤ 100000) : Calls Try.prog 24 #[v] w fun e w' => e = .returned (.int .i64 (signR l)) ∧ Kp w w' := ringSign9_of check9_any v l w h hl
end Go.Proofs.Ytcpbemoiodbliaa
