/- Slices of points that a call owns; the contracts of cross.on and cross.gather. -/
import Derived.Test.YtcelipgokpnmfaaC1
import Derived.Test.YtcelipgokpnmfaaO
import Derived.Maps.AppendAt
import Derived.Laws.OwnMore
namespace Go.Proofs.Ytcelipgokpnmfaa
open Go.RowKit Go.Proofs.Geo

theorem onL_take (a b : Pt) (l : List Pt) (k : Nat) (h : k < l.length) : onL a b (l.take (k + 1)) = if onS l[k] a b then onL a b (l.take k) ++ [l[k]] else onL a b (l.take k) := by
  unfold onL
  rw [List.take_succ_eq_append_getElem h, List.filter_append]
  cases hh : onS l[k] a b <;> simp [List.filter, hh]
theorem onL_len (a b : Pt) (l : List Pt) : (onL a b l).length ≤ l.length := List.length_filter_le _ _

set_option maxHeartbeats 4000000 in
set_option maxRecDepth 100000 in
theorem on_list (ax ay bx bY : Int) (b off cap : Nat) (l : List Pt) (w : World) (hl : l.length ≤ 1000000) (h : PtsAt w b off l) :
    Calls Try.prog 26 #[pv ax ay, pv bx bY, .slice (some ⟨b, off, none⟩) l.length cap] w (OwnEnd w (onL (ax, ay) (bx, bY) l)) := by
  obtain ⟨i0, hi, hz0, hz1, hz2⟩ := info_parts infoPt
  have HI := Lib.hid hi
  have HZ0 := Lib.hid hz0
  have HZ1 := Lib.hid hz1
  have HZ2 := Lib.hid hz2
  clear hi hz0 hz1 hz2
  go_enter Try.func26, Try.ntmps26
  go_wp2
  obtain ⟨W0, hW0⟩ : ∃ W0, (w.alloc (.cells #[.int .i64 ax, .int .i64 ay] 23)).alloc (.cells #[.int .i64 bx, .int .i64 bY] 23) = W0 := ⟨_, rfl⟩
  have c0 : W0.cell? ⟨w.heap.size, 0, none⟩ = some (.int .i64 ax) := by rw [← hW0]; simp [go_sem]
  have c1 : W0.cell? ⟨w.heap.size, 1, none⟩ = some (.int .i64 ay) := by rw [← hW0]; simp [go_sem]
  have c2 : W0.cell? ⟨w.heap.size + 1, 0, none⟩ = some (.int .i64 bx) := by rw [← hW0]; simp [go_sem]
  have c3 : W0.cell? ⟨w.heap.size + 1, 1, none⟩ = some (.int .i64 bY) := by rw [← hW0]; simp [go_sem]
  have K0 : Kp w W0 := by rw [← hW0]; exact kp_alloc (kp_alloc (kp_refl _) _) _
  rw [hW0]
  clear hW0
  have h' : PtsAt W0 b off l := h.kp K0
  go_loopw [7, 12] (fun v i wr => ∃ k : Nat, k ≤ l.length ∧ i = .int .i64 k ∧ OwnP wr W0.heap.size v (onL (ax, ay) (bx, bY) (l.take k)) ∧ Kp W0 wr) (fun _ i _ => l.length - (intOf i).toNat)
  case atStart => exact ⟨0, Nat.zero_le _, rfl, OwnP.nil _ _, kp_refl _⟩
  case round =>
    obtain ⟨k, hk, rfl, ho, hkp⟩ := hrel
    by_cases hlt : k < l.length
    · obtain ⟨x, y, hxy⟩ : ∃ x y, l[k] = (x, y) := ⟨_, _, rfl⟩
      have hc := (h'.kp hkp) k hlt
      rw [hxy] at hc
      obtain ⟨hc1, hc2⟩ := hc
      have d0 := kp_cell hkp c0
      have d1 := kp_cell hkp c1
      have d2 := kp_cell hkp c2
      have d3 := kp_cell hkp c3
      have l0 : w.heap.size < wr.heap.size := cell_lt d0
      have l1 : w.heap.size + 1 < wr.heap.size := cell_lt d2
      have hs := onL_take (ax, ay) (bx, bY) l k hlt
      rw [hxy] at hs
      have hn : (onL (ax, ay) (bx, bY) (l.take k)).length ≤ k := Nat.le_trans (onL_len _ _ _) (List.length_take_le _ _)
      have HS := Lib.hid hs
      have HO := Lib.hid ho
      have HK := Lib.hid hkp
      have HN := Lib.hid hn
      clear hxy hs ho hkp hn h h' c0 c1 c2 c3
      cases hv : onS (x, y) (ax, ay) (bx, bY)
      · have HV := Lib.hid hv
        go_wp2_with (go_at_call 16; refine (on_any _ _ _ _ _ _ _).mono ?_; rintro e w2 ⟨rfl, hk2⟩; have HK2 := Lib.hid hk2; clear hk2)
        go_roundw
        case rel => exact ⟨k + 1, by omega, by go_num, by rw [HS.out, HV.out]; exact (HO.out.kp (kp_alloc (kp_refl _) _)).kp HK2.out, kp_trans (kp_alloc HK.out _) HK2.out⟩
        case measure => simp [intOf]; omega
      · have HV := Lib.hid hv
        go_wp2_with (first
          | (go_at_call 16; refine (on_any _ _ _ _ _ _ _).mono ?_; rintro e w2 ⟨rfl, hk2⟩; have p0 : w2.cell? ⟨wr.heap.size, 0, none⟩ = some (.int .i64 x) := kp_cell hk2 (by simp [go_sem]); have p1 : w2.cell? ⟨wr.heap.size, 1, none⟩ = some (.int .i64 y) := kp_cell hk2 (by simp [go_sem]); have HK2 := Lib.hid hk2; clear hk2; have HO2 := Lib.hid ((HO.out.kp (kp_alloc (kp_refl _) _)).kp HK2.out); have HB := Lib.hid (kp_trans (kp_alloc HK.out _) HK2.out))
          | (at_builtin; refine wpList_append_own_at _ rfl _ _ 26 rfl W0.heap.size 23 i0 (.agg #[.int .i64 0, .int .i64 0]) 2 16 Try.underlying26 HI.out HZ0.out HZ1.out HZ2.out rfl (by decide) _ _ _ rfl (HO2.out.kp (kp_alloc (kp_refl _) _)) ⟨w2.heap.size, 0, none⟩ 1 1 [.int .i64 x, .int .i64 y] rfl rfl (cell_two_pt _ _ _ _) (by simp [Value.oneCell']) (by have := HN.out; unfold maxLen; omega) (by have := HN.out; omega) (Below.size (kp_alloc HB.out _)) ?_; intro v' w3 hown hgrow hnil hat; have HO3 := Lib.hid (OwnP.snoc hown); have HK3 := Lib.hid (kp_of_grown (kp_alloc HB.out _) hgrow (HO2.out.kp (kp_alloc (kp_refl _) _))); clear hown hgrow hnil hat))
        go_roundw
        case rel => exact ⟨k + 1, by omega, by go_num, by rw [HS.out, HV.out]; exact HO3.out, HK3.out⟩
        case measure => simp [intOf]; omega
    · have hke : k = l.length := by omega
      have HO := Lib.hid (show OwnP wr W0.heap.size _ (onL (ax, ay) (bx, bY) l) by rw [hke, List.take_length] at ho; exact ho)
      have HK := Lib.hid hkp
      clear ho hkp h h' hke c0 c1 c2 c3
      go_wp2
      go_ret
      exact ⟨_, rfl, HO.out.mono (Below.size K0), kp_trans K0 HK.out⟩
end Go.Proofs.Ytcelipgokpnmfaa
