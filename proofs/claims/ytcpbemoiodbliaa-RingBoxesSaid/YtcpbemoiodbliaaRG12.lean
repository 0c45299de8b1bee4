/- Contracts of the reference's Turned and From. -/
import Derived.Test.YtcpbemoiodbliaaGR
import Derived.Test.YtcpbemoiodbliaaRG1
import Derived.Test.YtcpbemoiodbliaaMP
namespace Go.Proofs.Ytcpbemoiodbliaa
open Go.RowKit Go.Proofs.Geo
theorem rev_take {l : List Pt} {k j : Nat} (h : j + k + 1 = l.length) : l.reverse.take (k + 1) = l.reverse.take k ++ [pt l j] := by
  have hk : k < l.reverse.length := by simp; omega
  rw [List.take_succ_eq_append_getElem hk, List.getElem_reverse]
  have : l.length - 1 - k = j := by omega
  simp only [this]
  rw [pt_get (show j < l.length by omega)]
theorem map_succ (l : List Pt) (i : Int) (k : Nat) : (List.range (k + 1)).map (fun j : Nat => rat l (i + j)) = (List.range k).map (fun j : Nat => rat l (i + j)) ++ [rat l (i + k)] := by
  rw [List.range_succ, List.map_append]; rfl
set_option maxHeartbeats 8000000 in
set_option maxRecDepth 100000 in
theorem turned9_any (v : Value) (l : List Pt) (w : World) (h : RdC w v l) (hl : l.length ≤ 10000) : Calls Try.prog 26 #[v] w (OwnEnd w l.reverse) := by
  by_cases hne : l = []
  · subst hne
    obtain ⟨a, cap, rfl⟩ : ∃ a cap, v = .slice a 0 cap := by
      obtain ⟨_, ⟨rfl, _⟩ | ⟨ad, cap, rfl, _⟩⟩ := h
      · exact ⟨none, 0, rfl⟩
      · exact ⟨some ad, cap, rfl⟩
    clear h hl
    go_enter Try.func26, Try.ntmps26
    go_wp2
    go_loop [3, 4] (fun s i => s = .slice none 0 0 ∧ i = .int .i64 (-1)) (fun _ _ => 0)
    case atStart => exact ⟨rfl, rfl⟩
    case round =>
      obtain ⟨rfl, rfl⟩ := hrel
      go_wp2
      go_ret
      exact ⟨_, rfl, OwnP.nil _ _, kp_refl _⟩
  · obtain ⟨_, ⟨_, e⟩ | ⟨b, off, cap, hv, hp⟩⟩ := h.rd hne
    · exact absurd e hne
    obtain ⟨len, hlen⟩ : ∃ len, l.length = len := ⟨_, rfl⟩
    rw [hlen] at hv hl
    subst hv
    obtain ⟨i0, hi, hz0, hz1, hz2⟩ := info_parts infoPt
    have HI := Lib.hid hi; have HZ0 := Lib.hid hz0; have HZ1 := Lib.hid hz1; have HZ2 := Lib.hid hz2
    have HP := Lib.hid hp
    have HL := Lib.hid hlen
    clear hi hz0 hz1 hz2 hp hlen h hne
    go_enter Try.func26, Try.ntmps26
    go_wp2_with fail
    go_loopw [3, 4] (fun s i wr => ∃ k : Nat, k ≤ len ∧ i = .int .i64 ((len : Int) - 1 - k) ∧ OwnP wr w.heap.size s (l.reverse.take k) ∧ Kp w wr) (fun _ i _ => ((intOf i) + 1).toNat)
    case atStart => exact ⟨0, by omega, by simp, OwnP.nil _ _, kp_refl _⟩
    case round =>
      obtain ⟨k, hk, rfl, ho, hkp⟩ := hrel
      have HO := Lib.hid ho; have HK := Lib.hid hkp
      by_cases hlt : k < len
      · obtain ⟨j, hj⟩ : ∃ j, len - 1 - k = j := ⟨_, rfl⟩
        have hjl : j < l.length := by rw [HL.out]; omega
        obtain ⟨y0, y1⟩ := pt_lt (HP.out.kp hkp) hjl
        have hsn := rev_take (l := l) (k := k) (j := j) (by rw [HL.out]; omega)
        obtain ⟨x, hx⟩ : ∃ x, (pt l j).1 = x := ⟨_, rfl⟩
        obtain ⟨y, hy⟩ : ∃ x, (pt l j).2 = x := ⟨_, rfl⟩
        have hpk : pt l j = (x, y) := by rw [← hx, ← hy]
        rw [hx] at y0; rw [hy] at y1; rw [hpk] at hsn
        have HSN := Lib.hid hsn
        have ej : (len : Int) - 1 - (k : Int) = (j : Int) := by omega
        have HE := Lib.hid ej
        have HLN := Lib.hid (show (l.reverse.take k).length ≤ 10000 by simp; omega)
        have jl : j < len := by omega
        have d2 : (j : Int) < (len : Int) := by omega
        have d1 : (0 : Int) ≤ (j : Int) := by omega
        have lb : b < wr.heap.size := cell_lt y0
        rw [ej]
        clear ho hkp hj hsn hpk hx hy ej hjl
        go_wp2_with (at_builtin; refine wpList_append_own_at _ rfl _ _ 23 rfl w.heap.size 25 i0 (.agg #[.int .i64 0, .int .i64 0]) 2 16 Try.underlying23 HI.out HZ0.out HZ1.out HZ2.out rfl (by decide) _ _ _ rfl (HO.out.kp (kp_alloc (kp_refl _) _)) ⟨wr.heap.size, 0, none⟩ 1 1 [.int .i64 x, .int .i64 y] rfl rfl (cell_two_pt _ _ _ _) (by simp [Value.oneCell']) (by have := HLN.out; unfold maxLen; omega) (by have := HLN.out; omega) (Below.size (kp_alloc HK.out _)) ?_; intro v' w5 hown hgrow hnil hat; have HO3 := Lib.hid (OwnP.snoc hown); have HK3 := Lib.hid (kp_of_grown (kp_alloc HK.out _) hgrow (HO.out.kp (kp_alloc (kp_refl _) _))); clear hown hgrow hnil hat)
        exact ⟨⟨k + 1, by omega, by have := HE.out; go_num, by rw [HSN.out]; exact HO3.out, HK3.out⟩, by simp [intOf]⟩
      · obtain rfl : len = k := by omega
        have e : (len : Int) - 1 - (len : Int) = -1 := by omega
        rw [e]
        have HO2 : Hid (OwnP wr w.heap.size u3 l.reverse) := Lib.hid (by rw [List.take_of_length_le (by simp [HL.out])] at ho; exact ho)
        clear ho hkp e
        go_wp2_with fail
        go_ret
        exact ⟨_, rfl, HO2.out, HK.out⟩
set_option maxHeartbeats 8000000 in
set_option maxRecDepth 100000 in
theorem from9_any (v : Value) (l : List Pt) (i : Int) (w : World) (h : RdC w v l) (hl : l.length ≤ 10000) : Calls Try.prog 27 #[v, .int .i64 i] w (OwnEnd w (frm l i)) := by
  by_cases hne : l = []
  · subst hne
    obtain ⟨a, cap, rfl⟩ : ∃ a cap, v = .slice a 0 cap := by
      obtain ⟨_, ⟨rfl, _⟩ | ⟨ad, cap, rfl, _⟩⟩ := h
      · exact ⟨none, 0, rfl⟩
      · exact ⟨some ad, cap, rfl⟩
    clear h hl
    go_enter Try.func27, Try.ntmps27
    go_wp2
    go_loop [1, 5, 6] (fun _ s i => s = .slice none 0 0 ∧ i = .int .i64 0) (fun _ _ _ => 0)
    case atStart => exact ⟨rfl, rfl⟩
    case round =>
      obtain ⟨rfl, rfl⟩ := hrel
      go_wp2
      go_ret
      exact ⟨_, rfl, by rw [show frm [] i = [] by simp [frm]]; exact OwnP.nil _ _, kp_refl _⟩
  · obtain ⟨_, ⟨_, e⟩ | ⟨b, off, cap, hv, hp⟩⟩ := h.rd hne
    · exact absurd e hne
    obtain ⟨len, hlen⟩ : ∃ len, l.length = len := ⟨_, rfl⟩
    have hpos : 0 < len := by rw [← hlen]; exact List.length_pos_iff.2 hne
    rw [hlen] at hv hl
    subst hv
    obtain ⟨i0, hi, hz0, hz1, hz2⟩ := info_parts infoPt
    have HI := Lib.hid hi; have HZ0 := Lib.hid hz0; have HZ1 := Lib.hid hz1; have HZ2 := Lib.hid hz2
    have HP := Lib.hid hp
    have HL := Lib.hid hlen
    have HF : Hid (frm l i = (List.range len).map fun j : Nat => rat l (i + j)) := Lib.hid (by rw [frm_map, hlen])
    clear hi hz0 hz1 hz2 hp hlen h hne
    go_enter Try.func27, Try.ntmps27
    go_wp2_with fail
    go_loopw [1, 5, 6] (fun a s c wr => ∃ (k : Nat) (n : Int), k ≤ len ∧ c = .int .i64 k ∧ a = .int .i64 n ∧ n % (len : Int) = (i + k) % (len : Int) ∧ OwnP wr w.heap.size s ((List.range k).map fun j : Nat => rat l (i + j)) ∧ Kp w wr) (fun _ _ c _ => len - (intOf c).toNat)
    case atStart => exact ⟨0, _, by omega, rfl, rfl, by simp, OwnP.nil _ _, kp_refl _⟩
    case round =>
      obtain ⟨k, n, hk, rfl, rfl, hn, ho, hkp⟩ := hrel
      have HO := Lib.hid ho; have HK := Lib.hid hkp
      by_cases hlt : k < len
      · obtain ⟨r, hr⟩ : ∃ r, n.tmod (len : Int) = r := ⟨_, rfl⟩
        obtain ⟨j, hj⟩ : ∃ j, rix len (i + k) = j := ⟨_, rfl⟩
        have hr1 : -(len : Int) < r ∧ r < (len : Int) := by
          rw [← hr]
          exact ⟨Int.lt_tmod_of_pos n (show (0 : Int) < (len : Int) by omega), Int.tmod_lt_of_pos n (show (0 : Int) < (len : Int) by omega)⟩
        have jl : j < len := by rw [← hj]; exact rix_lt hpos _
        have hke := rix_eq hpos (i + k)
        rw [hj] at hke
        have hrk : (r + (len : Int)).tmod (len : Int) = (j : Int) := by
          rw [Int.tmod_eq_emod_of_nonneg (by omega), Int.add_emod_right, ← hr, hke, ← hn]
          rw [Int.tmod_def, Int.sub_emod, Int.mul_emod_right, Int.sub_zero, Int.emod_emod]
        have hjl : j < l.length := by rw [HL.out]; omega
        obtain ⟨y0, y1⟩ := pt_lt (HP.out.kp hkp) hjl
        have hsn := map_succ l i k
        have hpj : rat l (i + k) = pt l j := by unfold rat; rw [HL.out, hj]
        rw [hpj] at hsn
        obtain ⟨x, hx⟩ : ∃ x, (pt l j).1 = x := ⟨_, rfl⟩
        obtain ⟨y, hy⟩ : ∃ x, (pt l j).2 = x := ⟨_, rfl⟩
        have hpk : pt l j = (x, y) := by rw [← hx, ← hy]
        rw [hx] at y0; rw [hy] at y1; rw [hpk] at hsn
        have HSN := Lib.hid hsn
        have HJ := Lib.hid (show ((j : Int) + 1) % (len : Int) = (i + ((k + 1 : Nat) : Int)) % (len : Int) by
          rw [hke, Int.emod_add_emod]; congr 1; omega)
        have HLN := Lib.hid (show ((List.range k).map fun j : Nat => rat l (i + j)).length ≤ 10000 by simp; omega)
        have wk1 : IntKind.i64.wrap r = r := IntWalk.i64_in _ (by omega)
        have wk2 : IntKind.i64.wrap (r + (len : Int)) = r + (len : Int) := IntWalk.i64_in _ (by omega)
        have wk3 : IntKind.i64.wrap (j : Int) = (j : Int) := IntWalk.i64_in _ (by omega)
        have d2 : (j : Int) < (len : Int) := by omega
        have d1 : (0 : Int) ≤ (j : Int) := by omega
        have c7 : ¬ ((len : Int) = 0) := by omega
        have c8 : ¬ (len = 0) := by omega
        have lb : b < wr.heap.size := cell_lt y0
        have b3 : k ≤ 10000 := by omega
        have b4 : (k : Int) < (len : Int) := by omega
        clear ho hkp hj hsn hpk hx hy hjl hke hn hpj hpos
        go_wp2_with (at_builtin; refine wpList_append_own_at _ rfl _ _ 23 rfl w.heap.size 25 i0 (.agg #[.int .i64 0, .int .i64 0]) 2 16 Try.underlying23 HI.out HZ0.out HZ1.out HZ2.out rfl (by decide) _ _ _ rfl (HO.out.kp (kp_alloc (kp_refl _) _)) ⟨wr.heap.size, 0, none⟩ 1 1 [.int .i64 x, .int .i64 y] rfl rfl (cell_two_pt _ _ _ _) (by simp [Value.oneCell']) (by have := HLN.out; unfold maxLen; omega) (by have := HLN.out; omega) (Below.size (kp_alloc HK.out _)) ?_; intro v' w5 hown hgrow hnil hat; have HO3 := Lib.hid (OwnP.snoc hown); have HK3 := Lib.hid (kp_of_grown (kp_alloc HK.out _) hgrow (HO.out.kp (kp_alloc (kp_refl _) _))); clear hown hgrow hnil hat)
        refine ⟨⟨k + 1, _, by omega, by go_num, by go_num, HJ.out, by rw [HSN.out]; exact HO3.out, HK3.out⟩, by simp [intOf]; omega⟩
      · obtain rfl : len = k := by omega
        have HO2 : Hid (OwnP wr w.heap.size u5 (frm l i)) := Lib.hid (by rw [HF.out]; exact ho)
        clear ho hkp
        go_wp2_with fail
        go_ret
        exact ⟨_, rfl, HO2.out, HK.out⟩
end Go.Proofs.Ytcpbemoiodbliaa
