/- Contracts of numbers in digits: size. -/
import Derived.Test.YtcmijedhjebpkaaN3
namespace Go.Proofs.Ytcmijedhjebpkaa
open Go.RowKit Go.Proofs.Num

theorem d12_get (X : Int) (j : Nat) (h : j < (d12 X).length) : (d12 X)[j] = dg X j := by simp [d12]
theorem cmp_sh_lt {X Y : Int} {j : Nat} (h : sh X (j + 1) = sh Y (j + 1)) (hd : dg X j < dg Y j) : -1 = cmpI X Y := (cmpI_lt (lt_of_dg h hd)).symm
theorem cmp_sh_gt {X Y : Int} {j : Nat} (h : sh X (j + 1) = sh Y (j + 1)) (hd : dg Y j < dg X j) : 1 = cmpI X Y := (cmpI_gt (lt_of_dg h.symm hd)).symm
set_option maxHeartbeats 8000000 in
set_option maxRecDepth 100000 in
theorem size_num (p q : Bool) (X Y : Int) (hx : sh X 12 = 0) (hy : sh Y 12 = 0) (w : World) : Calls Try.prog 62 #[.agg (numC p (d12 X)), .agg (numC q (d12 Y))] w fun e w' => e = .returned (.int .i64 (cmpI X Y)) ∧ Kp w w' := by
  have H0 := Lib.hid (hx.trans hy.symm)
  clear hx hy
  go_enter Try.func62, Try.ntmps62
  go_upto_region 1 with fail
  obtain ⟨W, hW⟩ : ∃ W, (w.alloc (.cells (numC p (d12 X)) 69)).alloc (.cells (numC q (d12 Y)) 69) = W := ⟨_, rfl⟩
  have hn : NumB W w.heap.size p (d12 X) := by rw [← hW]; exact (NumB.new w _ _ (d12_length _)).a _
  have hr : NumB W (w.heap.size + 1) q (d12 Y) := by
    rw [← hW]
    have h := NumB.new (w.alloc (.cells (numC p (d12 X)) 69)) q (d12 Y) (d12_length _)
    rwa [World.size_alloc] at h
  have hk : Kp w W := by rw [← hW]; exact kp_alloc (kp_alloc (kp_refl _) _) _
  rw [hW]; clear hW
  have hN := Lib.hid hn
  have hR := Lib.hid hr
  have hK := Lib.hid hk
  clear hn hr hk
  go_wp2_with fail
  go_loopw [5] (fun i wr => ∃ k : Nat, k ≤ 12 ∧ i = .int .i64 ((k : Int) - 1) ∧ sh X k = sh Y k ∧ NumB wr w.heap.size p (d12 X) ∧ NumB wr (w.heap.size + 1) q (d12 Y) ∧ Kp w wr) (fun i _ => (intOf i + 1).toNat)
  case atStart => exact ⟨12, by omega, rfl, H0.out, hN.out, hR.out, hK.out⟩
  case round =>
    obtain ⟨k, hk, rfl, hs, hn, hr, hkp⟩ := hrel
    clear hN hR hK H0
    cases k with
    | zero =>
      have hs' : X = Y := hs
      have he := Lib.hid (cmpI_eq hs')
      clear hs hs'
      have hK := Lib.hid hkp
      clear hn hr hkp
      go_wp2
      go_ret
      exact ⟨ret_int he.out.symm, hK.out⟩
    | succ j =>
      have e : ((j + 1 : Nat) : Int) - 1 = (j : Int) := by omega
      rw [e]
      have b1 : 0 ≤ (j : Int) := by omega
      have b2 : (j : Int) < 12 := by omega
      have x0 := hn.cell j (by rw [d12_length]; omega)
      have x1 := hr.cell j (by rw [d12_length]; omega)
      rw [d12_get] at x0 x1
      have hN := Lib.hid hn
      have hR := Lib.hid hr
      have hK := Lib.hid hkp
      clear hn hr hkp e
      rcases Int.lt_trichotomy (dg X j) (dg Y j) with h | h | h
      · have he := Lib.hid (cmp_sh_lt hs h)
        clear hs
        generalize dg X j = a at *
        generalize dg Y j = b at *
        have n1 : (a == b) = false := by simp; omega
        have n2 : (a != b) = true := by simp; omega
        go_wp2_with fail
        go_quiet (fail)
        go_wp2_with fail
        go_quiet (fail)
        go_wp2_with fail
        go_ret
        exact ⟨ret_int he.out, kp_drewN (kp_drewN hK.out _) _⟩
      · have he := Lib.hid (eq_of_dg hs h)
        clear hs
        generalize dg X j = a at *
        generalize dg Y j = b at *
        subst h
        go_wp2_with fail
        go_quiet (fail)
        go_wp2_with fail
        exact ⟨⟨j, by omega, by go_num, he.out, hN.out, hR.out, kp_drewN hK.out _⟩, by simp [intOf]⟩
      · have he := Lib.hid (cmp_sh_gt hs h)
        clear hs
        generalize dg X j = a at *
        generalize dg Y j = b at *
        have n1 : (a == b) = false := by simp; omega
        have n2 : (a != b) = true := by simp; omega
        go_wp2_with fail
        go_quiet (fail)
        go_wp2_with fail
        go_quiet (fail)
        go_wp2_with fail
        go_ret
        exact ⟨ret_int he.out, kp_drewN (kp_drewN hK.out _) _⟩
end Go.Proofs.Ytcmijedhjebpkaa
