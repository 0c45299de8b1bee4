/- Contracts of the reference: twice, and the least of each. -/
import Derived.Test.YtcpbemoiodbliaaRG1
import Derived.Test.YtcpbemoiodbliaaV0
import Derived.Deep.QuietTactic
import Derived.BigQuiet
namespace Go.Proofs.Ytcpbemoiodbliaa
open Go.RowKit Go.Proofs.Geo
set_option linter.unusedVariables false
set_option maxHeartbeats 8000000 in
set_option maxRecDepth 100000 in
theorem twice_any (b off len cap : Nat) (l : List Pt) (i : Nat) (w : World) (hp : PtsAt w b off l) (hlen : len = l.length) (hi : i < len) (hl : len ≤ 100000) : Calls Try.prog 39 #[.slice (some ⟨b, off, none⟩) len cap, .int .i64 (i : Int)] w fun e w' => e = .returned (.bool (twiceB l i)) ∧ Kp w w' := by
  have HP := Lib.hid hp
  have HL := Lib.hid hlen
  have hil : i < l.length := by omega
  obtain ⟨z, hz⟩ : ∃ x, (pt l i).1 = x := ⟨_, rfl⟩
  obtain ⟨u, hu⟩ : ∃ x, (pt l i).2 = x := ⟨_, rfl⟩
  have hqi : pt l i = (z, u) := by rw [← hz, ← hu]
  have HQ := Lib.hid hqi
  clear hp hlen hz hu hqi
  go_enter Try.func39, Try.ntmps39
  go_wp2_with fail
  go_loopw [5] (fun s wr => ∃ k : Nat, k ≤ i ∧ s = .int .i64 k ∧ Kp w wr ∧ ∀ j, j < k → decide (pt l j = pt l i) = false) (fun s _ => i - (intOf s).toNat)
  case atStart => exact ⟨0, by omega, rfl, kp_refl _, fun j h => by omega⟩
  case round =>
    obtain ⟨k, hk, rfl, hkp, hall⟩ := hrel
    have HA := Lib.hid hall
    have HK := Lib.hid hkp
    clear hall
    by_cases hlt : k < i
    · have hkl : k < l.length := by omega
      obtain ⟨y0, y1⟩ := pt_lt (HP.out.kp hkp) hkl
      obtain ⟨v0, v1⟩ := pt_lt (HP.out.kp hkp) hil
      rw [HQ.out] at v0 v1
      dsimp only at v0 v1
      obtain ⟨x, hx⟩ : ∃ x, (pt l k).1 = x := ⟨_, rfl⟩
      obtain ⟨y, hy⟩ : ∃ x, (pt l k).2 = x := ⟨_, rfl⟩
      have hpk : pt l k = (x, y) := by rw [← hx, ← hy]
      have HPK := Lib.hid hpk
      rw [hx] at y0; rw [hy] at y1
      have lb : b < wr.heap.size := cell_lt y0
      have c1 : (0 : Int) ≤ (k : Int) := by omega
      have c2 : (k : Int) < (len : Int) := by omega
      have c3 : (0 : Int) ≤ (i : Int) := by omega
      have c4 : (i : Int) < (len : Int) := by omega
      clear hx hy hpk hkp
      have hc : (x = z ∧ y = u) ∨ (x == z) = false ∨ (x = z ∧ (y == u) = false) := by
        by_cases h1 : x = z
        · by_cases h2 : y = u
          · exact .inl ⟨h1, h2⟩
          · exact .inr (.inr ⟨h1, by simpa using h2⟩)
        · exact .inr (.inl (by simpa using h1))
      rcases hc with ⟨rfl, rfl⟩ | h1 | ⟨rfl, h2⟩
      · have ht : twiceB l i = true := any_range_true hlt (decide_eq_true (by rw [HPK.out, HQ.out]))
        have HT := Lib.hid ht
        clear ht
        go_wp2_with fail
        go_quiet (fail)
        go_wp2_with fail
        go_ret
        exact ⟨by rw [HT.out]; rfl, kp_drewN HK.out _⟩
      · have hn : decide (pt l k = pt l i) = false := decide_eq_false (by rw [HPK.out, HQ.out]; intro e; injection e with e1 e2; simp [e1] at h1)
        have HN := Lib.hid hn
        clear hn
        go_wp2_with fail
        go_quiet (fail)
        go_wp2_with fail
        refine ⟨⟨k + 1, by omega, by go_num, kp_drewN HK.out _, fun j hj => ?_⟩, by simp [intOf]; omega⟩
        by_cases e : j = k
        · subst e; exact HN.out
        · exact HA.out j (by omega)
      · have hn : decide (pt l k = pt l i) = false := decide_eq_false (by rw [HPK.out, HQ.out]; intro e; injection e with e1 e2; simp [e2] at h2)
        have HN := Lib.hid hn
        clear hn
        go_wp2_with fail
        go_quiet (fail)
        go_wp2_with fail
        refine ⟨⟨k + 1, by omega, by go_num, kp_drewN HK.out _, fun j hj => ?_⟩, by simp [intOf]; omega⟩
        by_cases e : j = k
        · subst e; exact HN.out
        · exact HA.out j (by omega)
    · obtain rfl : k = i := by omega
      have ht : twiceB l k = false := any_range_false HA.out
      have HT := Lib.hid ht
      clear ht hkp
      go_wp2_with fail
      go_ret
      exact ⟨by rw [HT.out]; rfl, HK.out⟩
end Go.Proofs.Ytcpbemoiodbliaa
