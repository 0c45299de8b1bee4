/- The contract of SamePoints, where both slices read as one list. -/
import Derived.Test.YtcelipgokpnmfaaC6
namespace Go.Proofs.Ytcelipgokpnmfaa
open Go.RowKit Go.Proofs.Geo

set_option maxHeartbeats 4000000 in
set_option maxRecDepth 100000 in
theorem same_at (b off cap b2 off2 cap2 : Nat) (l : List Pt) (w : World) (hl : l.length ≤ 10000000000000) (h : PtsAt w b off l) (g : PtsAt w b2 off2 l) :
    Calls Try.prog 11 #[.slice (some ⟨b, off, none⟩) l.length cap, .slice (some ⟨b2, off2, none⟩) l.length cap2] w fun e w' => e = .returned (.bool true) ∧ Kp w w' := by
  go_enter Try.func11, Try.ntmps11
  go_wp2
  go_loopw [5] (fun i wr => ∃ k : Nat, k ≤ l.length ∧ i = .int .i64 k ∧ Kp w wr) (fun i _ => l.length - (intOf i).toNat)
  case atStart => exact ⟨0, Nat.zero_le _, rfl, kp_refl _⟩
  case round =>
    obtain ⟨k, hk, rfl, hkp⟩ := hrel
    by_cases hlt : k < l.length
    · obtain ⟨x, y, hxy⟩ : ∃ x y, l[k] = (x, y) := ⟨_, _, rfl⟩
      have hc := (h.kp hkp) k hlt
      have gc := (g.kp hkp) k hlt
      rw [hxy] at hc gc
      obtain ⟨hc1, hc2⟩ := hc
      obtain ⟨gc1, gc2⟩ := gc
      have hh3 := Lib.hid hkp
      clear hxy hkp h g
      go_wp2
      go_quiet (fail)
      go_wp2
      go_roundw
      case rel => exact ⟨k + 1, by omega, by go_num, kp_drewN hh3.out _⟩
      case measure => simp [intOf]; omega
    · have hke : k = l.length := by omega
      have hh3 := Lib.hid hkp
      clear hkp hke h g
      go_wp2
      go_ret
      exact ⟨rfl, hh3.out⟩
theorem same_rd (v1 v2 : Value) (l : List Pt) (w : World) (hl : l ≠ []) (h : Rd w v1 l) (g : Rd w v2 l) :
    Calls Try.prog 11 #[v1, v2] w fun e w' => e = .returned (.bool true) ∧ Kp w w' := by
  obtain ⟨h0, ⟨rfl, h⟩ | ⟨b, off, cap, rfl, h⟩⟩ := h
  · exact absurd h hl
  obtain ⟨_, ⟨rfl, g⟩ | ⟨b2, off2, cap2, rfl, g⟩⟩ := g
  · exact absurd g hl
  exact same_at b off cap b2 off2 cap2 l w h0 h g
theorem ptsAt_one (w : World) (x y : Int) (t : TypeId) (b : Nat) (hb : b = w.heap.size) : PtsAt (w.alloc (.cells #[.int .i64 x, .int .i64 y] t)) b 0 [(x, y)] := by
  subst hb
  intro i hi
  match i, hi with
  | 0, _ => exact ⟨by simp, by simp⟩
end Go.Proofs.Ytcelipgokpnmfaa
