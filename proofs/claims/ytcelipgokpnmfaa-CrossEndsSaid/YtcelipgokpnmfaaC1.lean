/- Contracts over slices of points: slices.Index, slices.Contains, SamePoints; cross.may. -/
import Derived.Test.YtcelipgokpnmfaaW7
import Derived.Test.YtcelipgokpnmfaaW8
import Derived.Test.YtcelipgokpnmfaaCrossPlain
import Derived.RegionTactic
import Derived.WalkSmall
namespace Go.Proofs.Ytcelipgokpnmfaa
open Go.RowKit Go.Proofs.Geo

/-- slices.Index tells a number that is not below 0 just if the point is there. -/
def IdxEnd (p : Pt) (l : List Pt) (w : World) (e : Ending) (w' : World) : Prop := ∃ r : Int, (0 ≤ r ↔ p ∈ l) ∧ e = .returned (.int .i64 r) ∧ Kp w w'

theorem take_notmem {p : Pt} {l : List Pt} {k : Nat} (h : k < l.length) (hn : p ∉ l.take k) (hk : p ≠ l[k]) : p ∉ l.take (k + 1) := by
  rw [List.take_succ_eq_append_getElem h, List.mem_append, List.mem_singleton]; rintro (h1 | h1)
  · exact hn h1
  · exact hk h1

set_option maxHeartbeats 2000000 in
theorem index_any (b off cap : Nat) (l : List Pt) (px py : Int) (w : World) (hl : l.length ≤ 10000000000000) (h : PtsAt w b off l) :
    Calls Try.prog 48 #[.slice (some ⟨b, off, none⟩) l.length cap, pv px py] w (IdxEnd (px, py) l w) := by
  go_enter Try.func48, Try.ntmps48
  go_wp2
  have h' : PtsAt (w.alloc (.cells #[.int .i64 px, .int .i64 py] 23)) b off l := h.kp (kp_alloc (kp_refl w) _)
  have hp0 : (w.alloc (.cells #[.int .i64 px, .int .i64 py] 23)).cell? ⟨w.heap.size, 0, none⟩ = some (.int .i64 px) := by simp [go_sem]
  have hp1 : (w.alloc (.cells #[.int .i64 px, .int .i64 py] 23)).cell? ⟨w.heap.size, 1, none⟩ = some (.int .i64 py) := by simp [go_sem]
  have K0 : Kp w (w.alloc (.cells #[.int .i64 px, .int .i64 py] 23)) := kp_alloc (kp_refl w) _
  go_loopw [8] (fun i wr => ∃ k : Nat, k ≤ l.length ∧ i = .int .i64 k ∧ (px, py) ∉ l.take k ∧ Kp (w.alloc (.cells #[.int .i64 px, .int .i64 py] 23)) wr) (fun i _ => l.length - (intOf i).toNat)
  case atStart => exact ⟨0, Nat.zero_le _, rfl, by simp, kp_refl _⟩
  case round =>
    obtain ⟨k, hk, rfl, hn, hkp⟩ := hrel
    by_cases hlt : k < l.length
    · obtain ⟨x, y, hxy⟩ : ∃ x y, l[k] = (x, y) := ⟨_, _, rfl⟩
      have hc := (h'.kp hkp) k hlt
      rw [hxy] at hc
      obtain ⟨hc1, hc2⟩ := hc
      have p0 := kp_cell hkp hp0
      have p1 := kp_cell hkp hp1
      have hs := take_notmem hlt hn
      have hb : (px, py) = (x, y) → (px, py) ∈ l := fun e => by rw [e, ← hxy]; exact List.getElem_mem hlt
      rw [hxy] at hs
      have hs' := Lib.hid hs
      have hb' := Lib.hid hb
      have hh3 := Lib.hid (kp_trans K0 hkp)
      have hh5 := Lib.hid hkp
      clear hxy hn hkp h h' hp0 hp1 K0 hs hb
      by_cases ex : px = x
      · subst ex
        by_cases ey : py = y
        · subst ey
          have hb2 := Lib.hid (hb'.out rfl)
          clear hb'
          go_wp2
          go_quiet (fail)
          go_wp2
          go_ret
          exact ⟨_, ⟨fun _ => hb2.out, fun _ => by omega⟩, rfl, kp_drewN hh3.out _⟩
        · have ey' : (py == y) = false := by simp [ey]
          have ey2 := Lib.hid ey
          clear ey
          go_wp2
          go_quiet (fail)
          go_wp2
          go_roundw
          case rel => exact ⟨k + 1, by omega, by go_num, hs'.out (by simp [ey2.out]), kp_drewN hh5.out _⟩
          case measure => simp [intOf]; omega
      · have ex' : (px == x) = false := by simp [ex]
        have ex2 := Lib.hid ex
        clear ex
        go_wp2
        go_quiet (fail)
        go_wp2
        go_roundw
        case rel => exact ⟨k + 1, by omega, by go_num, hs'.out (by simp [ex2.out]), kp_drewN hh5.out _⟩
        case measure => simp [intOf]; omega
    · have hke : k = l.length := by omega
      have hn' : (px, py) ∉ l := by rw [hke, List.take_length] at hn; exact hn
      have hh2 := Lib.hid hn'
      have hh3 := Lib.hid (kp_trans K0 hkp)
      clear hn hkp hke hn' h h' hp0 hp1 K0
      go_wp2
      go_ret
      exact ⟨-1, ⟨fun q => absurd q (by omega), fun q => absurd q hh2.out⟩, rfl, hh3.out⟩

set_option maxHeartbeats 2000000 in
theorem index_nil (px py : Int) (w : World) : Calls Try.prog 48 #[.slice none 0 0, pv px py] w (IdxEnd (px, py) [] w) := by
  go_enter Try.func48, Try.ntmps48
  go_wp2
  go_loop [8] (fun i => i = .int .i64 0) (fun _ => 0)
  case atStart => rfl
  case round =>
    subst hrel
    go_wp2
    go_ret
    exact ⟨-1, ⟨fun q => absurd q (by omega), fun q => absurd q (by simp)⟩, rfl, kp_alloc (kp_refl w) _⟩

theorem index_rd (v : Value) (l : List Pt) (px py : Int) (w : World) (h : Rd w v l) :
    Calls Try.prog 48 #[v, pv px py] w (IdxEnd (px, py) l w) := by
  obtain ⟨hl, ⟨rfl, rfl⟩ | ⟨b, off, cap, rfl, h⟩⟩ := h
  · exact index_nil px py w
  · exact index_any b off cap l px py w hl h

theorem contains_rd (v : Value) (l : List Pt) (px py : Int) (w : World) (h : Rd w v l) :
    Calls Try.prog 35 #[v, pv px py] w fun e w' => e = .returned (.bool (decide ((px, py) ∈ l))) ∧ Kp w w' := by
  have H := fun W (k : Kp w W) => index_rd v l px py W (h.kp k)
  have H' := Lib.hid H
  clear H h
  go_enter Try.func35, Try.ntmps35
  go_wp2_with (go_at_call 48; refine (H'.out _ (kp_alloc (kp_refl _) _)).mono ?_; rintro e w' ⟨r, hr, rfl, hk⟩; have hr' := Lib.hid hr; clear hr)
  all_goals
    go_ret
    exact ⟨ret_bool (by have := hr'.out; rw [← decide_eq_decide.2 this]), kp_trans (kp_alloc (kp_refl _) _) hk⟩
end Go.Proofs.Ytcelipgokpnmfaa
