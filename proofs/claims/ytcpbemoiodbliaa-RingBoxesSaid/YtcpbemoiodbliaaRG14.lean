/- Contracts of slices.Equal, SamePoints and over. -/
import Derived.Test.YtcpbemoiodbliaaRG13
import Derived.BigQuiet
namespace Go.Proofs.Ytcpbemoiodbliaa
open Go.RowKit Go.Proofs.Geo
theorem dec_eq (l m : List Pt) (n : Nat) (hl : l.length = n) (hm : m.length = n) (h : ∀ j, j < n → decide (pt l j = pt m j) = true) : decide (l = m) = true := by
  refine decide_eq_true (List.ext_getElem (by omega) fun i h1 h2 => ?_)
  have := of_decide_eq_true (h i (by omega))
  rwa [pt_get h1, pt_get h2] at this
theorem dec_ne (l m : List Pt) (j : Nat) (h : decide (pt l j = pt m j) = false) : decide (l = m) = false := decide_eq_false (by rintro rfl; simp at h)
theorem dec_len (l m : List Pt) (h : l.length ≠ m.length) : decide (l = m) = false := decide_eq_false (by rintro rfl; exact h rfl)
set_option linter.unusedVariables false
set_option maxHeartbeats 8000000 in
set_option maxRecDepth 100000 in
theorem equal_at (b off cap b2 off2 cap2 len : Nat) (l m : List Pt) (w : World) (hl : l.length = len) (hm : m.length = len) (hn : len ≤ 10000000000) (hp : PtsAt w b off l) (hq : PtsAt w b2 off2 m) :
    Calls Try.prog 55 #[.slice (some ⟨b, off, none⟩) len cap, .slice (some ⟨b2, off2, none⟩) len cap2] w fun e w' => e = .returned (.bool (decide (l = m))) ∧ Kp w w' := by
  have HP := Lib.hid hp; have HQ := Lib.hid hq; have HL := Lib.hid hl; have HM := Lib.hid hm
  clear hp hq hl hm
  go_enter Try.func55, Try.ntmps55
  go_wp2_with fail
  go_loopw [13] (fun s wr => ∃ k : Nat, k ≤ len ∧ s = .int .i64 k ∧ Kp w wr ∧ ∀ j, j < k → decide (pt l j = pt m j) = true) (fun s _ => len - (intOf s).toNat)
  case atStart => exact ⟨0, by omega, rfl, kp_refl _, fun j h => by omega⟩
  case round =>
    obtain ⟨k, hk, rfl, hkp, hall⟩ := hrel
    have HA := Lib.hid hall
    have HK := Lib.hid hkp
    clear hall
    by_cases hlt : k < len
    · obtain ⟨y0, y1⟩ := pt_lt (HP.out.kp hkp) (show k < l.length by rw [HL.out]; exact hlt)
      obtain ⟨v0, v1⟩ := pt_lt (HQ.out.kp hkp) (show k < m.length by rw [HM.out]; exact hlt)
      obtain ⟨x, hx⟩ : ∃ x, (pt l k).1 = x := ⟨_, rfl⟩
      obtain ⟨y, hy⟩ : ∃ x, (pt l k).2 = x := ⟨_, rfl⟩
      obtain ⟨z, hz⟩ : ∃ x, (pt m k).1 = x := ⟨_, rfl⟩
      obtain ⟨u, hu⟩ : ∃ x, (pt m k).2 = x := ⟨_, rfl⟩
      have HPK := Lib.hid (show pt l k = (x, y) by rw [← hx, ← hy])
      have HQK := Lib.hid (show pt m k = (z, u) by rw [← hz, ← hu])
      rw [hx] at y0; rw [hy] at y1; rw [hz] at v0; rw [hu] at v1
      have lb : b < wr.heap.size := cell_lt y0
      have lb2 : b2 < wr.heap.size := cell_lt v0
      have c1 : (0 : Int) ≤ (k : Int) := by omega
      have c2 : (k : Int) < (len : Int) := by omega
      clear hx hy hz hu hkp
      have hc : (x = z ∧ y = u) ∨ (x == z) = false ∨ (x = z ∧ (y == u) = false) := by
        by_cases h1 : x = z
        · by_cases h2 : y = u
          · exact .inl ⟨h1, h2⟩
          · exact .inr (.inr ⟨h1, by simpa using h2⟩)
        · exact .inr (.inl (by simpa using h1))
      rcases hc with ⟨rfl, rfl⟩ | h1 | ⟨rfl, h2⟩
      · have HT := Lib.hid (show decide (pt l k = pt m k) = true from decide_eq_true (by rw [HPK.out, HQK.out]))
        go_wp2_with fail
        go_quiet (fail)
        go_wp2_with fail
        go_roundw
        case rel =>
          refine ⟨k + 1, by omega, by go_num, kp_drewN HK.out _, fun j hj => ?_⟩
          by_cases e : j = k
          · subst e; exact HT.out
          · exact HA.out j (by omega)
        case measure => simp [intOf]; omega
      · have HN := Lib.hid (show decide (l = m) = false from dec_ne l m k (decide_eq_false (by rw [HPK.out, HQK.out]; intro e; injection e with e1 e2; simp [e1] at h1)))
        go_wp2_with fail
        go_quiet (fail)
        go_wp2_with fail
        go_ret
        exact ⟨by rw [HN.out]; rfl, kp_drewN HK.out _⟩
      · have HN := Lib.hid (show decide (l = m) = false from dec_ne l m k (decide_eq_false (by rw [HPK.out, HQK.out]; intro e; injection e with e1 e2; simp [e2] at h2)))
        go_wp2_with fail
        go_quiet (fail)
        go_wp2_with fail
        go_ret
        exact ⟨by rw [HN.out]; rfl, kp_drewN HK.out _⟩
    · obtain rfl : len = k := by omega
      have HT := Lib.hid (dec_eq l m len HL.out HM.out HA.out)
      clear hkp
      go_wp2_with fail
      go_ret
      exact ⟨by rw [HT.out]; rfl, HK.out⟩
set_option maxHeartbeats 4000000 in
theorem equal_off (a a2 : Option Addr) (n n2 cap cap2 : Nat) (w : World) (hne : n ≠ n2) : Calls Try.prog 55 #[.slice a n cap, .slice a2 n2 cap2] w fun e w' => e = .returned (.bool false) ∧ Kp w w' := by
  have t : ((n : Int) != (n2 : Int)) = true := by simp; omega
  go_enter Try.func55, Try.ntmps55
  go_wp2_with fail
  go_ret
  exact ⟨rfl, kp_refl _⟩
set_option maxHeartbeats 4000000 in
theorem equal_nil (a b : Option Addr) (c d : Nat) (w : World) : Calls Try.prog 55 #[.slice a 0 c, .slice b 0 d] w fun e w' => e = .returned (.bool true) ∧ Kp w w' := by
  go_enter Try.func55, Try.ntmps55
  go_wp2_with fail
  go_loop [13] (fun i => i = .int .i64 0) (fun _ => 0)
  case atStart => rfl
  case round =>
    subst hrel
    go_wp2_with fail
    go_ret
    exact ⟨rfl, kp_refl _⟩
theorem equal_any (v1 v2 : Value) (l m : List Pt) (w : World) (h : RdC w v1 l) (g : RdC w v2 m) (hl : l.length ≤ 10000000000) : Calls Try.prog 55 #[v1, v2] w fun e w' => e = .returned (.bool (decide (l = m))) ∧ Kp w w' := by
  have sh : ∀ (v : Value) (l : List Pt), RdC w v l → ∃ a cap, v = .slice a l.length cap := by
    rintro v l ⟨_, ⟨rfl, hn⟩ | ⟨ad, cap, rfl, _⟩⟩
    · exact ⟨none, 0, by rw [hn]; rfl⟩
    · exact ⟨_, _, rfl⟩
  by_cases hlen : l.length = m.length
  · by_cases hnil : l = []
    · subst hnil
      have hm : m = [] := List.eq_nil_of_length_eq_zero hlen.symm
      subst hm
      obtain ⟨a, cap, rfl⟩ := sh _ _ h
      obtain ⟨a2, cap2, rfl⟩ := sh _ _ g
      exact equal_nil a a2 cap cap2 w
    · obtain ⟨_, ⟨_, hn⟩ | ⟨b, off, cap, rfl, hp⟩⟩ := h.rd hnil
      · exact absurd hn hnil
      obtain ⟨_, ⟨_, hn⟩ | ⟨b2, off2, cap2, rfl, hq⟩⟩ := g.rd (by rintro rfl; exact hnil (List.eq_nil_of_length_eq_zero hlen))
      · subst hn; exact absurd (List.eq_nil_of_length_eq_zero hlen) hnil
      have := equal_at b off cap b2 off2 cap2 l.length l m w rfl hlen.symm hl hp hq
      rw [← hlen]
      exact this
  · obtain ⟨a, cap, rfl⟩ := sh _ _ h
    obtain ⟨a2, cap2, rfl⟩ := sh _ _ g
    rw [dec_len l m hlen]
    exact equal_off a a2 _ _ cap cap2 w hlen
set_option linter.unusedVariables false
set_option maxHeartbeats 8000000 in
set_option maxRecDepth 100000 in
theorem same2_at (b off cap b2 off2 cap2 len : Nat) (l m : List Pt) (w : World) (hl : l.length = len) (hm : m.length = len) (hn : len ≤ 10000000000) (hp : PtsAt w b off l) (hq : PtsAt w b2 off2 m) :
    Calls Try.prog 25 #[.slice (some ⟨b, off, none⟩) len cap, .slice (some ⟨b2, off2, none⟩) len cap2] w fun e w' => e = .returned (.bool (decide (l = m))) ∧ Kp w w' := by
  have HP := Lib.hid hp; have HQ := Lib.hid hq; have HL := Lib.hid hl; have HM := Lib.hid hm
  clear hp hq hl hm
  go_enter Try.func25, Try.ntmps25
  go_wp2_with fail
  go_loopw [5] (fun s wr => ∃ k : Nat, k ≤ len ∧ s = .int .i64 k ∧ Kp w wr ∧ ∀ j, j < k → decide (pt l j = pt m j) = true) (fun s _ => len - (intOf s).toNat)
  case atStart => exact ⟨0, by omega, rfl, kp_refl _, fun j h => by omega⟩
  case round =>
    obtain ⟨k, hk, rfl, hkp, hall⟩ := hrel
    have HA := Lib.hid hall
    have HK := Lib.hid hkp
    clear hall
    by_cases hlt : k < len
    · obtain ⟨y0, y1⟩ := pt_lt (HP.out.kp hkp) (show k < l.length by rw [HL.out]; exact hlt)
      obtain ⟨v0, v1⟩ := pt_lt (HQ.out.kp hkp) (show k < m.length by rw [HM.out]; exact hlt)
      obtain ⟨x, hx⟩ : ∃ x, (pt l k).1 = x := ⟨_, rfl⟩
      obtain ⟨y, hy⟩ : ∃ x, (pt l k).2 = x := ⟨_, rfl⟩
      obtain ⟨z, hz⟩ : ∃ x, (pt m k).1 = x := ⟨_, rfl⟩
      obtain ⟨u, hu⟩ : ∃ x, (pt m k).2 = x := ⟨_, rfl⟩
      have HPK := Lib.hid (show pt l k = (x, y) by rw [← hx, ← hy])
      have HQK := Lib.hid (show pt m k = (z, u) by rw [← hz, ← hu])
      rw [hx] at y0; rw [hy] at y1; rw [hz] at v0; rw [hu] at v1
      have lb : b < wr.heap.size := cell_lt y0
      have lb2 : b2 < wr.heap.size := cell_lt v0
      have c1 : (0 : Int) ≤ (k : Int) := by omega
      have c2 : (k : Int) < (len : Int) := by omega
      clear hx hy hz hu hkp
      have hc : (x = z ∧ y = u) ∨ (x == z) = false ∨ (x = z ∧ (y == u) = false) := by
        by_cases h1 : x = z
        · by_cases h2 : y = u
          · exact .inl ⟨h1, h2⟩
          · exact .inr (.inr ⟨h1, by simpa using h2⟩)
        · exact .inr (.inl (by simpa using h1))
      rcases hc with ⟨rfl, rfl⟩ | h1 | ⟨rfl, h2⟩
      · have HT := Lib.hid (show decide (pt l k = pt m k) = true from decide_eq_true (by rw [HPK.out, HQK.out]))
        go_wp2_with fail
        go_quiet (fail)
        go_wp2_with fail
        go_roundw
        case rel =>
          refine ⟨k + 1, by omega, by go_num, kp_drewN HK.out _, fun j hj => ?_⟩
          by_cases e : j = k
          · subst e; exact HT.out
          · exact HA.out j (by omega)
        case measure => simp [intOf]; omega
      · have HN := Lib.hid (show decide (l = m) = false from dec_ne l m k (decide_eq_false (by rw [HPK.out, HQK.out]; intro e; injection e with e1 e2; simp [e1] at h1)))
        go_wp2_with fail
        go_quiet (fail)
        go_wp2_with fail
        go_ret
        exact ⟨by rw [HN.out]; rfl, kp_drewN HK.out _⟩
      · have HN := Lib.hid (show decide (l = m) = false from dec_ne l m k (decide_eq_false (by rw [HPK.out, HQK.out]; intro e; injection e with e1 e2; simp [e2] at h2)))
        go_wp2_with fail
        go_quiet (fail)
        go_wp2_with fail
        go_ret
        exact ⟨by rw [HN.out]; rfl, kp_drewN HK.out _⟩
    · obtain rfl : len = k := by omega
      have HT := Lib.hid (dec_eq l m len HL.out HM.out HA.out)
      clear hkp
      go_wp2_with fail
      go_ret
      exact ⟨by rw [HT.out]; rfl, HK.out⟩
set_option maxHeartbeats 4000000 in
theorem same2_off (a a2 : Option Addr) (n n2 cap cap2 : Nat) (w : World) (hne : n ≠ n2) : Calls Try.prog 25 #[.slice a n cap, .slice a2 n2 cap2] w fun e w' => e = .returned (.bool false) ∧ Kp w w' := by
  have t : ((n : Int) != (n2 : Int)) = true := by simp; omega
  go_enter Try.func25, Try.ntmps25
  go_wp2_with fail
  go_ret
  exact ⟨rfl, kp_refl _⟩
set_option maxHeartbeats 4000000 in
theorem same2_nil (a b : Option Addr) (c d : Nat) (w : World) : Calls Try.prog 25 #[.slice a 0 c, .slice b 0 d] w fun e w' => e = .returned (.bool true) ∧ Kp w w' := by
  go_enter Try.func25, Try.ntmps25
  go_wp2_with fail
  go_loop [5] (fun i => i = .int .i64 0) (fun _ => 0)
  case atStart => rfl
  case round =>
    subst hrel
    go_wp2_with fail
    go_ret
    exact ⟨rfl, kp_refl _⟩
theorem same2_any (v1 v2 : Value) (l m : List Pt) (w : World) (h : RdC w v1 l) (g : RdC w v2 m) (hl : l.length ≤ 10000000000) : Calls Try.prog 25 #[v1, v2] w fun e w' => e = .returned (.bool (decide (l = m))) ∧ Kp w w' := by
  have sh : ∀ (v : Value) (l : List Pt), RdC w v l → ∃ a cap, v = .slice a l.length cap := by
    rintro v l ⟨_, ⟨rfl, hn⟩ | ⟨ad, cap, rfl, _⟩⟩
    · exact ⟨none, 0, by rw [hn]; rfl⟩
    · exact ⟨_, _, rfl⟩
  by_cases hlen : l.length = m.length
  · by_cases hnil : l = []
    · subst hnil
      have hm : m = [] := List.eq_nil_of_length_eq_zero hlen.symm
      subst hm
      obtain ⟨a, cap, rfl⟩ := sh _ _ h
      obtain ⟨a2, cap2, rfl⟩ := sh _ _ g
      exact same2_nil a a2 cap cap2 w
    · obtain ⟨_, ⟨_, hn⟩ | ⟨b, off, cap, rfl, hp⟩⟩ := h.rd hnil
      · exact absurd hn hnil
      obtain ⟨_, ⟨_, hn⟩ | ⟨b2, off2, cap2, rfl, hq⟩⟩ := g.rd (by rintro rfl; exact hnil (List.eq_nil_of_length_eq_zero hlen))
      · subst hn; exact absurd (List.eq_nil_of_length_eq_zero hlen) hnil
      have := same2_at b off cap b2 off2 cap2 l.length l m w rfl hlen.symm hl hp hq
      rw [← hlen]
      exact this
  · obtain ⟨a, cap, rfl⟩ := sh _ _ h
    obtain ⟨a2, cap2, rfl⟩ := sh _ _ g
    rw [dec_len l m hlen]
    exact same2_off a a2 _ _ cap cap2 w hlen
end Go.Proofs.Ytcpbemoiodbliaa
