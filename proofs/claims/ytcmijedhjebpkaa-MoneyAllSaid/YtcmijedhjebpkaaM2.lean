/- Contracts: weigh, SameInts. -/
import Derived.Test.YtcmijedhjebpkaaMS1
import Derived.Test.YtcmijedhjebpkaaOI
import Derived.Test.YtcmijedhjebpkaaCellD0
import Derived.IntWalk
import Derived.Deep.DeepCutAuto
import Derived.Deep.QuietTactic
import Derived.BigQuiet
namespace Go.Proofs.Ytcmijedhjebpkaa
open Go.RowKit Go.Proofs.Geo Go.Proofs.Mon
set_option linter.unusedVariables false
theorem weigh_bad {l : List Int} (h : l.any badW = true) : weighR l = (0, false) := by unfold weighR; rw [if_pos h]
theorem weigh_ok {l : List Int} (h : l.any badW = false) : weighR l = (l.sum, decide (0 < l.sum) && decide (l.length ≤ 1000)) := by unfold weighR; rw [if_neg (by rw [h]; simp)]
set_option maxHeartbeats 4000000 in
theorem weigh_core (a : Option Addr) (len cap : Nat) (l : List Int) (w : World) (hlen : len = l.length) (hl : len ≤ 2000) (hR : l = [] ∨ ∃ b off, a = some ⟨b, off, none⟩ ∧ IntsAt w b off l) :
    Calls Try.prog 22 #[.slice a len cap] w fun e w' => e = .returned (.tuple #[.int .i64 (weighR l).1, .bool (weighR l).2]) ∧ Kp w w' := by
  have HR := Lib.hid hR
  have HL := Lib.hid hlen
  clear hR hlen
  go_enter Try.func22, Try.ntmps22
  go_wp2_with fail
  go_loopw [4, 9] (fun s i wr => ∃ k : Nat, k ≤ len ∧ i = .int .i64 k ∧ s = .int .i64 (l.take k).sum ∧ (l.take k).any badW = false ∧ Kp w wr) (fun _ i _ => len - (intOf i).toNat)
  case atStart => exact ⟨0, by omega, rfl, by simp, by simp, kp_refl _⟩
  case round =>
    obtain ⟨k, hk, rfl, rfl, hany, hkp⟩ := hrel
    have hbd := sum_bd hany
    have hlk : ((l.take k).length : Int) ≤ 2000 := by have := List.length_take_le k l; omega
    by_cases hlt : k < len
    · have hkl : k < l.length := by rw [← HL.out]; exact hlt
      obtain ⟨b, off, rfl, hp⟩ := HR.out.resolve_left (by rintro rfl; simp at hkl)
      have hc := (hp.kp hkp) k hkl
      have hs := sum_take_succ l hkl
      have ha := any_take_succ l hkl badW
      have hg : l.getD k 0 = l[k] := by rw [List.getD_eq_getElem?_getD, List.getElem?_eq_getElem hkl]; rfl
      rw [hg] at hs ha
      generalize l[k] = x at *
      have lb : b < wr.heap.size := cell_lt hc
      have z1 : (0 : Int) ≤ (k : Int) := by omega
      have z2 : (k : Int) < (len : Int) := by omega
      have HS := Lib.hid hs; have HA := Lib.hid ha; have HY := Lib.hid hany
      have HKP := Lib.hid hkp
      generalize hS : (l.take k).sum = S at *
      have HT := Lib.hid hS
      clear hS hs ha hany hp hg hkp
      by_cases h1 : x < 0
      · have hv := Lib.hid (weigh_bad (l := l) (any_of_take (k := k + 1) (by rw [HA.out, show badW x = true by unfold badW; rw [decide_eq_true h1]; rfl]; simp)))
        go_wp2_with fail
        go_ret2
        exact ⟨by rw [hv.out]; rfl, HKP.out⟩
      · by_cases h2 : 1099511627775 < x
        · have hv := Lib.hid (weigh_bad (l := l) (any_of_take (k := k + 1) (by rw [HA.out, show badW x = true by unfold badW; rw [decide_eq_true h2]; simp]; simp)))
          go_wp2_with fail
          go_ret2
          exact ⟨by rw [hv.out]; rfl, HKP.out⟩
        · have wk : IntKind.i64.wrap (S + x) = S + x := IntWalk.i64_in _ (by omega)
          have wk2 : IntKind.i64.wrap ((k : Int) + 1) = (k : Int) + 1 := IntWalk.i64_in _ (by omega)
          have hb := Lib.hid (show badW x = false by unfold badW; rw [decide_eq_false h1, decide_eq_false h2]; rfl)
          clear hbd hlk
          go_wp2_with fail
          exact ⟨⟨k + 1, by omega, by go_num, by rw [HS.out], by rw [HA.out, HY.out, hb.out]; rfl, HKP.out⟩, by simp [intOf]; omega⟩
    · have hke : l.take k = l := List.take_of_length_le (by rw [← HL.out]; omega)
      rw [hke] at hany hbd ⊢
      have hv := Lib.hid (weigh_ok hany)
      have HLN := Lib.hid (show decide (l.length ≤ 1000) = decide (len ≤ 1000) by rw [HL.out])
      generalize l.sum = S at *
      have HKP := Lib.hid hkp
      clear hany hke hlk hkp HR
      by_cases h1 : 0 < S
      · by_cases h2 : len ≤ 1000
        · have z3 : (len : Int) ≤ 1000 := by omega
          go_wp2_with fail
          go_ret2
          exact ⟨by rw [hv.out, HLN.out]; simp [h1, h2], HKP.out⟩
        · have z3 : ¬ (len : Int) ≤ 1000 := by omega
          go_wp2_with fail
          go_ret2
          exact ⟨by rw [hv.out, HLN.out]; simp [h1, h2], HKP.out⟩
      · go_wp2_with fail
        go_ret2
        exact ⟨by rw [hv.out]; simp; omega, HKP.out⟩
theorem weigh_any (v : Value) (l : List Int) (w : World) (h : RdI w v l) (hl : l.length ≤ 2000) : Calls Try.prog 22 #[v] w fun e w' => e = .returned (.tuple #[.int .i64 (weighR l).1, .bool (weighR l).2]) ∧ Kp w w' := by
  obtain ⟨a, cap, rfl, hs⟩ := h.shape
  exact weigh_core a l.length cap l w rfl hl hs
set_option maxHeartbeats 4000000 in
theorem sameI_off (a a2 : Option Addr) (n n2 cap cap2 : Nat) (w : World) (hne : n ≠ n2) : Calls Try.prog 10 #[.slice a n cap, .slice a2 n2 cap2] w fun e w' => e = .returned (.bool false) ∧ Kp w w' := by
  have t : ((n : Int) != (n2 : Int)) = true := by simp; omega
  have K := Lib.hid (kp_refl w)
  clear hne
  go_enter Try.func10, Try.ntmps10
  go_wp2_with fail
  go_ret
  exact ⟨rfl, K.out⟩
set_option maxHeartbeats 4000000 in
theorem sameI_core (a a2 : Option Addr) (n cap cap2 : Nat) (l m : List Int) (w : World) (hl : n = l.length) (hm : n = m.length) (hb : n ≤ 100000)
    (h1 : l = [] ∨ ∃ b off, a = some ⟨b, off, none⟩ ∧ IntsAt w b off l) (h2 : m = [] ∨ ∃ b off, a2 = some ⟨b, off, none⟩ ∧ IntsAt w b off m) :
    Calls Try.prog 10 #[.slice a n cap, .slice a2 n cap2] w fun e w' => e = .returned (.bool (decide (l = m))) ∧ Kp w w' := by
  have HL := Lib.hid hl; have HM := Lib.hid hm; have H1 := Lib.hid h1; have H2 := Lib.hid h2
  clear hl hm h1 h2
  go_enter Try.func10, Try.ntmps10
  go_wp2_with fail
  go_loopw [5] (fun i wr => ∃ k : Nat, k ≤ n ∧ i = .int .i64 k ∧ l.take k = m.take k ∧ Kp w wr) (fun i _ => n - (intOf i).toNat)
  case atStart => exact ⟨0, by omega, rfl, by simp, kp_refl _⟩
  case round =>
    obtain ⟨k, hk, rfl, htk, hkp⟩ := hrel
    by_cases hlt : k < n
    · have hkl : k < l.length := by rw [← HL.out]; exact hlt
      have hkm : k < m.length := by rw [← HM.out]; exact hlt
      obtain ⟨b, off, rfl, hp⟩ := H1.out.resolve_left (by rintro rfl; simp at hkl)
      obtain ⟨b2, off2, rfl, hp2⟩ := H2.out.resolve_left (by rintro rfl; simp at hkm)
      have hc := (hp.kp hkp) k hkl
      have hc2 := (hp2.kp hkp) k hkm
      have hs : l[k] = m[k] → l.take (k + 1) = m.take (k + 1) := fun e => by rw [List.take_succ_eq_append_getElem hkl, List.take_succ_eq_append_getElem hkm, htk, e]
      have hd : l[k] ≠ m[k] → decide (l = m) = false := fun e => decide_eq_false (fun e' => e (by subst e'; rfl))
      generalize l[k] = x at *
      generalize m[k] = y at *
      have lb : b < wr.heap.size := cell_lt hc
      have lb2 : b2 < wr.heap.size := cell_lt hc2
      have z1 : (0 : Int) ≤ (k : Int) := by omega
      have z2 : (k : Int) < (n : Int) := by omega
      have wk2 : IntKind.i64.wrap ((k : Int) + 1) = (k : Int) + 1 := IntWalk.i64_in _ (by omega)
      have HS := Lib.hid hs; have HD := Lib.hid hd; have HKP := Lib.hid hkp
      clear hs hd htk hp hp2 hkp
      by_cases e : x = y
      · have HE := Lib.hid (HS.out e)
        subst e
        go_upto_region 6 with fail
        go_quiet (fail)
        go_wp2_with fail
        exact ⟨⟨k + 1, by omega, by go_num, HE.out, kp_trans HKP.out (by first | exact kp_refl _ | exact kp_drewN (kp_refl _) _)⟩, by simp [intOf]; omega⟩
      · have t : (x != y) = true := by simpa using e
        have HE := Lib.hid (HD.out e)
        clear e
        go_upto_region 6 with fail
        go_quiet (fail)
        go_wp2_with fail
        go_ret
        exact ⟨by rw [HE.out]; rfl, kp_trans HKP.out (by first | exact kp_refl _ | exact kp_drewN (kp_refl _) _)⟩
    · have hke : k = n := by omega
      have HE := Lib.hid (show decide (l = m) = true from decide_eq_true (by have h := htk; rw [List.take_of_length_le (by rw [← HL.out]; omega), List.take_of_length_le (by rw [← HM.out]; omega)] at h; exact h))
      have HKP := Lib.hid hkp
      clear htk hkp
      go_wp2_with fail
      go_ret
      exact ⟨by rw [HE.out]; rfl, HKP.out⟩
theorem sameI_any (v1 v2 : Value) (l m : List Int) (w : World) (h1 : RdI w v1 l) (h2 : RdI w v2 m) (hb : l.length ≤ 100000) : Calls Try.prog 10 #[v1, v2] w fun e w' => e = .returned (.bool (decide (l = m))) ∧ Kp w w' := by
  obtain ⟨a, c, rfl, g1⟩ := h1.shape
  obtain ⟨a2, c2, rfl, g2⟩ := h2.shape
  by_cases e : l.length = m.length
  · rw [← e]; exact sameI_core a a2 l.length c c2 l m w rfl e hb g1 g2
  · rw [decide_eq_false (fun e' : l = m => e (by rw [e']))]
    exact sameI_off a a2 _ _ c c2 w e
end Go.Proofs.Ytcmijedhjebpkaa
