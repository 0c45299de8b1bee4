/- The walk of MoneyCumulates. -/
import Derived.Test.YtcmijedhjebpkaaLH
import Derived.Test.YtcmijedhjebpkaaMC
namespace Go.Proofs.Ytcmijedhjebpkaa
open Go.RowKit Go.Proofs.Geo Go.Proofs.Mon
set_option linter.unusedVariables false
def stepOk (x : Int) : Prop := 0 ≤ x ∧ x ≤ 1073741824
theorem steps_bd {l : List Int} {k : Nat} (h : ∀ x ∈ l.take k, stepOk x) : 0 ≤ (l.take k).sum ∧ (l.take k).sum ≤ (l.take k).length * 1073741824 := by
  generalize l.take k = m at *
  induction m with
  | nil => simp
  | cons a m ih =>
    have := ih fun x hx => h x (List.mem_cons_of_mem _ hx)
    have ha := h a List.mem_cons_self
    unfold stepOk at ha
    simp only [List.sum_cons, List.length_cons]
    push_cast
    omega
theorem steps_succ {l : List Int} {k : Nat} (hk : k < l.length) (h : ∀ x ∈ l.take k, stepOk x) (hx : stepOk l[k]) : ∀ x ∈ l.take (k + 1), stepOk x := by
  intro x hx'
  rw [List.take_succ_eq_append_getElem hk, List.mem_append] at hx'
  rcases hx' with h' | h'
  · exact h x h'
  · simp at h'; subst h'; exact hx
theorem sum_succ {l : List Int} {k : Nat} (hk : k < l.length) : (l.take (k + 1)).sum = (l.take k).sum + l[k] := by
  rw [List.take_succ_eq_append_getElem hk, List.sum_append, List.sum_cons, List.sum_nil, Int.add_zero]
theorem sum_up {l : List Int} (h : ∀ x ∈ l, stepOk x) (k : Nat) : 0 ≤ (l.take k).sum ∧ (l.take k).sum ≤ l.sum := by
  have e : l.sum = (l.take k).sum + (l.drop k).sum := by rw [← List.sum_append, List.take_append_drop]
  have h1 := (steps_bd (l := l) (k := k) fun x hx => h x (List.mem_of_mem_take hx)).1
  have h2 : 0 ≤ (l.drop k).sum := by
    have := steps_bd (l := l.drop k) (k := (l.drop k).length) fun x hx => h x (List.mem_of_mem_drop (List.mem_of_mem_take hx))
    rw [List.take_length] at this
    exact this.1
  omega
set_option maxHeartbeats 8000000 in
set_option maxRecDepth 100000 in
theorem moneyCumulates_walk (w : World) (t : Int) (a : Option Addr) (len cap : Nat) (hA : ∃ l : List Int, len = l.length ∧ RdI w (.slice a len cap) l) : Calls Try.prog 6 #[.int .i64 t, .slice a len cap] w fun e w' => e = .returned (.bool true) ∧ Kp w w' := by
  obtain ⟨l, hlen, R0⟩ := hA
  obtain ⟨a', cap', ev, hR⟩ := R0.shape
  rw [← hlen] at ev
  obtain ⟨rfl, -, rfl⟩ : a = a' ∧ True ∧ cap = cap' := by simp at ev; exact ⟨ev.1, trivial, ev.2⟩
  have HR := Lib.hid hR; have HL := Lib.hid hlen
  have AW := Lib.hid awake_any
  clear hlen R0 hR ev
  by_cases g1 : t < 0
  · have K : Kp w w := kp_refl _
    go_enter Try.func6, Try.ntmps6
    go_wp2_with (go_at_call 7; refine (AW.out _).mono ?_; rintro e wk ⟨rfl, hk⟩; replace K := kp_trans K hk; clear hk)
    go_ret
    exact ⟨rfl, K⟩
  by_cases g2 : 1099511627775 < t
  · have K : Kp w w := kp_refl _
    go_enter Try.func6, Try.ntmps6
    go_wp2_with (go_at_call 7; refine (AW.out _).mono ?_; rintro e wk ⟨rfl, hk⟩; replace K := kp_trans K hk; clear hk)
    go_ret
    exact ⟨rfl, K⟩
  by_cases g3 : 100 < len
  · have z3 : (100 : Int) < (len : Int) := by omega
    have K : Kp w w := kp_refl _
    go_enter Try.func6, Try.ntmps6
    go_wp2_with (go_at_call 7; refine (AW.out _).mono ?_; rintro e wk ⟨rfl, hk⟩; replace K := kp_trans K hk; clear hk)
    go_ret
    exact ⟨rfl, K⟩
  have z3 : ¬ (100 : Int) < (len : Int) := by omega
  have K : Kp w w := kp_refl _
  go_enter Try.func6, Try.ntmps6
  go_wp2_with (go_at_call 7; refine (AW.out _).mono ?_; rintro e wk ⟨rfl, hk⟩; replace K := kp_trans K hk; clear hk)
  have HK := Lib.hid K
  clear K
  go_loopw [6, 7] (fun s i wr => ∃ k : Nat, k ≤ len ∧ i = .int .i64 k ∧ s = .int .i64 (l.take k).sum ∧ (∀ x ∈ l.take k, stepOk x) ∧ Kp w wr) (fun _ i _ => len - (intOf i).toNat)
  case atStart => exact ⟨0, by omega, rfl, by simp, by simp, HK.out⟩
  case round =>
    clear HK
    obtain ⟨k, hk, rfl, rfl, hok, hkp⟩ := hrel
    have hbd := steps_bd hok
    have hlk : ((l.take k).length : Int) ≤ 100 := by have := List.length_take_le k l; omega
    by_cases hlt : k < len
    · have hkl : k < l.length := by rw [← HL.out]; exact hlt
      obtain ⟨b, off, rfl, hp⟩ := HR.out.resolve_left (by rintro rfl; simp at hkl)
      have hc := (hp.kp hkp) k hkl
      have HS := Lib.hid (sum_succ hkl)
      have HO := Lib.hid (fun h => steps_succ hkl hok h)
      generalize l[k] = x at *
      have lb : b < wr.heap.size := cell_lt hc
      have z1 : (0 : Int) ≤ (k : Int) := by omega
      have z2 : (k : Int) < (len : Int) := by omega
      have HKP := Lib.hid hkp
      generalize hS : (l.take k).sum = S at *
      have HT := Lib.hid hS
      clear hS hp hok hkp
      by_cases h1 : x < 0
      · go_wp2_with fail
        go_ret
        exact ⟨rfl, HKP.out⟩
      · by_cases h2 : 1073741824 < x
        · go_wp2_with fail
          go_ret
          exact ⟨rfl, HKP.out⟩
        · have wk : IntKind.i64.wrap (S + x) = S + x := IntWalk.i64_in _ (by omega)
          have wk2 : IntKind.i64.wrap ((k : Int) + 1) = (k : Int) + 1 := IntWalk.i64_in _ (by omega)
          have HX := Lib.hid (show stepOk x by unfold stepOk; omega)
          clear hbd hlk
          go_wp2_with fail
          exact ⟨⟨k + 1, by omega, by go_num, by rw [HS.out], HO.out HX.out, HKP.out⟩, by simp [intOf]; omega⟩
    · obtain rfl : k = len := by omega
      have hke : l.take k = l := List.take_of_length_le (by rw [← HL.out]; omega)
      rw [hke] at hok hbd hlk ⊢
      have HW := Lib.hid (sum_up hok)
      have HOK := Lib.hid hok
      obtain ⟨S, hS⟩ : ∃ S, l.sum = S := ⟨_, rfl⟩
      rw [hS] at hbd HW ⊢
      have HS := Lib.hid hS
      have HKP := Lib.hid hkp
      clear hS hok hkp hke
      by_cases h0 : S = 0
      · have t0 : (S == 0) = true := by simpa using h0
        clear h0 hbd
        go_wp2_with fail
        go_ret
        exact ⟨rfl, HKP.out⟩
      · have t0 : (S == 0) = false := by simpa using h0
        have hS1 : 0 < S := by omega
        have hS2 : S ≤ 1099511627775 := by omega
        have HSH := Lib.hid (show ∀ p, 0 ≤ p → p ≤ S → shareR t p S = (shF t p S, 0) from fun p h1 h2 => share_nn (by omega) (by omega) h1 h2 hS1 hS2)
        have HLE := Lib.hid (show ∀ p, 0 ≤ p → p ≤ S → shF t p S ≤ t from fun p h1 h2 => shF_le (by omega) h1 h2 hS1)
        have HMO := Lib.hid (show ∀ p q, 0 ≤ p → p ≤ q → shF t p S ≤ shF t q S from fun p q h1 h2 => shF_mono (by omega) h1 h2)
        have HZ := Lib.hid (shF_zero (t := t) hS1)
        have HA := Lib.hid (shF_all (t := t) (by omega) hS1)
        clear h0 hbd hS1
        go_wp2_with fail
        go_loopw [8, 9, 10] (fun p q i wx => ∃ j : Nat, j ≤ k ∧ i = .int .i64 j ∧ p = .int .i64 (l.take j).sum ∧ q = .int .i64 (shF t (l.take j).sum S) ∧ Kp w wx) (fun _ _ i _ => k - (intOf i).toNat)
        case atStart => exact ⟨0, by omega, rfl, by simp, by simp [HZ.out], HKP.out⟩
        case round =>
          obtain ⟨j, hj, rfl, rfl, rfl, hkq⟩ := hrel
          have HKQ := Lib.hid hkq
          by_cases hlt2 : j < k
          · have hjl : j < l.length := by rw [← HL.out]; exact hlt2
            obtain ⟨b, off, rfl, hp⟩ := HR.out.resolve_left (by rintro rfl; simp at hjl)
            have hc := (hp.kp hkq) j hjl
            have hs := sum_succ hjl
            have u1 := HW.out j
            have u2 := HW.out (j + 1)
            rw [hs] at u2
            have hxo : stepOk l[j] := HOK.out _ (List.getElem_mem hjl)
            have HSS := Lib.hid hs
            generalize l[j] = x at *
            have lb : b < wr.heap.size := cell_lt hc
            have z1 : (0 : Int) ≤ (j : Int) := by omega
            have z2 : (j : Int) < (k : Int) := by omega
            generalize hP : (l.take j).sum = Q at *
            have HP := Lib.hid hP
            have wk : IntKind.i64.wrap (Q + x) = Q + x := IntWalk.i64_in _ (by omega)
            have wk2 : IntKind.i64.wrap ((j : Int) + 1) = (j : Int) + 1 := IntWalk.i64_in _ (by omega)
            have m1 := HMO.out Q (Q + x) u1.1 (by unfold stepOk at hxo; omega)
            have m2 := HLE.out (Q + x) u2.1 u2.2
            have c1 := fun w => share_any t (Q + x) S w
            rw [HSH.out (Q + x) u2.1 u2.2] at c1
            generalize hU : shF t Q S = U at *
            have HU := Lib.hid hU
            generalize hV : shF t (Q + x) S = V at *
            have HV := Lib.hid hV
            have C1 := Lib.hid c1
            have b1 : ¬ V < U := by omega
            have b2 : ¬ t < V := by omega
            clear hs hP hU hV c1 m1 m2 u1 u2 hxo hkq hp
            have K2 := HKQ.out
            go_wp2_with (go_at_call 17; refine (C1.out _).mono ?_; rintro e wk ⟨rfl, hk⟩; replace K2 := kp_trans K2 hk; clear hk)
            exact ⟨⟨j + 1, by omega, by go_num, by rw [HSS.out], by rw [HSS.out, HV.out], K2⟩, by simp [intOf]; omega⟩
          · obtain rfl : j = k := by omega
            have hke : l.take j = l := List.take_of_length_le (by rw [← HL.out]; omega)
            rw [hke, HS.out, HA.out]
            clear hke
            go_wp2_with fail
            go_ret
            exact ⟨rfl, HKQ.out⟩
end Go.Proofs.Ytcmijedhjebpkaa
