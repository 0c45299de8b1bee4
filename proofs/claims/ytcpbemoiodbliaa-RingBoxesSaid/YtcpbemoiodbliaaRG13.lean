/- Contracts of Normal, of slices.Equal, SamePoints and over. -/
import Derived.Test.YtcpbemoiodbliaaGR
import Derived.Test.YtcpbemoiodbliaaR1
import Derived.Test.YtcpbemoiodbliaaRG9
import Derived.Test.YtcpbemoiodbliaaRG10
import Derived.Test.YtcpbemoiodbliaaRG11
import Derived.Test.YtcpbemoiodbliaaRG12
import Derived.BigQuiet
namespace Go.Proofs.Ytcpbemoiodbliaa
open Go.RowKit Go.Proofs.Geo
theorem OwnP.rdc {w : World} {B : Nat} {v : Value} {l : List Pt} (h : OwnP w B v l) (hl : l.length ≤ 10000000000000) : RdC w v l := (h.rd hl).toC
/-- A slice that reads as these points, and has room for them. -/
def RdL (w : World) (v : Value) (l : List Pt) : Prop := RdC w v l ∧ ∃ a cap, v = .slice a l.length cap ∧ l.length ≤ cap
theorem RdL.kp {w w' : World} {v : Value} {l : List Pt} (h : RdL w v l) (k : Kp w w') : RdL w' v l := ⟨h.1.kp k, h.2⟩
theorem OwnP.rdl {w : World} {B : Nat} {v : Value} {l : List Pt} (h : OwnP w B v l) (hl : l.length ≤ 10000000000000) : RdL w v l := by
  refine ⟨(h.rd hl).toC, ?_⟩
  obtain ⟨_, ⟨hv, hn⟩ | ⟨g, cap, cur, hv, hb, hh, hc1, hc2, hs, ht⟩⟩ := h
  · exact ⟨none, 0, by rw [hn]; exact hv, by omega⟩
  · exact ⟨_, cap, hv, hc1⟩
theorem RdL.c {w : World} {v : Value} {l : List Pt} (h : RdL w v l) : RdC w v l := h.1
theorem from_rd (v : Value) (l : List Pt) (i : Int) (w : World) (h : RdL w v l) (hl : l.length ≤ 10000) : Calls Try.prog 21 #[v, .int .i64 i] w (OwnEnd w (frm l i)) := by
  obtain ⟨hr, a, cap, rfl, hc⟩ := h
  exact from_any a _ cap l i w hr hl rfl hc
theorem least_rd (v : Value) (l : List Pt) (w : World) (h : RdC w v l) (h0 : 0 < l.length) (hl : l.length ≤ 100000) : Calls Try.prog 47 #[v] w fun e w' => e = .returned (.int .i64 (leastN l : Nat)) ∧ Kp w w' := by
  obtain ⟨_, ⟨_, hn⟩ | ⟨b, off, cap, rfl, hp⟩⟩ := h.rd (by rintro rfl; simp at h0)
  · rw [hn] at h0; simp at h0
  · exact least_any b off l.length cap l w hp rfl h0 hl
theorem least9_rd (v : Value) (l : List Pt) (w : World) (h : RdC w v l) (h0 : 0 < l.length) (hl : l.length ≤ 100000) : Calls Try.prog 52 #[v] w fun e w' => e = .returned (.int .i64 (leastN l : Nat)) ∧ Kp w w' := by
  obtain ⟨_, ⟨_, hn⟩ | ⟨b, off, cap, rfl, hp⟩⟩ := h.rd (by rintro rfl; simp at h0)
  · rw [hn] at h0; simp at h0
  · exact least9_any b off l.length cap l w hp rfl h0 hl
/-- What Normal hands back. -/
def NormEnd (w : World) (l : List Pt) (e : Ending) (w' : World) : Prop := ∃ v, e = .returned (.tuple #[v, .bool (decide (signR l ≠ 0))]) ∧ OwnP w' w.heap.size v (normR l) ∧ Kp w w'
theorem sgn_len {l : List Pt} (h : signR l ≠ 0) : 3 ≤ l.length ∧ l.length ≤ 200 := by
  by_cases ho : okR l = true
  · exact ⟨(okR_iff.1 ho).1, (okR_iff.1 ho).2.1⟩
  · exact absurd (by unfold signR; rw [if_neg ho]) h
theorem sgn_bd (l : List Pt) : signR l = 0 ∨ signR l = -1 ∨ signR l = 1 := by
  unfold signR
  split
  · have := turn_bd (rat l ((leastN l : Int) - 1)) (pt l (leastN l)) (rat l ((leastN l : Int) + 1)); omega
  · exact .inl rfl
theorem norm_len {l : List Pt} (h : signR l ≠ 0) : (normR l).length = l.length := by
  unfold normR
  rw [if_neg h, frm_len]
  unfold leftR
  split <;> simp
theorem norm_le (l : List Pt) : (normR l).length ≤ l.length := by
  by_cases h : signR l = 0
  · unfold normR; rw [if_pos h]; simp
  · rw [norm_len h]; exact Nat.le_refl _
set_option maxHeartbeats 8000000 in
set_option maxRecDepth 100000 in
theorem normal_any (v : Value) (l : List Pt) (w : World) (h : RdL w v l) (hl : l.length ≤ 10000) : Calls Try.prog 22 #[v] w (NormEnd w l) := by
  have HR := Lib.hid h
  have hsc := fun w h => ringSign_of check_any v l w h (by omega)
  rcases sgn_bd l with hs | hs | hs
  · rw [hs] at hsc
    have HC := Lib.hid hsc
    have HN : Hid (normR l = []) := Lib.hid (by unfold normR; rw [if_pos hs])
    have HD : Hid (decide (signR l ≠ 0) = false) := Lib.hid (by rw [hs]; rfl)
    clear hsc hs h
    go_enter Try.func22, Try.ntmps22
    go_wp2_with (go_at_call 18; refine (HC.out _ HR.out.1).mono ?_; rintro e w1 ⟨rfl, hk⟩; have K1 := Lib.hid hk; clear hk)
    refine bodyPost_ret (v := .tuple #[.slice none 0 0, .bool false]) (by simp [results, Try.results22, go_sem]) rfl ⟨_, by rw [HD.out], by rw [HN.out]; exact OwnP.nil _ _, K1.out⟩
  · have h0 : signR l ≠ 0 := by omega
    have hlen := sgn_len h0
    rw [hs] at hsc
    have HC := Lib.hid hsc
    have HN : Hid (normR l = frm l.reverse (leastN l.reverse : Nat)) := Lib.hid (by unfold normR leftR; rw [if_neg h0, if_pos hs])
    have HD : Hid (decide (signR l ≠ 0) = true) := Lib.hid (decide_eq_true h0)
    have HL : Hid (l.reverse.length ≤ 200 ∧ 0 < l.reverse.length) := Lib.hid (by simp; omega)
    clear hsc hs h h0 hlen
    go_enter Try.func22, Try.ntmps22
    go_wp2_with (first
      | (go_at_call 18; refine (HC.out _ HR.out.1).mono ?_; rintro e w1 ⟨rfl, hk⟩; have K1 := Lib.hid hk; clear hk)
      | (go_at_call 20; refine (turned_any v l _ (HR.out.1.kp K1.out) hl).mono ?_; rintro e w2 ⟨v2, rfl, ho, hk⟩; have HV := Lib.hid (ho.rdl (Nat.le_trans HL.out.1 (by decide))); have K2 := Lib.hid (kp_trans K1.out hk); clear ho hk)
      | (go_at_call 47; refine (least_rd _ l.reverse _ HV.out.1 HL.out.2 (Nat.le_trans HL.out.1 (by decide))).mono ?_; rintro e w3 ⟨rfl, hk⟩; have K3 := Lib.hid (kp_trans K2.out hk); have HV3 := Lib.hid (HV.out.kp hk); clear hk)
      | (go_at_call 21; refine (from_rd _ l.reverse _ _ HV3.out (Nat.le_trans HL.out.1 (by decide))).mono ?_; rintro e w4 ⟨v4, rfl, ho, hk⟩; have HO := Lib.hid (OwnP.mono ho (Below.size K3.out)); have K4 := Lib.hid (kp_trans K3.out hk); clear ho hk))
    refine bodyPost_ret (v := .tuple #[v4, .bool true]) (by simp [results, Try.results22, go_sem]) rfl ⟨_, by rw [HD.out], by rw [HN.out]; exact HO.out, K4.out⟩
  · have h0 : signR l ≠ 0 := by omega
    have hlen := sgn_len h0
    rw [hs] at hsc
    have HC := Lib.hid hsc
    have HN : Hid (normR l = frm l (leastN l : Nat)) := Lib.hid (by unfold normR leftR; rw [if_neg h0, if_neg (by omega)])
    have HD : Hid (decide (signR l ≠ 0) = true) := Lib.hid (decide_eq_true h0)
    have HL : Hid (l.length ≤ 200 ∧ 0 < l.length) := Lib.hid (by omega)
    clear hsc hs h h0 hlen
    go_enter Try.func22, Try.ntmps22
    go_wp2_with (first
      | (go_at_call 18; refine (HC.out _ HR.out.1).mono ?_; rintro e w1 ⟨rfl, hk⟩; have K1 := Lib.hid hk; clear hk)
      | (go_at_call 47; refine (least_rd _ l _ (HR.out.1.kp K1.out) HL.out.2 (Nat.le_trans HL.out.1 (by decide))).mono ?_; rintro e w3 ⟨rfl, hk⟩; have K3 := Lib.hid (kp_trans K1.out hk); have HV3 := Lib.hid (HR.out.kp K3.out); clear hk)
      | (go_at_call 21; refine (from_rd _ l _ _ HV3.out (Nat.le_trans HL.out.1 (by decide))).mono ?_; rintro e w4 ⟨v4, rfl, ho, hk⟩; have HO := Lib.hid (OwnP.mono ho (Below.size K3.out)); have K4 := Lib.hid (kp_trans K3.out hk); clear ho hk))
    refine bodyPost_ret (v := .tuple #[v4, .bool true]) (by simp [results, Try.results22, go_sem]) rfl ⟨_, by rw [HD.out], by rw [HN.out]; exact HO.out, K4.out⟩
set_option maxHeartbeats 8000000 in
set_option maxRecDepth 100000 in
theorem normal9_any (v : Value) (l : List Pt) (w : World) (h : RdC w v l) (hl : l.length ≤ 10000) : Calls Try.prog 23 #[v] w (NormEnd w l) := by
  have HR := Lib.hid h
  have hsc := fun w h => ringSign9_any v l w h (by omega)
  rcases sgn_bd l with hs | hs | hs
  · rw [hs] at hsc
    have HC := Lib.hid hsc
    have HN : Hid (normR l = []) := Lib.hid (by unfold normR; rw [if_pos hs])
    have HD : Hid (decide (signR l ≠ 0) = false) := Lib.hid (by rw [hs]; rfl)
    clear hsc hs h
    go_enter Try.func23, Try.ntmps23
    go_wp2_with (go_at_call 24; refine (HC.out _ HR.out).mono ?_; rintro e w1 ⟨rfl, hk⟩; have K1 := Lib.hid hk; clear hk)
    refine bodyPost_ret (v := .tuple #[.slice none 0 0, .bool false]) (by simp [results, Try.results23, go_sem]) rfl ⟨_, by rw [HD.out], by rw [HN.out]; exact OwnP.nil _ _, K1.out⟩
  · have h0 : signR l ≠ 0 := by omega
    have hlen := sgn_len h0
    rw [hs] at hsc
    have HC := Lib.hid hsc
    have HN : Hid (normR l = frm l.reverse (leastN l.reverse : Nat)) := Lib.hid (by unfold normR leftR; rw [if_neg h0, if_pos hs])
    have HD : Hid (decide (signR l ≠ 0) = true) := Lib.hid (decide_eq_true h0)
    have HL : Hid (l.reverse.length ≤ 200 ∧ 0 < l.reverse.length) := Lib.hid (by simp; omega)
    clear hsc hs h h0 hlen
    go_enter Try.func23, Try.ntmps23
    go_wp2_with (first
      | (go_at_call 24; refine (HC.out _ HR.out).mono ?_; rintro e w1 ⟨rfl, hk⟩; have K1 := Lib.hid hk; clear hk)
      | (go_at_call 26; refine (turned9_any v l _ (HR.out.kp K1.out) hl).mono ?_; rintro e w2 ⟨v2, rfl, ho, hk⟩; have HV := Lib.hid (ho.rdc (Nat.le_trans HL.out.1 (by decide))); have K2 := Lib.hid (kp_trans K1.out hk); clear ho hk)
      | (go_at_call 52; refine (least9_rd _ l.reverse _ HV.out HL.out.2 (Nat.le_trans HL.out.1 (by decide))).mono ?_; rintro e w3 ⟨rfl, hk⟩; have K3 := Lib.hid (kp_trans K2.out hk); have HV3 := Lib.hid (HV.out.kp hk); clear hk)
      | (go_at_call 27; refine (from9_any _ l.reverse _ _ HV3.out (Nat.le_trans HL.out.1 (by decide))).mono ?_; rintro e w4 ⟨v4, rfl, ho, hk⟩; have HO := Lib.hid (OwnP.mono ho (Below.size K3.out)); have K4 := Lib.hid (kp_trans K3.out hk); clear ho hk))
    refine bodyPost_ret (v := .tuple #[v4, .bool true]) (by simp [results, Try.results23, go_sem]) rfl ⟨_, by rw [HD.out], by rw [HN.out]; exact HO.out, K4.out⟩
  · have h0 : signR l ≠ 0 := by omega
    have hlen := sgn_len h0
    rw [hs] at hsc
    have HC := Lib.hid hsc
    have HN : Hid (normR l = frm l (leastN l : Nat)) := Lib.hid (by unfold normR leftR; rw [if_neg h0, if_neg (by omega)])
    have HD : Hid (decide (signR l ≠ 0) = true) := Lib.hid (decide_eq_true h0)
    have HL : Hid (l.length ≤ 200 ∧ 0 < l.length) := Lib.hid (by omega)
    clear hsc hs h h0 hlen
    go_enter Try.func23, Try.ntmps23
    go_wp2_with (first
      | (go_at_call 24; refine (HC.out _ HR.out).mono ?_; rintro e w1 ⟨rfl, hk⟩; have K1 := Lib.hid hk; clear hk)
      | (go_at_call 52; refine (least9_rd _ l _ (HR.out.kp K1.out) HL.out.2 (Nat.le_trans HL.out.1 (by decide))).mono ?_; rintro e w3 ⟨rfl, hk⟩; have K3 := Lib.hid (kp_trans K1.out hk); have HV3 := Lib.hid (HR.out.kp K3.out); clear hk)
      | (go_at_call 27; refine (from9_any _ l _ _ HV3.out (Nat.le_trans HL.out.1 (by decide))).mono ?_; rintro e w4 ⟨v4, rfl, ho, hk⟩; have HO := Lib.hid (OwnP.mono ho (Below.size K3.out)); have K4 := Lib.hid (kp_trans K3.out hk); clear ho hk))
    refine bodyPost_ret (v := .tuple #[v4, .bool true]) (by simp [results, Try.results23, go_sem]) rfl ⟨_, by rw [HD.out], by rw [HN.out]; exact HO.out, K4.out⟩
end Go.Proofs.Ytcpbemoiodbliaa
