/- The walk of RingKnown. -/
import Derived.Test.YtcpbemoiodbliaaRG16
import Derived.Test.YtcpbemoiodbliaaMP
import Derived.Test.YtcpbemoiodbliaaRingTurnsW
namespace Go.Proofs.Ytcpbemoiodbliaa
open Go.RowKit Go.Proofs.Geo
/-- The chapter's square, in a block of its own. -/
def SqEnd (w : World) (e : Ending) (w' : World) : Prop := ∃ b, e = .returned (.slice (some ⟨b, 0, none⟩) 4 4) ∧ RdL w' (.slice (some ⟨b, 0, none⟩) 4 4) sq ∧ RdL w' (.slice (some ⟨b, 0, none⟩) 2 4) (sq.take 2) ∧ RdL w' (.slice (some ⟨b, 0, none⟩) 3 4) (sq.take 3) ∧ Kp w w'
theorem take_rd {w : World} {b cap : Nat} {l : List Pt} (h : RdC w (.slice (some ⟨b, 0, none⟩) l.length cap) l) (k : Nat) (hk : k ≤ l.length) (hc : k ≤ cap) : RdL w (.slice (some ⟨b, 0, none⟩) k cap) (l.take k) := by
  have hlen : (l.take k).length = k := by simp; omega
  refine ⟨⟨by have := h.1; omega, .inr ⟨⟨b, 0, none⟩, cap, by rw [hlen], ?_⟩⟩, some ⟨b, 0, none⟩, cap, by rw [hlen], by omega⟩
  intro j u hj
  obtain ⟨_, ⟨e, _⟩ | ⟨ad, cp, e, hc⟩⟩ := h
  · cases e
  · injection e with e1 e2 e3
    injection e1 with e1
    subst e1
    refine hc j u ?_
    have : flat l = flat (l.take k) ++ flat (l.drop k) := by rw [← flat_append, List.take_append_drop]
    rw [this, List.getElem?_append_left]
    · exact hj
    · exact (List.getElem?_eq_some_iff.1 hj).1
set_option maxHeartbeats 4000000 in
theorem square_sl (w : World) : Calls Try.prog 32 #[] w (SqEnd w) := by
  have K : Kp w w := kp_refl _
  go_enter Try.func32, Try.ntmps32
  go_wp2_with (go_at_call 17; refine (at_any _ _ _).mono ?_; rintro e w1 ⟨rfl, hk⟩; replace K := kp_trans K hk; clear hk)
  go_ret
  have hr := fun W => (OwnP.lit W sq _ rfl (by decide)).rdl (by decide)
  exact ⟨_, rfl, hr _, take_rd (hr _).1 2 (by decide) (by decide), take_rd (hr _).1 3 (by decide) (by decide), kp_alloc K _⟩
def k1 : List Pt := [(0, 4), (0, 0), (4, 0), (4, 4)]
def k2 : List Pt := [(0, 0), (4, 0), (2, 0), (0, 4)]
def k3 : List Pt := [(0, 0), (4, 0), (0, 0), (0, 4)]
def k4 : List Pt := [(0, 0), (2, 0), (4, 0), (4, 4)]
def k5 : List Pt := [(0, 0), (4, 0), (9, 0)]
set_option linter.unusedVariables false
set_option maxHeartbeats 8000000 in
set_option maxRecDepth 100000 in
theorem ringKnown_walk (w : World) : Calls Try.prog 10 #[] w fun e w' => e = .returned (.bool true) ∧ Kp w w' := by
  have K : Kp w w := kp_refl _
  have hk1 : frm sq (-1) = k1 := by decide +kernel
  have hk7 : normR sq.reverse = sq := by decide +kernel
  have d2 := fun v w h => check_any v k2 w h (by decide)
  have d3 := fun v w h => check_any v k3 w h (by decide)
  have d4 := fun v w h => check_any v k4 w h (by decide)
  have d5 := fun v w h => check_any v k5 w h (by decide)
  have d6 := fun v w h => check_any v (sq.take 2) w h (by decide)
  rw [show chk k2 = (192, 1) by decide +kernel] at d2
  rw [show chk k3 = (191, 2) by decide +kernel] at d3
  rw [show chk k4 = (0, 0) by decide +kernel] at d4
  rw [show chk k5 = (192, 0) by decide +kernel] at d5
  rw [show chk (sq.take 2) = (190, 0) by decide +kernel] at d6
  have c2 := Lib.hid d2; have c3 := Lib.hid d3; have c4 := Lib.hid d4; have c5 := Lib.hid d5; have c6 := Lib.hid d6
  have n1 := fun v w h => normal_any v sq.reverse w h (by decide)
  unfold NormEnd at n1
  rw [show decide (signR sq.reverse ≠ 0) = true by rw [sign_sqr]; rfl] at n1
  have nn := Lib.hid n1
  have e8 := fun v1 v2 w h g => sameR_any v1 v2 sq (frm sq.reverse 2) w h g (by decide) (by rw [frm_len]; decide)
  rw [show sameR sq (frm sq.reverse 2) = true by decide +kernel] at e8
  have e9 := fun v1 v2 w h g => sameR_any v1 v2 sq (sq.take 3) w h g (by decide) (by decide)
  rw [show sameR sq (sq.take 3) = false by decide +kernel] at e9
  have s8 := Lib.hid e8; have s9 := Lib.hid e9
  have hfl := fld_err 0 0
  clear d2 d3 d4 d5 d6 n1 e8 e9
  go_enter Try.func10, Try.ntmps10
  go_upto_region 2 with (first
    | (go_at_call 32; refine (square_sl _).mono ?_; rintro e wn ⟨b1, rfl, hs1, ht1, hu1, hk⟩; replace K := kp_trans K hk; clear hk)
    | (go_at_call 21; refine (from_rd _ sq _ _ hs1 (by decide)).mono ?_; rintro e wn ⟨v1, rfl, ho, hk⟩; replace K := kp_trans K hk; clear hk; have RF := Lib.hid (show RdC wn v1 k1 by rw [hk1] at ho; exact ho.rdc (by decide)); clear ho)
    | (go_at_call 17; refine (at_any _ _ _).mono ?_; rintro e wn ⟨rfl, hk⟩; (try replace RF := Lib.hid (RF.out.kp hk)); replace K := kp_trans K hk; clear hk)
    | (go_at_call 25; refine (same2_self _ _ k1 _ (RF.out.kp (kp_alloc (kp_refl _) _)) ((OwnP.lit _ k1 _ rfl (by decide)).rdc (by decide)) (by decide)).mono ?_; rintro e wn ⟨rfl, hk⟩; replace K := kp_trans (kp_alloc K _) hk; clear hk))
  go_upto_region 3 with (first
    | (go_at_call 32; refine (square_sl _).mono ?_; rintro e wn ⟨b2, rfl, hs2, ht2, hu2, hk⟩; replace K := kp_trans K hk; clear hk)
    | (go_at_call 17; refine (at_any _ _ _).mono ?_; rintro e wn ⟨rfl, hk⟩; replace K := kp_trans K hk; clear hk)
    | (go_at_call 12; have M4 := M3; refine (c6.out _ _ ht2.c).mono ?_; rintro e wn ⟨rfl, hk⟩; replace K := kp_trans K hk; clear hk)
    | (go_at_call 12; have M3 := M2; refine (c3.out _ _ ((OwnP.lit _ k3 _ rfl (by decide)).rdc (by decide))).mono ?_; rintro e wn ⟨rfl, hk⟩; replace K := kp_trans (kp_alloc K _) hk; clear hk)
    | (go_at_call 12; refine (c2.out _ _ ((OwnP.lit _ k2 _ rfl (by decide)).rdc (by decide))).mono ?_; rintro e wn ⟨rfl, hk⟩; replace K := kp_trans (kp_alloc K _) hk; clear hk; have M2 := trivial))
  go_upto_region 4 with (first
    | (go_at_call 17; refine (at_any _ _ _).mono ?_; rintro e wn ⟨rfl, hk⟩; replace K := kp_trans K hk; clear hk)
    | (go_at_call 12; have M6 := M5; refine (c5.out _ _ ((OwnP.lit _ k5 _ rfl (by decide)).rdc (by decide))).mono ?_; rintro e wn ⟨rfl, hk⟩; replace K := kp_trans (kp_alloc K _) hk; clear hk)
    | (go_at_call 12; refine (c4.out _ _ ((OwnP.lit _ k4 _ rfl (by decide)).rdc (by decide))).mono ?_; rintro e wn ⟨rfl, hk⟩; replace K := kp_trans (kp_alloc K _) hk; clear hk; have M5 := trivial))
  go_upto_region 5 with (first
    | (go_at_call 32; refine (square_sl _).mono ?_; rintro e wn ⟨b3, rfl, hs3, ht3, hu3, hk⟩; replace K := kp_trans K hk; clear hk)
    | (go_at_call 20; refine (turned_any _ sq _ hs3.c (by decide)).mono ?_; rintro e wn ⟨v3, rfl, ho, hk⟩; replace K := kp_trans K hk; clear hk; have RT := Lib.hid (ho.rdl (by decide)); clear ho)
    | (go_at_call 22; refine (nn.out _ _ RT.out).mono ?_; rintro e wn ⟨v4, rfl, ho, hk⟩; replace K := kp_trans K hk; clear hk; have RN := Lib.hid (show RdC wn v4 sq by rw [hk7] at ho; exact ho.rdc (by decide)); clear ho))
  go_wp2_with (first
    | (go_at_call 14; refine (awake_any _).mono ?_; rintro e wn ⟨rfl, hk⟩; replace RN := Lib.hid (RN.out.kp hk); replace K := kp_trans K hk; clear hk)
    | (go_at_call 32; have M14 := M13; refine (square_sl _).mono ?_; rintro e wn ⟨b8, rfl, hs8, ht8, hu8, hk⟩; replace hs7 := hs7.kp hk; replace K := kp_trans K hk; clear hk)
    | (go_at_call 32; have M13 := M12; refine (square_sl _).mono ?_; rintro e wn ⟨b7, rfl, hs7, ht7, hu7, hk⟩; replace K := kp_trans K hk; clear hk)
    | (go_at_call 32; have M12 := M11; refine (square_sl _).mono ?_; rintro e wn ⟨b6, rfl, hs6, ht6, hu6, hk⟩; replace hs5 := hs5.kp hk; replace K := kp_trans K hk; have N6 := trivial; clear hk)
    | (go_at_call 32; have M11 := M10; refine (square_sl _).mono ?_; rintro e wn ⟨b5, rfl, hs5, ht5, hu5, hk⟩; replace K := kp_trans K hk; clear hk)
    | (go_at_call 32; refine (square_sl _).mono ?_; rintro e wn ⟨b4, rfl, hs4, ht4, hu4, hk⟩; replace RN := Lib.hid (RN.out.kp hk); replace K := kp_trans K hk; clear hk)
    | (go_at_call 25; refine (same2_self _ _ sq _ RN.out hs4.c (by decide)).mono ?_; rintro e wn ⟨rfl, hk⟩; replace K := kp_trans K hk; clear hk; have M10 := trivial)
    | (go_at_call 20; refine (turned_any _ sq _ hs6.c (by decide)).mono ?_; rintro e wn ⟨v5, rfl, ho, hk⟩; have RT := Lib.hid (ho.rdl (by decide)); replace hs5 := hs5.kp hk; replace K := kp_trans K hk; clear hk ho)
    | (go_at_call 21; refine (from_rd _ sq.reverse _ _ RT.out (by decide)).mono ?_; rintro e wn ⟨v6, rfl, ho, hk⟩; have RG := Lib.hid (ho.rdl (by rw [frm_len]; decide)); replace hs5 := hs5.kp hk; replace K := kp_trans K hk; clear hk ho)
    | (go_at_call 29; have M15 := M14; refine (s9.out _ _ _ hs7 hu8).mono ?_; rintro e wn ⟨rfl, hk⟩; replace K := kp_trans K hk; clear hk)
    | (go_at_call 29; refine (s8.out _ _ _ hs5 RG.out).mono ?_; rintro e wn ⟨rfl, hk⟩; have M12 := trivial; replace K := kp_trans K hk; clear hk))
  go_ret
  exact ⟨rfl, K⟩
end Go.Proofs.Ytcpbemoiodbliaa
