/- The walk of RingTurns. -/
import Derived.Test.YtcpbemoiodbliaaRG16
import Derived.Test.YtcpbemoiodbliaaMP
import Derived.Test.YtcpbemoiodbliaaA
import Derived.Test.YtcpbemoiodbliaaCM
namespace Go.Proofs.Ytcpbemoiodbliaa
open Go.RowKit Go.Proofs.Geo
/-- A call has handed back a slice of its own, in plain sight. -/
def SlEnd (w : World) (n : Nat) (l : List Pt) (e : Ending) (w' : World) : Prop := ∃ x c, e = .returned (.slice x n c) ∧ RdL w' (.slice x n c) l ∧ Kp w w'
theorem own_sl {w : World} {l : List Pt} {n : Nat} (hn : l.length = n) (hl : n ≤ 10000) {e : Ending} {w' : World} (h : OwnEnd w l e w') : SlEnd w n l e w' := by
  obtain ⟨v, he, ho, hk⟩ := h
  obtain ⟨hr, x, c, rfl, hc⟩ := ho.rdl (by omega)
  subst hn
  exact ⟨x, c, he, ⟨hr, x, c, rfl, hc⟩, hk⟩
def NmEnd (w : World) (n : Nat) (l : List Pt) (b : Bool) (e : Ending) (w' : World) : Prop := ∃ x c, e = .returned (.tuple #[.slice x n c, .bool b]) ∧ RdL w' (.slice x n c) l ∧ Kp w w'
theorem norm_sl {w : World} {l m : List Pt} {n : Nat} {b : Bool} (hn : normR l = m) (hm : m.length = n) (hl : n ≤ 10000) (hb : decide (signR l ≠ 0) = b) {e : Ending} {w' : World} (h : NormEnd w l e w') : NmEnd w n m b e w' := by
  obtain ⟨v, he, ho, hk⟩ := h
  rw [hn] at ho
  obtain ⟨hr, x, c, rfl, hc⟩ := ho.rdl (by omega)
  subst hm hb
  exact ⟨x, c, he, ⟨hr, x, c, rfl, hc⟩, hk⟩
theorem chk_zero {l : List Pt} (h : okR l = true) : (chk l).1 = 0 := of_decide_eq_true h
theorem chk_ne {l : List Pt} (h : okR l = false) : (chk l).1 ≠ 0 := of_decide_eq_false h
set_option linter.unusedVariables false
set_option maxHeartbeats 8000000 in
set_option maxRecDepth 100000 in
theorem ringTurns_walk (w : World) (a0 : Option Addr) (len0 cap0 : Nat) (hA0 : ∃ l : List Pt, len0 = l.length ∧ RdC w (.slice a0 len0 cap0) l) (hC0 : len0 ≤ cap0) (ix : Int) : Calls Try.prog 8 #[.slice a0 len0 cap0, .int .i64 ix] w fun e w' => e = .returned (.bool true) ∧ Kp w w' := by
  obtain ⟨l, e0, R0⟩ := hA0
  have RL : Hid (RdL w (.slice a0 len0 cap0) l) := Lib.hid ⟨R0, a0, cap0, by rw [← e0], by omega⟩
  have HE0 := Lib.hid e0
  have K : Kp w w := kp_refl _
  clear R0 hC0
  by_cases b0 : 210 < len0
  · have t0 : decide (210 < len0) = true := decide_eq_true b0
    clear e0
    go_enter Try.func8, Try.ntmps8
    go_wp2_with (first
      | (go_at_call 14; (with_reducible refine (awake_any _).mono ?_); rintro e wn ⟨rfl, hk⟩; (try replace RL := Lib.hid (RL.out.kp hk)); (try replace RA := Lib.hid (RA.out.kp hk)); (try replace RB := Lib.hid (RB.out.kp hk)); (try replace RT := Lib.hid (RT.out.kp hk)); (try replace RN := Lib.hid (RN.out.kp hk)); (try replace RX := Lib.hid (RX.out.kp hk)); (try replace RY := Lib.hid (RY.out.kp hk)); (try replace RZ := Lib.hid (RZ.out.kp hk)); replace K := kp_trans K hk; clear hk)
      | (go_at_call 19; refine (big_any _ _ _ _).mono ?_; rintro e wn ⟨rfl, hk⟩; rw [t0]; (try replace RL := Lib.hid (RL.out.kp hk)); (try replace RA := Lib.hid (RA.out.kp hk)); (try replace RB := Lib.hid (RB.out.kp hk)); (try replace RT := Lib.hid (RT.out.kp hk)); (try replace RN := Lib.hid (RN.out.kp hk)); (try replace RX := Lib.hid (RX.out.kp hk)); (try replace RY := Lib.hid (RY.out.kp hk)); (try replace RZ := Lib.hid (RZ.out.kp hk)); replace K := kp_trans K hk; clear hk))
    go_ret
    exact ⟨rfl, K⟩
  have t0 : decide (210 < len0) = false := decide_eq_false b0
  have g0 : l.length ≤ 10000 := by omega
  have gr : l.reverse.length ≤ 10000 := by simp; omega
  have gf : (frm l ix).length ≤ 10000 := by rw [frm_len]; omega
  have cl := fun v w h => check_any v l w h (by omega)
  have ca := fun v w h => check_any v (frm l ix) w h (by omega)
  have cb := fun v w h => check_any v l.reverse w h (by omega)
  have FR : Hid (∀ v w, RdL w v l → Calls Try.prog 21 #[v, .int .i64 ix] w (SlEnd w len0 (frm l ix))) := Lib.hid (fun v w (h : RdL w v l) => (from_rd v l ix w h g0).mono fun e w' h => own_sl (n := len0) (by rw [frm_len, e0]) (by omega) h)
  have TU : Hid (∀ v w, RdC w v l → Calls Try.prog 20 #[v] w (SlEnd w len0 l.reverse)) := Lib.hid (fun v w (h : RdC w v l) => (turned_any v l w h g0).mono fun e w' h => own_sl (n := len0) (by simp [e0]) (by omega) h)
  have TB : Hid (∀ v w, RdC w v l.reverse → Calls Try.prog 20 #[v] w (SlEnd w len0 l)) := Lib.hid (fun v w (h : RdC w v l.reverse) => (turned_any v l.reverse w h gr).mono fun e w' h => own_sl (n := len0) (l := l) (by simp [e0]) (by omega) (by rwa [List.reverse_reverse] at h))
  have SS := Lib.hid (fun v1 v2 w (h : RdC w v1 l) (g : RdC w v2 l) => same2_self v1 v2 l w h g (by omega))
  cases ok : okR l
  · have oa : okR (frm l ix) = false := by rw [okR_frm]; exact ok
    have ob : okR l.reverse = false := by rw [okR_rev]; exact ok
    have z1 := chk_ne ok; have z2 := chk_ne oa; have z3 := chk_ne ob
    have sl := fun v w h => ringSign_of check_any v l w h (by omega)
    rw [signR_not ok] at sl
    have NL : Hid (∀ v w, RdL w v l → Calls Try.prog 22 #[v] w (NmEnd w 0 [] false)) := Lib.hid (fun v w (h : RdL w v l) => (normal_any v l w h g0).mono fun e w' h => norm_sl (n := 0) (m := []) (b := false) (norm_not ok) rfl (by omega) (by rw [signR_not ok]; rfl) h)
    have ll := fun v1 v2 w (h : RdL w v1 l) (g : RdL w v2 l) => sameR_any v1 v2 l l w h g g0 g0
    have hll : sameR l l = false := by unfold sameR; rw [signR_not ok]; rfl
    rw [hll] at ll
    have SL := Lib.hid sl; have LL := Lib.hid ll
    generalize (chk l).1 = e at *
    generalize (chk l).2 = q at *
    generalize (chk (frm l ix)).1 = ea at *
    generalize (chk (frm l ix)).2 = qa at *
    generalize (chk l.reverse).1 = eb at *
    generalize (chk l.reverse).2 = qb at *
    have hf1 := fld_err e q
    have hf2 := fld_err ea qa
    have hf3 := fld_err eb qb
    have te : (e == 0) = false := by simpa using z1
    have tea : (ea == 0) = false := by simpa using z2
    have teb : (eb == 0) = false := by simpa using z3
    have CL := Lib.hid cl; have CA := Lib.hid ca; have CB := Lib.hid cb
    clear cl ca cb sl ll hll z1 z2 z3 g0 gr gf e0 ok oa ob
    go_enter Try.func8, Try.ntmps8
    go_wp2_with (first
      | (go_at_call 14; (with_reducible refine (awake_any _).mono ?_); rintro e wn ⟨rfl, hk⟩; (try replace RL := Lib.hid (RL.out.kp hk)); (try replace RA := Lib.hid (RA.out.kp hk)); (try replace RB := Lib.hid (RB.out.kp hk)); (try replace RT := Lib.hid (RT.out.kp hk)); (try replace RN := Lib.hid (RN.out.kp hk)); (try replace RX := Lib.hid (RX.out.kp hk)); (try replace RY := Lib.hid (RY.out.kp hk)); (try replace RZ := Lib.hid (RZ.out.kp hk)); replace K := kp_trans K hk; clear hk)
      | (go_at_call 19; refine (big_any _ _ _ _).mono ?_; rintro e wn ⟨rfl, hk⟩; rw [t0]; (try replace RL := Lib.hid (RL.out.kp hk)); (try replace RA := Lib.hid (RA.out.kp hk)); (try replace RB := Lib.hid (RB.out.kp hk)); (try replace RT := Lib.hid (RT.out.kp hk)); (try replace RN := Lib.hid (RN.out.kp hk)); (try replace RX := Lib.hid (RX.out.kp hk)); (try replace RY := Lib.hid (RY.out.kp hk)); (try replace RZ := Lib.hid (RZ.out.kp hk)); replace K := kp_trans K hk; clear hk)
      | (go_at_call 12; (with_reducible refine (CL.out _ _ RL.out.c).mono ?_); rintro e wn ⟨rfl, hk⟩; (try replace RL := Lib.hid (RL.out.kp hk)); (try replace RA := Lib.hid (RA.out.kp hk)); (try replace RB := Lib.hid (RB.out.kp hk)); (try replace RT := Lib.hid (RT.out.kp hk)); (try replace RN := Lib.hid (RN.out.kp hk)); (try replace RX := Lib.hid (RX.out.kp hk)); (try replace RY := Lib.hid (RY.out.kp hk)); (try replace RZ := Lib.hid (RZ.out.kp hk)); replace K := kp_trans K hk; clear hk)
      | (go_at_call 12; (with_reducible refine (CA.out _ _ RA.out.c).mono ?_); rintro e wn ⟨rfl, hk⟩; (try replace RL := Lib.hid (RL.out.kp hk)); (try replace RA := Lib.hid (RA.out.kp hk)); (try replace RB := Lib.hid (RB.out.kp hk)); (try replace RT := Lib.hid (RT.out.kp hk)); (try replace RN := Lib.hid (RN.out.kp hk)); (try replace RX := Lib.hid (RX.out.kp hk)); (try replace RY := Lib.hid (RY.out.kp hk)); (try replace RZ := Lib.hid (RZ.out.kp hk)); replace K := kp_trans K hk; clear hk)
      | (go_at_call 12; (with_reducible refine (CB.out _ _ RB.out.c).mono ?_); rintro e wn ⟨rfl, hk⟩; (try replace RL := Lib.hid (RL.out.kp hk)); (try replace RA := Lib.hid (RA.out.kp hk)); (try replace RB := Lib.hid (RB.out.kp hk)); (try replace RT := Lib.hid (RT.out.kp hk)); (try replace RN := Lib.hid (RN.out.kp hk)); (try replace RX := Lib.hid (RX.out.kp hk)); (try replace RY := Lib.hid (RY.out.kp hk)); (try replace RZ := Lib.hid (RZ.out.kp hk)); replace K := kp_trans K hk; clear hk)
      | (go_at_call 21; (with_reducible refine (FR.out _ _ RL.out).mono ?_); rintro e wn ⟨xRA, cRA, rfl, hr, hk⟩; (try replace RL := Lib.hid (RL.out.kp hk)); (try replace RA := Lib.hid (RA.out.kp hk)); (try replace RB := Lib.hid (RB.out.kp hk)); (try replace RT := Lib.hid (RT.out.kp hk)); (try replace RN := Lib.hid (RN.out.kp hk)); (try replace RX := Lib.hid (RX.out.kp hk)); (try replace RY := Lib.hid (RY.out.kp hk)); (try replace RZ := Lib.hid (RZ.out.kp hk)); replace K := kp_trans K hk; clear hk; have RA := Lib.hid hr; clear hr)
      | (go_at_call 20; (with_reducible refine (TU.out _ _ RL.out.c).mono ?_); rintro e wn ⟨xRB, cRB, rfl, hr, hk⟩; (try replace RL := Lib.hid (RL.out.kp hk)); (try replace RA := Lib.hid (RA.out.kp hk)); (try replace RB := Lib.hid (RB.out.kp hk)); (try replace RT := Lib.hid (RT.out.kp hk)); (try replace RN := Lib.hid (RN.out.kp hk)); (try replace RX := Lib.hid (RX.out.kp hk)); (try replace RY := Lib.hid (RY.out.kp hk)); (try replace RZ := Lib.hid (RZ.out.kp hk)); replace K := kp_trans K hk; clear hk; have RB := Lib.hid hr; clear hr)
      | (go_at_call 20; (with_reducible refine (TB.out _ _ RB.out.c).mono ?_); rintro e wn ⟨xRT, cRT, rfl, hr, hk⟩; (try replace RL := Lib.hid (RL.out.kp hk)); (try replace RA := Lib.hid (RA.out.kp hk)); (try replace RB := Lib.hid (RB.out.kp hk)); (try replace RT := Lib.hid (RT.out.kp hk)); (try replace RN := Lib.hid (RN.out.kp hk)); (try replace RX := Lib.hid (RX.out.kp hk)); (try replace RY := Lib.hid (RY.out.kp hk)); (try replace RZ := Lib.hid (RZ.out.kp hk)); replace K := kp_trans K hk; clear hk; have RT := Lib.hid hr; clear hr)
      | (go_at_call 25; (with_reducible refine (SS.out _ _ _ RT.out.c RL.out.c).mono ?_); rintro e wn ⟨rfl, hk⟩; (try replace RL := Lib.hid (RL.out.kp hk)); (try replace RA := Lib.hid (RA.out.kp hk)); (try replace RB := Lib.hid (RB.out.kp hk)); (try replace RT := Lib.hid (RT.out.kp hk)); (try replace RN := Lib.hid (RN.out.kp hk)); (try replace RX := Lib.hid (RX.out.kp hk)); (try replace RY := Lib.hid (RY.out.kp hk)); (try replace RZ := Lib.hid (RZ.out.kp hk)); replace K := kp_trans K hk; clear hk)
      | (go_at_call 22; (with_reducible refine (NL.out _ _ RL.out).mono ?_); rintro e wn ⟨xRN, cRN, rfl, hr, hk⟩; (try replace RL := Lib.hid (RL.out.kp hk)); (try replace RA := Lib.hid (RA.out.kp hk)); (try replace RB := Lib.hid (RB.out.kp hk)); (try replace RT := Lib.hid (RT.out.kp hk)); (try replace RN := Lib.hid (RN.out.kp hk)); (try replace RX := Lib.hid (RX.out.kp hk)); (try replace RY := Lib.hid (RY.out.kp hk)); (try replace RZ := Lib.hid (RZ.out.kp hk)); replace K := kp_trans K hk; clear hk; have RN := Lib.hid hr; clear hr)
      | (go_at_call 18; (with_reducible refine (SL.out _ _ RL.out.c).mono ?_); rintro e wn ⟨rfl, hk⟩; (try replace RL := Lib.hid (RL.out.kp hk)); (try replace RA := Lib.hid (RA.out.kp hk)); (try replace RB := Lib.hid (RB.out.kp hk)); (try replace RT := Lib.hid (RT.out.kp hk)); (try replace RN := Lib.hid (RN.out.kp hk)); (try replace RX := Lib.hid (RX.out.kp hk)); (try replace RY := Lib.hid (RY.out.kp hk)); (try replace RZ := Lib.hid (RZ.out.kp hk)); replace K := kp_trans K hk; clear hk)
      | (go_at_call 29; (with_reducible refine (LL.out _ _ _ RL.out RL.out).mono ?_); rintro e wn ⟨rfl, hk⟩; (try replace RL := Lib.hid (RL.out.kp hk)); (try replace RA := Lib.hid (RA.out.kp hk)); (try replace RB := Lib.hid (RB.out.kp hk)); (try replace RT := Lib.hid (RT.out.kp hk)); (try replace RN := Lib.hid (RN.out.kp hk)); (try replace RX := Lib.hid (RX.out.kp hk)); (try replace RY := Lib.hid (RY.out.kp hk)); (try replace RZ := Lib.hid (RZ.out.kp hk)); replace K := kp_trans K hk; clear hk))
    go_ret
    exact ⟨rfl, K⟩
  · have oa : okR (frm l ix) = true := by rw [okR_frm]; exact ok
    have ob : okR l.reverse = true := by rw [okR_rev]; exact ok
    have on := ok_norm ok
    have dl : decide (signR l ≠ 0) = true := decide_eq_true (signR_ne ok)
    have da : decide (signR (frm l ix) ≠ 0) = true := decide_eq_true (signR_ne oa)
    have db : decide (signR l.reverse ≠ 0) = true := decide_eq_true (signR_ne ob)
    have dn : decide (signR (normR l) ≠ 0) = true := decide_eq_true (signR_ne on)
    have ln : (normR l).length = len0 := by rw [normR_len ok, e0]
    have NL : Hid (∀ v w, RdL w v l → Calls Try.prog 22 #[v] w (NmEnd w len0 (normR l) true)) := Lib.hid (fun v w (h : RdL w v l) => (normal_any v l w h g0).mono fun e w' h => norm_sl (n := len0) (m := normR l) (b := true) rfl ln (by omega) dl h)
    have NA : Hid (∀ v w, RdL w v (frm l ix) → Calls Try.prog 22 #[v] w (NmEnd w len0 (normR l) true)) := Lib.hid (fun v w (h : RdL w v (frm l ix)) => (normal_any v (frm l ix) w h gf).mono fun e w' h => norm_sl (n := len0) (m := normR l) (b := true) (norm_frm l ix) ln (by omega) da h)
    have NB : Hid (∀ v w, RdL w v l.reverse → Calls Try.prog 22 #[v] w (NmEnd w len0 (normR l) true)) := Lib.hid (fun v w (h : RdL w v l.reverse) => (normal_any v l.reverse w h gr).mono fun e w' h => norm_sl (n := len0) (m := normR l) (b := true) (norm_rev l) ln (by omega) db h)
    have NN : Hid (∀ v w, RdL w v (normR l) → Calls Try.prog 22 #[v] w (NmEnd w len0 (normR l) true)) := Lib.hid (fun v w (h : RdL w v (normR l)) => (normal_any v (normR l) w h (by omega)).mono fun e w' h => norm_sl (n := len0) (m := normR l) (b := true) (norm_norm l) ln (by omega) dn h)
    have SN := Lib.hid (fun v1 v2 w (h : RdC w v1 (normR l)) (g : RdC w v2 (normR l)) => same2_self v1 v2 (normR l) w h g (by omega))
    have sl := fun v w h => ringSign_of check_any v l w h (by omega)
    have sa := fun v w h => ringSign_of check_any v (frm l ix) w h (by omega)
    have sb := fun v w h => ringSign_of check_any v l.reverse w h (by omega)
    have sn := fun v w h => ringSign_of check_any v (normR l) w h (by omega)
    rw [sign_frm] at sa
    rw [sign_rev] at sb
    rw [sign_norm ok] at sn
    have SGN := Lib.hid sn
    have mla := fun v1 v2 w (h : RdL w v1 l) (g : RdL w v2 (frm l ix)) => sameR_any v1 v2 l (frm l ix) w h g g0 gf
    have mab := fun v1 v2 w (h : RdL w v1 (frm l ix)) (g : RdL w v2 l.reverse) => sameR_any v1 v2 (frm l ix) l.reverse w h g gf gr
    have mnl := fun v1 v2 w (h : RdL w v1 (normR l)) (g : RdL w v2 l) => sameR_any v1 v2 (normR l) l w h g (by omega) g0
    have s1 : sameR l (frm l ix) = true := by unfold sameR; rw [dl, da, norm_frm]; simp
    have s2 : sameR (frm l ix) l.reverse = true := by unfold sameR; rw [da, db, norm_frm, norm_rev]; simp
    have s3 : sameR (normR l) l = true := by unfold sameR; rw [dn, dl, norm_norm]; simp
    rw [s1] at mla; rw [s2] at mab; rw [s3] at mnl
    have MLA := Lib.hid mla; have MAB := Lib.hid mab; have MNL := Lib.hid mnl
    have HF : Hid (∀ k, 1 ≤ k → k < len0 → cmpP (pt (normR l) 0) (pt (normR l) k) < 0) := Lib.hid fun k h1 h2 => norm_first ok h1 (by omega)
    rw [chk_zero ok] at cl; rw [chk_zero oa] at ca; rw [chk_zero ob] at cb
    have hpm := signR_pm ok
    have h3 : 0 < len0 := by have := (okR_F.1 ok).n3; omega
    have HLN := Lib.hid ln
    generalize signR l = s at *
    generalize (chk l).2 = q at *
    generalize (chk (frm l ix)).2 = qa at *
    generalize (chk l.reverse).2 = qb at *
    have hf1 := fld_err 0 q
    have hf2 := fld_err 0 qa
    have hf3 := fld_err 0 qb
    have CL := Lib.hid cl; have CA := Lib.hid ca; have CB := Lib.hid cb
    have SL := Lib.hid sl; have SA := Lib.hid sa; have SB := Lib.hid sb
    clear cl ca cb sl sa sb sn mla mab mnl s1 s2 s3 g0 gr gf e0 ok oa ob on dl da db dn ln
    go_enter Try.func8, Try.ntmps8
    go_upto_region 16 with (first
      | (go_at_call 14; (with_reducible refine (awake_any _).mono ?_); rintro e wn ⟨rfl, hk⟩; (try replace RL := Lib.hid (RL.out.kp hk)); (try replace RA := Lib.hid (RA.out.kp hk)); (try replace RB := Lib.hid (RB.out.kp hk)); (try replace RT := Lib.hid (RT.out.kp hk)); (try replace RN := Lib.hid (RN.out.kp hk)); (try replace RX := Lib.hid (RX.out.kp hk)); (try replace RY := Lib.hid (RY.out.kp hk)); (try replace RZ := Lib.hid (RZ.out.kp hk)); replace K := kp_trans K hk; clear hk)
      | (go_at_call 19; refine (big_any _ _ _ _).mono ?_; rintro e wn ⟨rfl, hk⟩; rw [t0]; (try replace RL := Lib.hid (RL.out.kp hk)); (try replace RA := Lib.hid (RA.out.kp hk)); (try replace RB := Lib.hid (RB.out.kp hk)); (try replace RT := Lib.hid (RT.out.kp hk)); (try replace RN := Lib.hid (RN.out.kp hk)); (try replace RX := Lib.hid (RX.out.kp hk)); (try replace RY := Lib.hid (RY.out.kp hk)); (try replace RZ := Lib.hid (RZ.out.kp hk)); replace K := kp_trans K hk; clear hk)
      | (go_at_call 12; (with_reducible refine (CL.out _ _ RL.out.c).mono ?_); rintro e wn ⟨rfl, hk⟩; (try replace RL := Lib.hid (RL.out.kp hk)); (try replace RA := Lib.hid (RA.out.kp hk)); (try replace RB := Lib.hid (RB.out.kp hk)); (try replace RT := Lib.hid (RT.out.kp hk)); (try replace RN := Lib.hid (RN.out.kp hk)); (try replace RX := Lib.hid (RX.out.kp hk)); (try replace RY := Lib.hid (RY.out.kp hk)); (try replace RZ := Lib.hid (RZ.out.kp hk)); replace K := kp_trans K hk; clear hk)
      | (go_at_call 12; (with_reducible refine (CA.out _ _ RA.out.c).mono ?_); rintro e wn ⟨rfl, hk⟩; (try replace RL := Lib.hid (RL.out.kp hk)); (try replace RA := Lib.hid (RA.out.kp hk)); (try replace RB := Lib.hid (RB.out.kp hk)); (try replace RT := Lib.hid (RT.out.kp hk)); (try replace RN := Lib.hid (RN.out.kp hk)); (try replace RX := Lib.hid (RX.out.kp hk)); (try replace RY := Lib.hid (RY.out.kp hk)); (try replace RZ := Lib.hid (RZ.out.kp hk)); replace K := kp_trans K hk; clear hk)
      | (go_at_call 12; (with_reducible refine (CB.out _ _ RB.out.c).mono ?_); rintro e wn ⟨rfl, hk⟩; (try replace RL := Lib.hid (RL.out.kp hk)); (try replace RA := Lib.hid (RA.out.kp hk)); (try replace RB := Lib.hid (RB.out.kp hk)); (try replace RT := Lib.hid (RT.out.kp hk)); (try replace RN := Lib.hid (RN.out.kp hk)); (try replace RX := Lib.hid (RX.out.kp hk)); (try replace RY := Lib.hid (RY.out.kp hk)); (try replace RZ := Lib.hid (RZ.out.kp hk)); replace K := kp_trans K hk; clear hk)
      | (go_at_call 21; (with_reducible refine (FR.out _ _ RL.out).mono ?_); rintro e wn ⟨xRA, cRA, rfl, hr, hk⟩; (try replace RL := Lib.hid (RL.out.kp hk)); (try replace RA := Lib.hid (RA.out.kp hk)); (try replace RB := Lib.hid (RB.out.kp hk)); (try replace RT := Lib.hid (RT.out.kp hk)); (try replace RN := Lib.hid (RN.out.kp hk)); (try replace RX := Lib.hid (RX.out.kp hk)); (try replace RY := Lib.hid (RY.out.kp hk)); (try replace RZ := Lib.hid (RZ.out.kp hk)); replace K := kp_trans K hk; clear hk; have RA := Lib.hid hr; clear hr)
      | (go_at_call 20; (with_reducible refine (TU.out _ _ RL.out.c).mono ?_); rintro e wn ⟨xRB, cRB, rfl, hr, hk⟩; (try replace RL := Lib.hid (RL.out.kp hk)); (try replace RA := Lib.hid (RA.out.kp hk)); (try replace RB := Lib.hid (RB.out.kp hk)); (try replace RT := Lib.hid (RT.out.kp hk)); (try replace RN := Lib.hid (RN.out.kp hk)); (try replace RX := Lib.hid (RX.out.kp hk)); (try replace RY := Lib.hid (RY.out.kp hk)); (try replace RZ := Lib.hid (RZ.out.kp hk)); replace K := kp_trans K hk; clear hk; have RB := Lib.hid hr; clear hr)
      | (go_at_call 20; (with_reducible refine (TB.out _ _ RB.out.c).mono ?_); rintro e wn ⟨xRT, cRT, rfl, hr, hk⟩; (try replace RL := Lib.hid (RL.out.kp hk)); (try replace RA := Lib.hid (RA.out.kp hk)); (try replace RB := Lib.hid (RB.out.kp hk)); (try replace RT := Lib.hid (RT.out.kp hk)); (try replace RN := Lib.hid (RN.out.kp hk)); (try replace RX := Lib.hid (RX.out.kp hk)); (try replace RY := Lib.hid (RY.out.kp hk)); (try replace RZ := Lib.hid (RZ.out.kp hk)); replace K := kp_trans K hk; clear hk; have RT := Lib.hid hr; clear hr)
      | (go_at_call 25; (with_reducible refine (SS.out _ _ _ RT.out.c RL.out.c).mono ?_); rintro e wn ⟨rfl, hk⟩; (try replace RL := Lib.hid (RL.out.kp hk)); (try replace RA := Lib.hid (RA.out.kp hk)); (try replace RB := Lib.hid (RB.out.kp hk)); (try replace RT := Lib.hid (RT.out.kp hk)); (try replace RN := Lib.hid (RN.out.kp hk)); (try replace RX := Lib.hid (RX.out.kp hk)); (try replace RY := Lib.hid (RY.out.kp hk)); (try replace RZ := Lib.hid (RZ.out.kp hk)); replace K := kp_trans K hk; clear hk)
      | (go_at_call 22; (with_reducible refine (NL.out _ _ RL.out).mono ?_); rintro e wn ⟨xRN, cRN, rfl, hr, hk⟩; (try replace RL := Lib.hid (RL.out.kp hk)); (try replace RA := Lib.hid (RA.out.kp hk)); (try replace RB := Lib.hid (RB.out.kp hk)); (try replace RT := Lib.hid (RT.out.kp hk)); (try replace RN := Lib.hid (RN.out.kp hk)); (try replace RX := Lib.hid (RX.out.kp hk)); (try replace RY := Lib.hid (RY.out.kp hk)); (try replace RZ := Lib.hid (RZ.out.kp hk)); replace K := kp_trans K hk; clear hk; have RN := Lib.hid hr; clear hr)
      | (go_at_call 22; (with_reducible refine (NA.out _ _ RA.out).mono ?_); rintro e wn ⟨xRX, cRX, rfl, hr, hk⟩; (try replace RL := Lib.hid (RL.out.kp hk)); (try replace RA := Lib.hid (RA.out.kp hk)); (try replace RB := Lib.hid (RB.out.kp hk)); (try replace RT := Lib.hid (RT.out.kp hk)); (try replace RN := Lib.hid (RN.out.kp hk)); (try replace RX := Lib.hid (RX.out.kp hk)); (try replace RY := Lib.hid (RY.out.kp hk)); (try replace RZ := Lib.hid (RZ.out.kp hk)); replace K := kp_trans K hk; clear hk; have RX := Lib.hid hr; clear hr)
      | (go_at_call 22; (with_reducible refine (NB.out _ _ RB.out).mono ?_); rintro e wn ⟨xRY, cRY, rfl, hr, hk⟩; (try replace RL := Lib.hid (RL.out.kp hk)); (try replace RA := Lib.hid (RA.out.kp hk)); (try replace RB := Lib.hid (RB.out.kp hk)); (try replace RT := Lib.hid (RT.out.kp hk)); (try replace RN := Lib.hid (RN.out.kp hk)); (try replace RX := Lib.hid (RX.out.kp hk)); (try replace RY := Lib.hid (RY.out.kp hk)); (try replace RZ := Lib.hid (RZ.out.kp hk)); replace K := kp_trans K hk; clear hk; have RY := Lib.hid hr; clear hr)
      | (go_at_call 22; (with_reducible refine (NN.out _ _ RN.out).mono ?_); rintro e wn ⟨xRZ, cRZ, rfl, hr, hk⟩; (try replace RL := Lib.hid (RL.out.kp hk)); (try replace RA := Lib.hid (RA.out.kp hk)); (try replace RB := Lib.hid (RB.out.kp hk)); (try replace RT := Lib.hid (RT.out.kp hk)); (try replace RN := Lib.hid (RN.out.kp hk)); (try replace RX := Lib.hid (RX.out.kp hk)); (try replace RY := Lib.hid (RY.out.kp hk)); (try replace RZ := Lib.hid (RZ.out.kp hk)); replace K := kp_trans K hk; clear hk; have RZ := Lib.hid hr; clear hr)
      | (go_at_call 25; (with_reducible refine (SN.out _ _ _ RX.out.c RN.out.c).mono ?_); rintro e wn ⟨rfl, hk⟩; (try replace RL := Lib.hid (RL.out.kp hk)); (try replace RA := Lib.hid (RA.out.kp hk)); (try replace RB := Lib.hid (RB.out.kp hk)); (try replace RT := Lib.hid (RT.out.kp hk)); (try replace RN := Lib.hid (RN.out.kp hk)); (try replace RX := Lib.hid (RX.out.kp hk)); (try replace RY := Lib.hid (RY.out.kp hk)); (try replace RZ := Lib.hid (RZ.out.kp hk)); replace K := kp_trans K hk; clear hk)
      | (go_at_call 25; (with_reducible refine (SN.out _ _ _ RY.out.c RN.out.c).mono ?_); rintro e wn ⟨rfl, hk⟩; (try replace RL := Lib.hid (RL.out.kp hk)); (try replace RA := Lib.hid (RA.out.kp hk)); (try replace RB := Lib.hid (RB.out.kp hk)); (try replace RT := Lib.hid (RT.out.kp hk)); (try replace RN := Lib.hid (RN.out.kp hk)); (try replace RX := Lib.hid (RX.out.kp hk)); (try replace RY := Lib.hid (RY.out.kp hk)); (try replace RZ := Lib.hid (RZ.out.kp hk)); replace K := kp_trans K hk; clear hk)
      | (go_at_call 25; (with_reducible refine (SN.out _ _ _ RZ.out.c RN.out.c).mono ?_); rintro e wn ⟨rfl, hk⟩; (try replace RL := Lib.hid (RL.out.kp hk)); (try replace RA := Lib.hid (RA.out.kp hk)); (try replace RB := Lib.hid (RB.out.kp hk)); (try replace RT := Lib.hid (RT.out.kp hk)); (try replace RN := Lib.hid (RN.out.kp hk)); (try replace RX := Lib.hid (RX.out.kp hk)); (try replace RY := Lib.hid (RY.out.kp hk)); (try replace RZ := Lib.hid (RZ.out.kp hk)); replace K := kp_trans K hk; clear hk)
      | (go_at_call 18; (with_reducible refine (SGN.out _ _ RN.out.c).mono ?_); rintro e wn ⟨rfl, hk⟩; (try replace RL := Lib.hid (RL.out.kp hk)); (try replace RA := Lib.hid (RA.out.kp hk)); (try replace RB := Lib.hid (RB.out.kp hk)); (try replace RT := Lib.hid (RT.out.kp hk)); (try replace RN := Lib.hid (RN.out.kp hk)); (try replace RX := Lib.hid (RX.out.kp hk)); (try replace RY := Lib.hid (RY.out.kp hk)); (try replace RZ := Lib.hid (RZ.out.kp hk)); replace K := kp_trans K hk; clear hk))
    obtain ⟨_, ⟨_, hn⟩ | ⟨bn, on, cn, hv, hpn⟩⟩ := RN.out.1.rd (by intro e; have := HLN.out; rw [e] at this; simp at this; omega)
    · exact absurd hn (by intro e; have := HLN.out; rw [e] at this; simp at this; omega)
    rw [HLN.out] at hv
    injection hv with v1 v2 v3
    subst v1 v3
    have HPN := Lib.hid hpn
    go_wp2_with fail
    go_loopw [17] (fun s wr => ∃ k : Nat, 1 ≤ k ∧ k ≤ len0 ∧ s = .int .i64 k ∧ Kp wn wr) (fun s _ => len0 - (intOf s).toNat)
    case atStart => exact ⟨1, by omega, by omega, rfl, kp_refl _⟩
    case round =>
      obtain ⟨k, hk1, hk2, rfl, hkp⟩ := hrel
      have HK := Lib.hid hkp
      by_cases hlt : k < len0
      · obtain ⟨p0, p1⟩ := pt_lt (HPN.out.kp hkp) (show 0 < (normR l).length by rw [HLN.out]; exact h3)
        obtain ⟨q0, q1⟩ := pt_lt (HPN.out.kp hkp) (show k < (normR l).length by rw [HLN.out]; exact hlt)
        have hc := HF.out k hk1 hlt
        have cc := fun W => compare_any (pt (normR l) 0).1 (pt (normR l) 0).2 (pt (normR l) k).1 (pt (normR l) k).2 W
        generalize pt (normR l) 0 = P at *
        generalize pt (normR l) k = Q at *
        obtain ⟨x0, y0⟩ := P
        obtain ⟨x, y⟩ := Q
        rw [Nat.zero_mul, Nat.add_zero] at p0 p1
        dsimp only at p0 p1 q0 q1 cc
        generalize cmpP (x0, y0) (x, y) = C at *
        have CC := Lib.hid cc
        have t1 : decide (0 ≤ C) = false := decide_eq_false (by omega)
        have lb : bn < wr.heap.size := cell_lt q0
        have c1 : (0 : Int) ≤ (k : Int) := by omega
        have c2 : (k : Int) < (len0 : Int) := by omega
        have c3 : (0 : Int) < (len0 : Int) := by omega
        have K2 : Kp wr wr := kp_refl _
        have hsv := K
        clear K
        have K := K2
        clear hkp hc cc K2
        go_wp2_with fail
        go_region_held3 (fun w' => Kp wr w' ∧ w'.cell? ⟨bn, on, none⟩ = some (.int .i64 x0) ∧ w'.cell? ⟨bn, on + 1, none⟩ = some (.int .i64 y0) ∧ w'.cell? ⟨bn, on + k * 2, none⟩ = some (.int .i64 x) ∧ w'.cell? ⟨bn, on + k * 2 + 1, none⟩ = some (.int .i64 y)) ((first | (with_reducible exact ⟨K, p0, p1, q0, q1⟩) | (with_reducible exact ⟨kp_drew K, cell_d p0, cell_d p1, cell_d q0, cell_d q1⟩)))
          (first
            | (go_at_call 31; refine (CC.out _).mono ?_; rintro e w4 ⟨rfl, hk⟩; replace p0 : w4.cell? ⟨bn, on, none⟩ = some (.int .i64 x0) := kp_cell hk (by first | exact p0 | exact cell_d p0 | exact cell_a p0 _ | exact cell_a (cell_d p0) _); replace p1 : w4.cell? ⟨bn, on + 1, none⟩ = some (.int .i64 y0) := kp_cell hk (by first | exact p1 | exact cell_d p1 | exact cell_a p1 _ | exact cell_a (cell_d p1) _); replace q0 : w4.cell? ⟨bn, on + k * 2, none⟩ = some (.int .i64 x) := kp_cell hk (by first | exact q0 | exact cell_d q0 | exact cell_a q0 _ | exact cell_a (cell_d q0) _); replace q1 : w4.cell? ⟨bn, on + k * 2 + 1, none⟩ = some (.int .i64 y) := kp_cell hk (by first | exact q1 | exact cell_d q1 | exact cell_a q1 _ | exact cell_a (cell_d q1) _); replace K : Kp wr w4 := kp_trans (by first | exact K | exact kp_drew K | exact kp_alloc K _ | exact kp_alloc (kp_drew K) _) hk; replace lb : bn < w4.heap.size := cell_lt q0; clear hk))
        go_wp2_with fail
        go_roundw
        case rel => exact ⟨k + 1, by omega, by omega, by go_num, kp_trans HK.out K⟩
        case measure => simp [intOf]; omega
      · obtain rfl : len0 = k := by omega
        replace RL := Lib.hid (RL.out.kp hkp)
        replace RA := Lib.hid (RA.out.kp hkp)
        replace RB := Lib.hid (RB.out.kp hkp)
        replace RN := Lib.hid (RN.out.kp hkp)
        replace K := kp_trans K hkp
        clear hkp HPN
        rcases hpm with rfl | rfl
        · go_wp2_with (first
            | (go_at_call 18; (with_reducible refine (SL.out _ _ RL.out.c).mono ?_); rintro e wn ⟨rfl, hk⟩; (try replace RL := Lib.hid (RL.out.kp hk)); (try replace RA := Lib.hid (RA.out.kp hk)); (try replace RB := Lib.hid (RB.out.kp hk)); (try replace RT := Lib.hid (RT.out.kp hk)); (try replace RN := Lib.hid (RN.out.kp hk)); (try replace RX := Lib.hid (RX.out.kp hk)); (try replace RY := Lib.hid (RY.out.kp hk)); (try replace RZ := Lib.hid (RZ.out.kp hk)); replace K := kp_trans K hk; clear hk)
            | (go_at_call 18; (with_reducible refine (SA.out _ _ RA.out.c).mono ?_); rintro e wn ⟨rfl, hk⟩; (try replace RL := Lib.hid (RL.out.kp hk)); (try replace RA := Lib.hid (RA.out.kp hk)); (try replace RB := Lib.hid (RB.out.kp hk)); (try replace RT := Lib.hid (RT.out.kp hk)); (try replace RN := Lib.hid (RN.out.kp hk)); (try replace RX := Lib.hid (RX.out.kp hk)); (try replace RY := Lib.hid (RY.out.kp hk)); (try replace RZ := Lib.hid (RZ.out.kp hk)); replace K := kp_trans K hk; clear hk)
            | (go_at_call 18; (with_reducible refine (SB.out _ _ RB.out.c).mono ?_); rintro e wn ⟨rfl, hk⟩; (try replace RL := Lib.hid (RL.out.kp hk)); (try replace RA := Lib.hid (RA.out.kp hk)); (try replace RB := Lib.hid (RB.out.kp hk)); (try replace RT := Lib.hid (RT.out.kp hk)); (try replace RN := Lib.hid (RN.out.kp hk)); (try replace RX := Lib.hid (RX.out.kp hk)); (try replace RY := Lib.hid (RY.out.kp hk)); (try replace RZ := Lib.hid (RZ.out.kp hk)); replace K := kp_trans K hk; clear hk)
            | (go_at_call 29; (with_reducible refine (MLA.out _ _ _ RL.out RA.out).mono ?_); rintro e wn ⟨rfl, hk⟩; (try replace RL := Lib.hid (RL.out.kp hk)); (try replace RA := Lib.hid (RA.out.kp hk)); (try replace RB := Lib.hid (RB.out.kp hk)); (try replace RT := Lib.hid (RT.out.kp hk)); (try replace RN := Lib.hid (RN.out.kp hk)); (try replace RX := Lib.hid (RX.out.kp hk)); (try replace RY := Lib.hid (RY.out.kp hk)); (try replace RZ := Lib.hid (RZ.out.kp hk)); replace K := kp_trans K hk; clear hk)
            | (go_at_call 29; (with_reducible refine (MAB.out _ _ _ RA.out RB.out).mono ?_); rintro e wn ⟨rfl, hk⟩; (try replace RL := Lib.hid (RL.out.kp hk)); (try replace RA := Lib.hid (RA.out.kp hk)); (try replace RB := Lib.hid (RB.out.kp hk)); (try replace RT := Lib.hid (RT.out.kp hk)); (try replace RN := Lib.hid (RN.out.kp hk)); (try replace RX := Lib.hid (RX.out.kp hk)); (try replace RY := Lib.hid (RY.out.kp hk)); (try replace RZ := Lib.hid (RZ.out.kp hk)); replace K := kp_trans K hk; clear hk)
            | (go_at_call 29; (with_reducible refine (MNL.out _ _ _ RN.out RL.out).mono ?_); rintro e wn ⟨rfl, hk⟩; (try replace RL := Lib.hid (RL.out.kp hk)); (try replace RA := Lib.hid (RA.out.kp hk)); (try replace RB := Lib.hid (RB.out.kp hk)); (try replace RT := Lib.hid (RT.out.kp hk)); (try replace RN := Lib.hid (RN.out.kp hk)); (try replace RX := Lib.hid (RX.out.kp hk)); (try replace RY := Lib.hid (RY.out.kp hk)); (try replace RZ := Lib.hid (RZ.out.kp hk)); replace K := kp_trans K hk; clear hk))
          go_ret
          exact ⟨rfl, K⟩
        · go_wp2_with (first
            | (go_at_call 18; (with_reducible refine (SL.out _ _ RL.out.c).mono ?_); rintro e wn ⟨rfl, hk⟩; (try replace RL := Lib.hid (RL.out.kp hk)); (try replace RA := Lib.hid (RA.out.kp hk)); (try replace RB := Lib.hid (RB.out.kp hk)); (try replace RT := Lib.hid (RT.out.kp hk)); (try replace RN := Lib.hid (RN.out.kp hk)); (try replace RX := Lib.hid (RX.out.kp hk)); (try replace RY := Lib.hid (RY.out.kp hk)); (try replace RZ := Lib.hid (RZ.out.kp hk)); replace K := kp_trans K hk; clear hk)
            | (go_at_call 18; (with_reducible refine (SA.out _ _ RA.out.c).mono ?_); rintro e wn ⟨rfl, hk⟩; (try replace RL := Lib.hid (RL.out.kp hk)); (try replace RA := Lib.hid (RA.out.kp hk)); (try replace RB := Lib.hid (RB.out.kp hk)); (try replace RT := Lib.hid (RT.out.kp hk)); (try replace RN := Lib.hid (RN.out.kp hk)); (try replace RX := Lib.hid (RX.out.kp hk)); (try replace RY := Lib.hid (RY.out.kp hk)); (try replace RZ := Lib.hid (RZ.out.kp hk)); replace K := kp_trans K hk; clear hk)
            | (go_at_call 18; (with_reducible refine (SB.out _ _ RB.out.c).mono ?_); rintro e wn ⟨rfl, hk⟩; (try replace RL := Lib.hid (RL.out.kp hk)); (try replace RA := Lib.hid (RA.out.kp hk)); (try replace RB := Lib.hid (RB.out.kp hk)); (try replace RT := Lib.hid (RT.out.kp hk)); (try replace RN := Lib.hid (RN.out.kp hk)); (try replace RX := Lib.hid (RX.out.kp hk)); (try replace RY := Lib.hid (RY.out.kp hk)); (try replace RZ := Lib.hid (RZ.out.kp hk)); replace K := kp_trans K hk; clear hk)
            | (go_at_call 29; (with_reducible refine (MLA.out _ _ _ RL.out RA.out).mono ?_); rintro e wn ⟨rfl, hk⟩; (try replace RL := Lib.hid (RL.out.kp hk)); (try replace RA := Lib.hid (RA.out.kp hk)); (try replace RB := Lib.hid (RB.out.kp hk)); (try replace RT := Lib.hid (RT.out.kp hk)); (try replace RN := Lib.hid (RN.out.kp hk)); (try replace RX := Lib.hid (RX.out.kp hk)); (try replace RY := Lib.hid (RY.out.kp hk)); (try replace RZ := Lib.hid (RZ.out.kp hk)); replace K := kp_trans K hk; clear hk)
            | (go_at_call 29; (with_reducible refine (MAB.out _ _ _ RA.out RB.out).mono ?_); rintro e wn ⟨rfl, hk⟩; (try replace RL := Lib.hid (RL.out.kp hk)); (try replace RA := Lib.hid (RA.out.kp hk)); (try replace RB := Lib.hid (RB.out.kp hk)); (try replace RT := Lib.hid (RT.out.kp hk)); (try replace RN := Lib.hid (RN.out.kp hk)); (try replace RX := Lib.hid (RX.out.kp hk)); (try replace RY := Lib.hid (RY.out.kp hk)); (try replace RZ := Lib.hid (RZ.out.kp hk)); replace K := kp_trans K hk; clear hk)
            | (go_at_call 29; (with_reducible refine (MNL.out _ _ _ RN.out RL.out).mono ?_); rintro e wn ⟨rfl, hk⟩; (try replace RL := Lib.hid (RL.out.kp hk)); (try replace RA := Lib.hid (RA.out.kp hk)); (try replace RB := Lib.hid (RB.out.kp hk)); (try replace RT := Lib.hid (RT.out.kp hk)); (try replace RN := Lib.hid (RN.out.kp hk)); (try replace RX := Lib.hid (RX.out.kp hk)); (try replace RY := Lib.hid (RY.out.kp hk)); (try replace RZ := Lib.hid (RZ.out.kp hk)); replace K := kp_trans K hk; clear hk))
          go_ret
          exact ⟨rfl, K⟩
end Go.Proofs.Ytcpbemoiodbliaa
