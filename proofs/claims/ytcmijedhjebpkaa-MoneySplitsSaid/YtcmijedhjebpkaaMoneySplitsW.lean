/- The walk of MoneySplits. -/
import Derived.Test.YtcmijedhjebpkaaSB
import Derived.Test.YtcmijedhjebpkaaSR
import Derived.Test.YtcmijedhjebpkaaLH
namespace Go.Proofs.Ytcmijedhjebpkaa
open Go.RowKit Go.Proofs.Geo Go.Proofs.Mon
set_option linter.unusedVariables false
/-- Block g bears at least n ints. -/
def XB (g n : Nat) (w : World) : Prop := ∃ cur : Array Value, w.heap[g]? = some (.cells cur 3 (0, 0)) ∧ n ≤ cur.size
theorem XB.cell {g n : Nat} {w : World} (h : XB g n w) {k : Nat} (hk : k < n) : ∃ v, w.cell? ⟨g, k, none⟩ = some v := by
  obtain ⟨cur, h1, h2⟩ := h
  exact ⟨cur[k], by rw [cell_of_row w g k cur _ _ h1]; exact Array.getElem?_eq_getElem (by omega)⟩
theorem XB.froz {g n : Nat} {w : World} (h : XB g n w) (o : Nat) : w.frozen? ⟨g, o, none⟩ = false := by
  obtain ⟨cur, h1, h2⟩ := h
  exact frozen_of_row w g o _ _ h1
theorem XB.set {g n : Nat} {w : World} (h : XB g n w) (i : Nat) (v : Value) : XB g n (w.setCell ⟨g, i, none⟩ v) := by
  obtain ⟨cur, h1, h2⟩ := h
  exact ⟨_, by rw [heap_setCell_same w g _ _ _ _ h1], by simpa using h2⟩
theorem XB.kp {g n : Nat} {w w' : World} (h : XB g n w) (k : Kp w w') : XB g n w' := by
  obtain ⟨cur, h1, h2⟩ := h
  exact ⟨cur, (k.block g (Array.getElem?_eq_some_iff.1 h1).1).trans h1, h2⟩
theorem OwnI.shape {w : World} {B : Nat} {v : Value} {l : List Int} (h : OwnI w B v l) : ∃ a cap, v = .slice a l.length cap ∧ (l.length = 0 ∨ ∃ g, a = some ⟨g, 0, none⟩ ∧ B ≤ g ∧ XB g l.length w) := by
  obtain ⟨h1, ⟨hv, hn⟩ | ⟨g, cap, cur, hv, hb, hg, hc, _, hs, _⟩⟩ := h
  · exact ⟨none, 0, by rw [hv, hn], .inl hn⟩
  · exact ⟨some ⟨g, 0, none⟩, cap, hv, .inr ⟨g, rfl, hb, cur, hg, by omega⟩⟩
theorem OwnI.off {w : World} {B : Nat} {v : Value} {l : List Int} (h : OwnI w B v l) {a : Addr} (ha : a.block < B) (u : Value) : OwnI (w.setCell a u) B v l := by
  obtain ⟨h1, ⟨hv, hn⟩ | ⟨g, cap, cur, hv, hb, hg, rest⟩⟩ := h
  · exact ⟨h1, .inl ⟨hv, hn⟩⟩
  · exact ⟨h1, .inr ⟨g, cap, cur, hv, hb, (Below.heap_setCell w a u g (by omega)).trans hg, rest⟩⟩
set_option maxHeartbeats 16000000 in
set_option maxRecDepth 100000 in
theorem moneySplits_walk (w : World) (t : Int) (a0 : Option Addr) (len0 cap0 : Nat) (hA : ∃ l : List Int, len0 = l.length ∧ RdI w (.slice a0 len0 cap0) l) : Calls Try.prog 3 #[.int .i64 t, .slice a0 len0 cap0] w fun e w' => e = .returned (.bool true) ∧ Kp w w' := by
  obtain ⟨l, e0, R0⟩ := hA
  have HE := Lib.hid e0; clear e0
  have AW := Lib.hid awake_any
  by_cases g0 : len0 ≤ 1100
  · have z3 : ¬ (1100 : Int) < (len0 : Int) := by omega
    obtain ⟨i0, hi, hz0, hz1, hz2⟩ := info_parts infoInt8
    have HI := Lib.hid hi; have HZ0 := Lib.hid hz0; have HZ1 := Lib.hid hz1; have HZ2 := Lib.hid hz2; clear hi hz0 hz1 hz2
    have HG := Lib.hid g0
    have HR := Lib.hid R0
    have HI64 := Lib.hid R0.2.1
    clear R0
    have hl : l.length ≤ 1100 := by have := HE.out; omega
    have hb1 := splitR_len t l hl
    have hb2 := splitR_i64 t l
    have s1 := fun s (w : World) (h : RdI w s l) => split_all t s l w h hl
    have s2 := fun s (w : World) (h : RdI w s l) => rsplit_any t s l w h hl
    have HLL := Lib.hid hl
    obtain ⟨E, hE⟩ : ∃ E, splitE t l = E := ⟨_, rfl⟩
    obtain ⟨R, hR⟩ : ∃ R, splitR t l = R := ⟨_, rfl⟩
    rw [hE, hR] at s1 s2
    rw [hR] at hb1 hb2
    have S1 := Lib.hid s1; have S2 := Lib.hid s2; have B1 := Lib.hid hb1; have B2 := Lib.hid hb2
    have n1 : (E == E) = true := by simp
    clear s1 s2 hb1 hb2 hE hR hl
    have R0 : RdI w (.slice a0 len0 cap0) l := HR.out
    go_enter Try.func3, Try.ntmps3
    go_upto_region 3 with fail
    go_cut [5] (fun s wx => RdI wx s l ∧ Kp w wx)
    case first =>
      have HO0 : Hid (OwnI (w.alloc (.cells #[] 3)) w.heap.size (.slice (some ⟨w.heap.size, 0, none⟩) 0 0) []) := Lib.hid (OwnI.lit w [] #[] rfl (by simp))
      obtain ⟨hl0, hl1, ⟨hv, hn⟩ | ⟨ad, cp, hv, hc⟩⟩ := R0
      · injection hv with q1 q2 q3; subst q1 q2 q3 hn
        go_wp2_with (at_builtin; refine wpList_append_own_none rfl (.tmp 17) (.tmp 18) 22 rfl w.heap.size 3 i0 1 Try.underlying22 HI.out _ _ _ rfl HO0.out rfl ?_)
        go_meet
        exact ⟨HO0.out.rd (by simp) (by simp), kp_alloc (kp_refl _) _⟩
      · injection hv with q1 q2 q3; subst q1 q3; clear q2
        have HC := Lib.hid hc; clear hc
        go_wp2_with (at_builtin; refine wpList_append_own _ rfl (.tmp 17) (.tmp 18) 22 rfl w.heap.size 3 i0 (.int .i64 0) 1 8 Try.underlying22 HI.out HZ0.out HZ1.out HZ2.out rfl (by decide) _ _ _ rfl HO0.out ad _ _ (intsV l) rfl (by rw [intsV_len, Nat.mul_one, ← HE.out]) (cells_kpI HC.out (kp_alloc (kp_refl _) _)) (intsV_one _) (by have := HE.out; have := HG.out; unfold maxLen; (try simp) <;> omega) (by have := HE.out; have := HG.out; (try simp) <;> omega) (Below.size (kp_alloc (kp_refl w) _)) ?_; intro u2 w2 hown hg _)
        have hr : RdI w2 u2 l := by have h := (OwnI.append (l := []) (m := l) (by have h := hown; rw [HE.out] at h; exact h)).rd (by have := HE.out; have := HG.out; simp only [List.nil_append]; omega) (by rw [List.nil_append]; exact hl1); rwa [List.nil_append] at h
        have k2 : Kp w w2 := kp_grown_ownI (kp_alloc (kp_refl w) _) hg HO0.out
        clear hown hg
        go_meet
        exact ⟨hr, k2⟩
    case rest =>
      obtain ⟨hin, KC⟩ := hcut
      have HIN := Lib.hid hin; clear hin
      have HR0 := Lib.hid R0; have HKC := Lib.hid KC
      clear R0 KC
      go_upto_region 5 with (go_at_call 8; refine (S1.out _ _ HIN.out).mono ?_; rintro e w1 ⟨⟨vx, rfl, hox⟩, hk1⟩; have HOX := Lib.hid hox; have HK1 := Lib.hid hk1; clear hox hk1)
      go_upto_region 6 with (go_at_call 9; refine (S2.out _ _ (HR0.out.kp (kp_trans HKC.out HK1.out))).mono ?_; rintro e w2 ⟨⟨vy, rfl, hoy⟩, hk2⟩; have HOY := Lib.hid hoy; have HK2 := Lib.hid hk2; clear hoy hk2)
      have c1 := fun w (k : Kp w2 w) => sameI_any vx vy R R w (((HOX.out.kp HK2.out).kp k).rd (by have := B1.out; omega) B2.out) ((HOY.out.kp k).rd (by have := B1.out; omega) B2.out) (by have := B1.out; omega)
      have c2 := fun w (k : Kp w2 w) => sameI_any _ _ l l w (((HIN.out.kp HK1.out).kp HK2.out).kp k) (((HR0.out.kp (kp_trans HKC.out HK1.out)).kp HK2.out).kp k) (by have := HLL.out; omega)
      rw [decide_eq_true rfl] at c1 c2
      have C1 := Lib.hid c1; have C2 := Lib.hid c2
      clear c1 c2
      have K3 : Kp w2 w2 := kp_refl _
      obtain ⟨ax, capx, hvx, hsx⟩ := (HOX.out.kp HK2.out).shape
      obtain ⟨n, hn⟩ : ∃ n, R.length = n := ⟨_, rfl⟩
      rw [hn] at hvx hsx
      have hnb : n ≤ 1100 := by have := B1.out; omega
      subst hvx
      have HSX := Lib.hid hsx
      clear hsx hn
      go_wp2_with (first
        | (go_at_call 10; (with_reducible refine (C1.out _ K3).mono ?_); rintro e wk ⟨rfl, hk⟩; replace K3 := kp_trans K3 hk; clear hk)
        | (go_at_call 10; (with_reducible refine (C2.out _ K3).mono ?_); rintro e wk ⟨rfl, hk⟩; replace K3 := kp_trans K3 hk; clear hk))
      obtain ⟨w4, hw4⟩ : ∃ x, x = wk := ⟨_, rfl⟩
      have K4 : Kp w2 w4 := by rw [hw4]; exact K3
      rw [← hw4]
      have HK4 := Lib.hid K4
      clear K3 K4 hw4 C1 C2
      go_loopw [10] (fun i wr => ∃ k : Nat, k ≤ n ∧ i = .int .i64 k ∧ Kp wc wr ∧ OwnI wr w1.heap.size vy R ∧ (n = 0 ∨ ∃ g, ax = some ⟨g, 0, none⟩ ∧ wc.heap.size ≤ g ∧ g < w1.heap.size ∧ XB g n wr)) (fun i _ => n - (intOf i).toNat)
      case atStart =>
        refine ⟨0, by omega, rfl, kp_trans (kp_trans HK1.out HK2.out) HK4.out, HOY.out.kp HK4.out, ?_⟩
        rcases HSX.out with h | ⟨g, h1, h2, h3⟩
        · exact .inl h
        · refine .inr ⟨g, h1, h2, ?_, h3.kp HK4.out⟩
          obtain ⟨q1, ⟨q2, q3⟩ | ⟨g', cp', cur', hv', _, hg', _⟩⟩ := HOX.out
          · injection q2 with q4 q5 q6; rw [q4] at h1; cases h1
          · injection hv' with q4 q5 q6
            rw [h1] at q4
            injection q4 with q4
            injection q4 with q4
            rw [q4]
            exact (Array.getElem?_eq_some_iff.1 hg').1
      case round =>
        obtain ⟨k, hk, rfl, hkp, hoy, hx⟩ := hrel
        have HKP := Lib.hid hkp; have HO := Lib.hid hoy
        clear hkp hoy
        by_cases hlt : k < n
        · obtain ⟨g, rfl, hg1, hg2, hxb⟩ := hx.resolve_left (by omega)
          obtain ⟨v, hv⟩ := hxb.cell hlt
          have fv := hxb.froz k
          have lg := cell_lt hv
          have HXB := Lib.hid hxb
          have y1 : (0 : Int) ≤ (k : Int) := by omega
          have y2 : (k : Int) < (n : Int) := by omega
          have wi2 : IntKind.i64.wrap ((k : Int) + 1) = (k : Int) + 1 := IntWalk.i64_in _ (by omega)
          clear hx hxb
          go_wp2_with fail
          exact ⟨⟨k + 1, by omega, by go_num, kp_set HKP.out hg1 _, HO.out.off hg2 _, .inr ⟨g, rfl, hg1, hg2, HXB.out.set _ _⟩⟩, by simp [intOf]; omega⟩
        · have y2 : ¬ (k : Int) < (n : Int) := by omega
          clear hx
          have Q := fun w5 vz (h1 : OwnI w5 wr.heap.size vz R) (h2 : Kp wr w5) => sameI_any vz vy R R w5 (h1.rd (by have := B1.out; omega) B2.out) ((HO.out.kp h2).rd (by have := B1.out; omega) B2.out) (by have := B1.out; omega)
          rw [decide_eq_true rfl] at Q
          have HQ := Lib.hid Q
          clear Q
          go_upto_region 13 with (go_at_call 8; refine (S1.out _ _ (HIN.out.kp HKP.out)).mono ?_; rintro e w5 ⟨⟨vz, rfl, hoz⟩, hk5⟩; have HC := Lib.hid (HQ.out w5 vz hoz hk5); have HK5 := Lib.hid hk5; clear hoz hk5)
          have K6 : Kp wr w5 := HK5.out
          go_wp2_with (first
            | (go_at_call 10; (with_reducible refine HC.out.mono ?_); rintro e wk ⟨rfl, hk⟩; replace K6 := kp_trans K6 hk; clear hk)
            | (go_at_call 7; refine (AW.out _).mono ?_; rintro e wk ⟨rfl, hk⟩; replace K6 := kp_trans K6 hk; clear hk))
          go_ret
          exact ⟨rfl, kp_trans (kp_trans HKC.out HKP.out) K6⟩
  · have z3 : (1100 : Int) < (len0 : Int) := by omega
    have K : Kp w w := kp_refl _
    go_enter Try.func3, Try.ntmps3
    go_wp2_with (go_at_call 7; refine (AW.out _).mono ?_; rintro e wk ⟨rfl, hk⟩; replace K := kp_trans K hk; clear hk)
    go_ret
    exact ⟨rfl, K⟩
end Go.Proofs.Ytcmijedhjebpkaa
