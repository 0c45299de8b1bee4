/- Contracts of the law file's helpers. -/
import Derived.Test.YtcpbemoiodbliaaRG15
import Derived.Test.YtcpbemoiodbliaaMP
namespace Go.Proofs.Ytcpbemoiodbliaa
open Go.RowKit Go.Proofs.Geo
theorem at_any (x y : Int) (w : World) : Calls Try.prog 17 #[.int .i64 x, .int .i64 y] w fun e w' => e = .returned (pv x y) ∧ Kp w w' := by
  go_enter Try.func17, Try.ntmps17
  go_wp2
  refine bodyPost_ret (v := pv x y) (by simp [results, Try.results17, go_sem]) rfl ⟨rfl, ?_⟩
  ((repeat (first | exact (kp_alloc (kp_refl _) _) | exact kp_refl _ | apply kp_alloc | apply kp_drew | apply kp_drewN | refine kp_set ?_ ?_ _)); all_goals (first | exact Nat.le_refl _ | (simp; done) | omega))
theorem big_any (a : Option Addr) (n c : Nat) (w : World) : Calls Try.prog 19 #[.slice a n c] w fun e w' => e = .returned (.bool (decide (210 < n))) ∧ Kp w w' := by
  by_cases h : 210 < n
  · rw [decide_eq_true h]
    go_enter Try.func19, Try.ntmps19
    go_wp2
    go_ret
    exact ⟨by simp; omega, kp_refl _⟩
  · rw [decide_eq_false h]
    go_enter Try.func19, Try.ntmps19
    go_wp2
    go_ret
    exact ⟨by simp; omega, kp_refl _⟩
set_option maxHeartbeats 4000000 in
theorem square_any (w : World) : Calls Try.prog 32 #[] w (OwnEnd w sq) := by
  have K : Kp w w := kp_refl _
  go_enter Try.func32, Try.ntmps32
  go_wp2_with (go_at_call 17; refine (at_any _ _ _).mono ?_; rintro e w1 ⟨rfl, hk⟩; replace K := kp_trans K hk; clear hk)
  go_ret
  exact ⟨_, rfl, OwnP.mono (OwnP.lit _ sq _ rfl (by decide)) (Below.size K), kp_alloc K _⟩
set_option maxHeartbeats 8000000 in
set_option maxRecDepth 100000 in
theorem awake_any (w : World) : Calls Try.prog 14 #[] w fun e w' => e = .returned (.bool true) ∧ Kp w w' := by
  have K : Kp w w := kp_refl _
  have hc1 := fun v w h => check_any v sq w h (by decide)
  have hc2 := fun v w h => check_any v sqX w h (by decide)
  have hs1 := fun v w h => ringSign_of check_any v sq w h (by decide)
  have hs2 := fun v w h => ringSign_of check_any v sq.reverse w h (by decide)
  rw [chk_sq] at hc1; rw [chk_sqX] at hc2; rw [sign_sq] at hs1; rw [sign_sqr] at hs2
  have C1 := Lib.hid hc1; have C2 := Lib.hid hc2; have S1 := Lib.hid hs1; have S2 := Lib.hid hs2
  have hfl := fld_err 0 0
  clear hc1 hc2 hs1 hs2
  go_enter Try.func14, Try.ntmps14
  go_wp2_with (first
    | (go_at_call 32; refine (square_any _).mono ?_; rintro e w1 ⟨v1, rfl, ho, hk⟩; have HV := Lib.hid (ho.rdc (by decide)); replace K := kp_trans K hk; clear ho hk)
    | (go_at_call 12; refine (C1.out _ _ HV.out).mono ?_; rintro e w1 ⟨rfl, hk⟩; replace K := kp_trans K hk; clear hk HV)
    | (go_at_call 18; refine (S1.out _ _ HV.out).mono ?_; rintro e w1 ⟨rfl, hk⟩; replace K := kp_trans K hk; clear hk HV)
    | (go_at_call 20; refine (turned_any _ sq _ HV.out (by decide)).mono ?_; rintro e w1 ⟨v1, rfl, ho, hk⟩; have HT := Lib.hid (ho.rdc (by decide)); replace K := kp_trans K hk; clear ho hk HV)
    | (go_at_call 18; refine (S2.out _ _ HT.out).mono ?_; rintro e w1 ⟨rfl, hk⟩; replace K := kp_trans K hk; clear hk HT)
    | (go_at_call 17; refine (at_any _ _ _).mono ?_; rintro e w1 ⟨rfl, hk⟩; replace K := kp_trans K hk; clear hk)
    | (go_at_call 12; refine (C2.out _ _ ((OwnP.lit _ sqX _ rfl (by decide)).rdc (by decide))).mono ?_; rintro e w1 ⟨rfl, hk⟩; replace K := kp_trans (kp_alloc K _) hk; clear hk))
  go_ret
  exact ⟨rfl, K⟩

theorem over_row (g cap : Nat) (l : List Pt) (S : Nat) (w : World) (hl : l.length ≤ 10000) (h : RowSt w g S l w) :
    Calls Try.prog 28 #[.slice (some ⟨g, 0, none⟩) l.length cap] w fun e w' => (∃ v, e = .returned v) ∧ w.grownBy w' (some g) := by
  obtain ⟨len, hlen⟩ : ∃ len, l.length = len := ⟨_, rfl⟩
  have H := Lib.hid (show ∃ L, L.length = len ∧ RowSt w g S L w from ⟨l, hlen, h⟩)
  rw [hlen] at hl ⊢
  clear hlen h
  go_enter Try.func28, Try.ntmps28
  go_wp2
  go_loopw [2] (fun i wr => ∃ (k : Nat), k ≤ len ∧ i = .int .i64 k ∧ ∃ L, L.length = len ∧ RowSt w g S L wr) (fun i _ => len - (intOf i).toNat)
  case atStart => exact ⟨0, by omega, rfl, H.out⟩
  case round =>
    obtain ⟨k, hk, rfl, L, hL, hr⟩ := hrel
    by_cases hlt : k < len
    · have hR := Lib.hid hr
      have HL := Lib.hid hL
      obtain ⟨c0, c1⟩ := hr.cells k (by omega)
      have f0 := hr.frozen (k * 2)
      have f1 := hr.frozen (k * 2 + 1)
      simp only [Nat.zero_add] at c0 c1
      have lb : g < wr.heap.size := cell_lt c0
      generalize (L[k]'(by omega)).1 = x at c0
      generalize (L[k]'(by omega)).2 = y at c1
      clear hr hL
      go_wp2
      exact ⟨⟨k + 1, by omega, by go_num, _, by rw [List.length_set]; exact HL.out, hR.out.set k (7, 7)⟩, by simp [intOf]; omega⟩
    · have hR := Lib.hid hr
      clear hr hL
      go_wp2
      go_end0
      obtain ⟨_, _, _, _, hg⟩ := hR.out
      exact ⟨⟨_, rfl⟩, hg⟩
set_option maxHeartbeats 1000000 in
theorem over_nil (w : World) : Calls Try.prog 28 #[.slice none 0 0] w fun e w' => (∃ v, e = .returned v) ∧ w = w' := by
  go_enter Try.func28, Try.ntmps28
  go_wp2
  go_loop [2] (fun i => i = .int .i64 0) (fun _ => 0)
  case atStart => rfl
  case round =>
    subst hrel
    go_wp2
    go_end0
    exact ⟨⟨_, rfl⟩, rfl⟩
theorem over_own (B : Nat) (v : Value) (l : List Pt) (w : World) (h : OwnP w B v l) (hl : l.length ≤ 10000) : Calls Try.prog 28 #[v] w fun e w' => (∃ r, e = .returned r) ∧ w.grownBy w' v.ownBlock := by
  rcases row_of_own h with ⟨rfl, rfl⟩ | ⟨g, cap, S, rfl, hr, hb, h1, h2, hs⟩
  · refine (over_nil w).mono ?_
    rintro e w' ⟨he, rfl⟩
    exact ⟨he, World.grownBy.refl _ _⟩
  · exact over_row g cap l S w hl hr
theorem same2_self (v1 v2 : Value) (l : List Pt) (w : World) (h : RdC w v1 l) (g : RdC w v2 l) (hl : l.length ≤ 10000000000) : Calls Try.prog 25 #[v1, v2] w fun e w' => e = .returned (.bool true) ∧ Kp w w' := by
  have := same2_any v1 v2 l l w h g hl
  rwa [decide_eq_true (rfl : l = l)] at this
/-- Of two slices that a call owns, made one after the other, the blocks differ. -/
theorem own_ne {w1 w2 : World} {B : Nat} {va vb : Value} {la lb : List Pt} (ha : OwnP w1 B va la) (hb : OwnP w2 w1.heap.size vb lb) : vb.ownBlock = none ∨ vb.ownBlock ≠ va.ownBlock := by
  cases e : vb.ownBlock with
  | none => exact .inl rfl
  | some k =>
    right
    intro e2
    have h1 := (World.ownsRow.lt hb k e).1
    have h2 := (World.ownsRow.lt ha k e2.symm).2
    omega
end Go.Proofs.Ytcpbemoiodbliaa
