/- Plain: a ring that goes round a box, with some points on its sides, may be, and goes to the left. -/
import Derived.Test.YtcpbemoiodbliaaMP
namespace Go.Proofs.Geo

/-- The j-th point round the box: m0 .. m3 points on the four sides beside the corners. -/
def bx (x y s : Int) (m0 m1 m2 m3 : Nat) (j : Nat) : Pt :=
  if j ≤ m0 then (x + j, y) else if j ≤ m0 + m1 + 1 then (x + s, y + ((j : Int) - m0 - 1)) else if j ≤ m0 + m1 + m2 + 2 then (x + s - ((j : Int) - m0 - m1 - 2), y + s) else if j ≤ m0 + m1 + m2 + m3 + 3 then (x, y + s - ((j : Int) - m0 - m1 - m2 - 3)) else (x, y)
/-- One side's points. -/
def sideL (c d : Pt) (m : Nat) : List Pt := (List.range m).map fun k : Nat => (c.1 + k * d.1, c.2 + k * d.2)
theorem sideL_succ (c d : Pt) (m : Nat) : sideL c d (m + 1) = sideL c d m ++ [(c.1 + m * d.1, c.2 + m * d.2)] := by unfold sideL; rw [List.range_succ, List.map_append]; rfl
theorem sideL_len (c d : Pt) (m : Nat) : (sideL c d m).length = m := by simp [sideL]
theorem sideL_get (c d : Pt) {m k : Nat} (h : k < m) : (sideL c d m).getD k (0, 0) = (c.1 + k * d.1, c.2 + k * d.2) := by
  simp [sideL, List.getD_eq_getElem?_getD, h]
def bxRing (x y s : Int) (m0 m1 m2 m3 : Nat) : List Pt :=
  sideL (x, y) (1, 0) (m0 + 1) ++ sideL (x + s, y) (0, 1) (m1 + 1) ++ sideL (x + s, y + s) (-1, 0) (m2 + 1) ++ sideL (x, y + s) (0, -1) (m3 + 1)
theorem bxRing_len (x y s : Int) (m0 m1 m2 m3 : Nat) : (bxRing x y s m0 m1 m2 m3).length = m0 + m1 + m2 + m3 + 4 := by
  simp only [bxRing, List.length_append, sideL_len]; omega
theorem getD_app (a b : List Pt) (k : Nat) : (a ++ b).getD k (0, 0) = if k < a.length then a.getD k (0, 0) else b.getD (k - a.length) (0, 0) := by
  simp only [List.getD_eq_getElem?_getD]
  split
  · rename_i h; rw [List.getElem?_append_left h]
  · rename_i h; rw [List.getElem?_append_right (by omega)]
theorem pt_bx {x y s : Int} {m0 m1 m2 m3 j : Nat} (h : j < m0 + m1 + m2 + m3 + 4) : pt (bxRing x y s m0 m1 m2 m3) j = bx x y s m0 m1 m2 m3 j := by
  unfold pt bxRing bx
  rw [getD_app, getD_app, getD_app]
  simp only [List.length_append, sideL_len]
  by_cases h0 : j ≤ m0
  · rw [if_pos (by omega), if_pos (by omega), if_pos (by omega), sideL_get _ _ (by omega), if_pos h0]
    simp
  by_cases h1 : j ≤ m0 + m1 + 1
  · rw [if_pos (by omega), if_pos (by omega), if_neg (by omega), sideL_get _ _ (by omega), if_neg h0, if_pos h1]
    apply Prod.ext <;> simp <;> omega
  by_cases h2 : j ≤ m0 + m1 + m2 + 2
  · rw [if_pos (by omega), if_neg (by omega), sideL_get _ _ (by omega), if_neg h0, if_neg h1, if_pos h2]
    apply Prod.ext <;> simp <;> omega
  · rw [if_neg (by omega), sideL_get _ _ (by omega), if_neg h0, if_neg h1, if_neg h2, if_pos (by omega)]
    apply Prod.ext <;> simp <;> omega

/-- Three points one after the other on one side, or round a corner. -/
def Fine (a b c : Pt) : Prop :=
  (a.2 = b.2 ∧ b.2 = c.2 ∧ ((a.1 ≤ b.1 ∧ b.1 ≤ c.1) ∨ (c.1 ≤ b.1 ∧ b.1 ≤ a.1))) ∨ (a.1 = b.1 ∧ b.1 = c.1 ∧ ((a.2 ≤ b.2 ∧ b.2 ≤ c.2) ∨ (c.2 ≤ b.2 ∧ b.2 ≤ a.2))) ∨
    (a.2 = b.2 ∧ b.1 = c.1 ∧ a.1 ≠ b.1 ∧ c.2 ≠ b.2) ∨ (a.1 = b.1 ∧ b.2 = c.2 ∧ a.2 ≠ b.2 ∧ c.1 ≠ b.1)
theorem fine_back {a b c : Pt} (ha : okP a = true) (hb : okP b = true) (hc : okP c = true) (h : Fine a b c) : turn a b c = 0 → onS b a c = true := by
  obtain ⟨a1, a2⟩ := a
  obtain ⟨b1, b2⟩ := b
  obtain ⟨c1, c2⟩ := c
  unfold Fine at h
  simp only at h
  rcases h with ⟨e1, e2, h⟩ | ⟨e1, e2, h⟩ | ⟨e1, e2, n1, n2⟩ | ⟨e1, e2, n1, n2⟩
  · intro _
    subst e1; subst e2
    refine onS_iff.2 ⟨hb, ha, hc, ?_, ?_, ?_⟩
    · rw [btw_iff]; simp only; omega
    · rw [btw_iff]; simp only; omega
    · unfold det; simp
  · intro _
    subst e1; subst e2
    refine onS_iff.2 ⟨hb, ha, hc, ?_, ?_, ?_⟩
    · rw [btw_iff]; simp only; omega
    · rw [btw_iff]; simp only; omega
    · unfold det; simp
  · intro ht
    exfalso
    subst e1; subst e2
    rw [turn_ok ha hb hc, sign_zero] at ht
    unfold det at ht
    simp only [Int.sub_self, Int.zero_mul, Int.sub_zero] at ht
    rcases Int.mul_eq_zero.1 ht with k | k <;> omega
  · intro ht
    exfalso
    subst e1; subst e2
    rw [turn_ok ha hb hc, sign_zero] at ht
    unfold det at ht
    simp only [Int.sub_self, Int.zero_mul, Int.zero_sub] at ht
    rcases Int.mul_eq_zero.1 (Int.neg_eq_zero.1 ht) with k | k <;> omega

section
variable {x y s : Int} {m0 m1 m2 m3 : Nat}
theorem bx_0 {j : Nat} (h : j ≤ m0) : bx x y s m0 m1 m2 m3 j = (x + j, y) := by unfold bx; rw [if_pos h]
theorem bx_1 {j : Nat} (h : m0 < j) (h' : j ≤ m0 + m1 + 1) : bx x y s m0 m1 m2 m3 j = (x + s, y + ((j : Int) - m0 - 1)) := by unfold bx; rw [if_neg (by omega), if_pos h']
theorem bx_2 {j : Nat} (h : m0 + m1 + 1 < j) (h' : j ≤ m0 + m1 + m2 + 2) : bx x y s m0 m1 m2 m3 j = (x + s - ((j : Int) - m0 - m1 - 2), y + s) := by unfold bx; rw [if_neg (by omega), if_neg (by omega), if_pos h']
theorem bx_3 {j : Nat} (h : m0 + m1 + m2 + 2 < j) (h' : j ≤ m0 + m1 + m2 + m3 + 3) : bx x y s m0 m1 m2 m3 j = (x, y + s - ((j : Int) - m0 - m1 - m2 - 3)) := by unfold bx; rw [if_neg (by omega), if_neg (by omega), if_neg (by omega), if_pos h']
theorem bx_4 {j : Nat} (h : m0 + m1 + m2 + m3 + 3 < j) : bx x y s m0 m1 m2 m3 j = (x, y) := by unfold bx; rw [if_neg (by omega), if_neg (by omega), if_neg (by omega), if_neg (by omega)]
theorem bx_side (hs : 12 ≤ s) (h0 : m0 ≤ 10) (h1 : m1 ≤ 10) (h2 : m2 ≤ 10) (h3 : m3 ≤ 10) {p : Nat} (hp : p < m0 + m1 + m2 + m3 + 4) :
    ∃ u v u' v' : Int, bx x y s m0 m1 m2 m3 p = (u, v) ∧ bx x y s m0 m1 m2 m3 (p + 1) = (u', v') ∧
      ((p ≤ m0 ∧ v = y ∧ v' = y ∧ u = x + p ∧ ((p < m0 ∧ u' = x + p + 1) ∨ (p = m0 ∧ u' = x + s))) ∨
       (m0 < p ∧ p ≤ m0 + m1 + 1 ∧ u = x + s ∧ u' = x + s ∧ v = y + ((p : Int) - m0 - 1) ∧ ((p < m0 + m1 + 1 ∧ v' = v + 1) ∨ (p = m0 + m1 + 1 ∧ v' = y + s))) ∨
       (m0 + m1 + 1 < p ∧ p ≤ m0 + m1 + m2 + 2 ∧ v = y + s ∧ v' = y + s ∧ u = x + s - ((p : Int) - m0 - m1 - 2) ∧ ((p < m0 + m1 + m2 + 2 ∧ u' = u - 1) ∨ (p = m0 + m1 + m2 + 2 ∧ u' = x))) ∨
       (m0 + m1 + m2 + 2 < p ∧ u = x ∧ u' = x ∧ v = y + s - ((p : Int) - m0 - m1 - m2 - 3) ∧ ((p < m0 + m1 + m2 + m3 + 3 ∧ v' = v - 1) ∨ (p = m0 + m1 + m2 + m3 + 3 ∧ v' = y)))) := by
  rcases (by omega : (p < m0 ∨ p = m0) ∨ (m0 < p ∧ p < m0 + m1 + 1 ∨ p = m0 + m1 + 1) ∨ (m0 + m1 + 1 < p ∧ p < m0 + m1 + m2 + 2 ∨ p = m0 + m1 + m2 + 2) ∨ (m0 + m1 + m2 + 2 < p ∧ p < m0 + m1 + m2 + m3 + 3 ∨ p = m0 + m1 + m2 + m3 + 3)) with (h | h) | (h | h) | (h | h) | (h | h)
  · exact ⟨_, _, _, _, bx_0 (by omega), bx_0 (by omega), by omega⟩
  · exact ⟨_, _, _, _, bx_0 (by omega), bx_1 (by omega) (by omega), by omega⟩
  · exact ⟨_, _, _, _, bx_1 (by omega) (by omega), bx_1 (by omega) (by omega), by omega⟩
  · exact ⟨_, _, _, _, bx_1 (by omega) (by omega), bx_2 (by omega) (by omega), by omega⟩
  · exact ⟨_, _, _, _, bx_2 (by omega) (by omega), bx_2 (by omega) (by omega), by omega⟩
  · exact ⟨_, _, _, _, bx_2 (by omega) (by omega), bx_3 (by omega) (by omega), by omega⟩
  · exact ⟨_, _, _, _, bx_3 (by omega) (by omega), bx_3 (by omega) (by omega), by omega⟩
  · exact ⟨_, _, _, _, bx_3 (by omega) (by omega), bx_4 (by omega), by omega⟩
theorem bx_dis (hs : 12 ≤ s) (h0 : m0 ≤ 10) (h1 : m1 ≤ 10) (h2 : m2 ≤ 10) (h3 : m3 ≤ 10) {p q : Nat} (hpq : p < q) (hq : q < m0 + m1 + m2 + m3 + 4) : bx x y s m0 m1 m2 m3 p ≠ bx x y s m0 m1 m2 m3 q := by
  obtain ⟨a, b, a', b', e1, e2, H⟩ := bx_side (x := x) (y := y) hs h0 h1 h2 h3 (show p < m0 + m1 + m2 + m3 + 4 by omega)
  obtain ⟨c, d, c', d', e3, e4, H'⟩ := bx_side (x := x) (y := y) hs h0 h1 h2 h3 hq
  rw [e1, e3]
  intro e
  injection e with q1 q2
  clear e1 e2 e3 e4
  rcases H with ⟨g, H⟩ | ⟨g, g', H⟩ | ⟨g, g', H⟩ | ⟨g, H⟩ <;> rcases H' with ⟨k, H'⟩ | ⟨k, k', H'⟩ | ⟨k, k', H'⟩ | ⟨k, H'⟩ <;> omega
theorem bx_fine (hs : 12 ≤ s) (h0 : m0 ≤ 10) (h1 : m1 ≤ 10) (h2 : m2 ≤ 10) (h3 : m3 ≤ 10) {p : Nat} (hp : p + 1 < m0 + m1 + m2 + m3 + 4) :
    Fine (bx x y s m0 m1 m2 m3 p) (bx x y s m0 m1 m2 m3 (p + 1)) (bx x y s m0 m1 m2 m3 (p + 2)) := by
  obtain ⟨a, b, a', b', e1, e2, H⟩ := bx_side (x := x) (y := y) hs h0 h1 h2 h3 (show p < m0 + m1 + m2 + m3 + 4 by omega)
  obtain ⟨c, d, c', d', e3, e4, H'⟩ := bx_side (x := x) (y := y) hs h0 h1 h2 h3 hp
  rw [e1, e2, e4]
  have e5 : (a', b') = (c, d) := by rw [← e2, ← e3]
  injection e5 with q1 q2
  unfold Fine
  simp only
  clear e1 e2 e3 e4
  rcases H with ⟨g, H⟩ | ⟨g, g', H⟩ | ⟨g, g', H⟩ | ⟨g, H⟩ <;> rcases H' with ⟨k, H'⟩ | ⟨k, k', H'⟩ | ⟨k, k', H'⟩ | ⟨k, H'⟩ <;> omega
theorem bx_fine0 (hs : 12 ≤ s) (h0 : m0 ≤ 10) (h1 : m1 ≤ 10) (h2 : m2 ≤ 10) (h3 : m3 ≤ 10) :
    Fine (bx x y s m0 m1 m2 m3 (m0 + m1 + m2 + m3 + 3)) (bx x y s m0 m1 m2 m3 0) (bx x y s m0 m1 m2 m3 1) := by
  obtain ⟨a, b, a', b', e1, e2, H⟩ := bx_side (x := x) (y := y) hs h0 h1 h2 h3 (show m0 + m1 + m2 + m3 + 3 < m0 + m1 + m2 + m3 + 4 by omega)
  obtain ⟨c, d, c', d', e3, e4, H'⟩ := bx_side (x := x) (y := y) hs h0 h1 h2 h3 (show 0 < m0 + m1 + m2 + m3 + 4 by omega)
  rw [e1, e3, e4]
  unfold Fine
  simp only
  clear e1 e2 e3 e4
  omega
theorem bx_apart (hs : 12 ≤ s) (h0 : m0 ≤ 10) (h1 : m1 ≤ 10) (h2 : m2 ≤ 10) (h3 : m3 ≤ 10) {p q : Nat} (hpq : p + 2 ≤ q) (hq : q < m0 + m1 + m2 + m3 + 4) (hn : ¬ (p = 0 ∧ q + 1 = m0 + m1 + m2 + m3 + 4)) :
    ¬ Mt (bx x y s m0 m1 m2 m3 p) (bx x y s m0 m1 m2 m3 (p + 1)) (bx x y s m0 m1 m2 m3 q) (bx x y s m0 m1 m2 m3 (q + 1)) := by
  obtain ⟨a, b, a', b', e1, e2, H⟩ := bx_side (x := x) (y := y) hs h0 h1 h2 h3 (show p < m0 + m1 + m2 + m3 + 4 by omega)
  obtain ⟨c, d, c', d', e3, e4, H'⟩ := bx_side (x := x) (y := y) hs h0 h1 h2 h3 hq
  rw [e1, e2, e3, e4]
  refine not_Mt_of_boxes ?_
  simp only
  clear e1 e2 e3 e4
  rcases H with ⟨g, H⟩ | ⟨g, g', H⟩ | ⟨g, g', H⟩ | ⟨g, H⟩ <;> rcases H' with ⟨k, H'⟩ | ⟨k, k', H'⟩ | ⟨k, k', H'⟩ | ⟨k, H'⟩ <;> omega
theorem bx_ok (hs : 12 ≤ s) (h0 : m0 ≤ 10) (h1 : m1 ≤ 10) (h2 : m2 ≤ 10) (h3 : m3 ≤ 10) (hp : okP (x, y) = true) (hq : okP (x + s, y + s) = true) (j : Nat) : okP (bx x y s m0 m1 m2 m3 j) = true := by
  rw [okP_iff] at hp hq ⊢
  simp only at hp hq
  rcases (by omega : j ≤ m0 ∨ (m0 < j ∧ j ≤ m0 + m1 + 1) ∨ (m0 + m1 + 1 < j ∧ j ≤ m0 + m1 + m2 + 2) ∨ (m0 + m1 + m2 + 2 < j ∧ j ≤ m0 + m1 + m2 + m3 + 3) ∨ m0 + m1 + m2 + m3 + 3 < j) with h | ⟨h, h'⟩ | ⟨h, h'⟩ | ⟨h, h'⟩ | h
  · rw [bx_0 h]; simp only; omega
  · rw [bx_1 h h']; simp only; omega
  · rw [bx_2 h h']; simp only; omega
  · rw [bx_3 h h']; simp only; omega
  · rw [bx_4 h]; simp only; omega
theorem bx_len_next {j : Nat} (h : j < m0 + m1 + m2 + m3 + 4) : rat (bxRing x y s m0 m1 m2 m3) ((j : Int) + 1) = bx x y s m0 m1 m2 m3 (j + 1) := by
  rw [rat_pt, bxRing_len, rix_nat (by omega)]
  by_cases e : j + 1 = m0 + m1 + m2 + m3 + 4
  · rw [e, Nat.mod_self, pt_bx (by omega)]
    unfold bx
    rw [if_pos (by omega), if_neg (by omega), if_neg (by omega), if_neg (by omega), if_neg (by omega)]
    simp
  · rw [Nat.mod_eq_of_lt (by omega), pt_bx (by omega)]
theorem bx_prev {j : Nat} (h : j + 1 < m0 + m1 + m2 + m3 + 4) : rat (bxRing x y s m0 m1 m2 m3) (((j + 1 : Nat) : Int) - 1) = bx x y s m0 m1 m2 m3 j := by
  rw [show ((j + 1 : Nat) : Int) - 1 = (j : Int) by omega, rat_in (by rw [bxRing_len]; omega), pt_bx (by omega)]
theorem bx_prev0 : rat (bxRing x y s m0 m1 m2 m3) (-1) = bx x y s m0 m1 m2 m3 (m0 + m1 + m2 + m3 + 3) := by
  have : rat (bxRing x y s m0 m1 m2 m3) (-1) = rat (bxRing x y s m0 m1 m2 m3) ((m0 + m1 + m2 + m3 + 3 : Nat) : Int) := by
    refine rat_congr _ ?_
    rw [bxRing_len, ← Int.add_emod_right (-1)]
    congr 1; omega
  rw [this, rat_in (by rw [bxRing_len]; omega), pt_bx (by omega)]
theorem bx_okR (hs : 12 ≤ s) (h0 : m0 ≤ 10) (h1 : m1 ≤ 10) (h2 : m2 ≤ 10) (h3 : m3 ≤ 10) (hp : okP (x, y) = true) (hq : okP (x + s, y + s) = true) : okR (bxRing x y s m0 m1 m2 m3) = true := by
  have hn := bxRing_len x y s m0 m1 m2 m3
  have ok := fun j => bx_ok (m0 := m0) (m1 := m1) (m2 := m2) (m3 := m3) hs h0 h1 h2 h3 hp hq j
  refine okR_iff.2 ⟨by omega, by omega, fun i hi => ?_, fun i hi => ?_, fun i hi => ?_, fun i hi => ?_⟩
  · rw [pt_bx (by omega)]; exact ok i
  · refine any_range_false fun k hk => decide_eq_false ?_
    rw [pt_bx (by omega), pt_bx (by omega)]
    exact bx_dis hs h0 h1 h2 h3 hk (by omega)
  · have hb : turn (rat (bxRing x y s m0 m1 m2 m3) ((i : Int) - 1)) (pt (bxRing x y s m0 m1 m2 m3) i) (rat (bxRing x y s m0 m1 m2 m3) ((i : Int) + 1)) = 0 → onS (pt (bxRing x y s m0 m1 m2 m3) i) (rat (bxRing x y s m0 m1 m2 m3) ((i : Int) - 1)) (rat (bxRing x y s m0 m1 m2 m3) ((i : Int) + 1)) = true := by
      rw [pt_bx (by omega), bx_len_next (by omega)]
      cases i with
      | zero =>
        rw [show ((0 : Nat) : Int) - 1 = -1 by omega, bx_prev0]
        exact fine_back (ok _) (ok _) (ok _) (bx_fine0 hs h0 h1 h2 h3)
      | succ i =>
        rw [bx_prev (by omega)]
        exact fine_back (ok _) (ok _) (ok _) (bx_fine hs h0 h1 h2 h3 (by omega))
    unfold backB
    cases h : onS (pt (bxRing x y s m0 m1 m2 m3) i) (rat (bxRing x y s m0 m1 m2 m3) ((i : Int) - 1)) (rat (bxRing x y s m0 m1 m2 m3) ((i : Int) + 1)) with
    | true => simp
    | false =>
      rw [decide_eq_false (fun e => by rw [hb e] at h; exact absurd h (by simp))]; rfl
  · refine any_range_false fun k hk => ?_
    unfold hitB
    cases hsk : skipB (bxRing x y s m0 m1 m2 m3).length i k with
    | true => rfl
    | false =>
      obtain ⟨j1, j2⟩ := skipB_true hsk
      rw [hn] at j2
      rw [pt_bx (by omega), pt_bx (by omega), bx_len_next (by omega), bx_len_next (by omega)]
      have hz : meets (bx x y s m0 m1 m2 m3 i) (bx x y s m0 m1 m2 m3 (i + 1)) (bx x y s m0 m1 m2 m3 k) (bx x y s m0 m1 m2 m3 (k + 1)) = 0 := by
        have hd : ∀ j, j < m0 + m1 + m2 + m3 + 4 → bx x y s m0 m1 m2 m3 j ≠ bx x y s m0 m1 m2 m3 (j + 1) := fun j hj => by
          by_cases e : j + 1 = m0 + m1 + m2 + m3 + 4
          · have := bx_dis (x := x) (y := y) hs h0 h1 h2 h3 (show 0 < j by omega) hj
            have e0 : bx x y s m0 m1 m2 m3 (j + 1) = bx x y s m0 m1 m2 m3 0 := by
              unfold bx
              rw [if_neg (by omega), if_neg (by omega), if_neg (by omega), if_neg (by omega), if_pos (by omega)]
              simp
            rw [e0]
            exact fun e' => this e'.symm
          · exact bx_dis hs h0 h1 h2 h3 (by omega) (by omega)
        have g1 : may (bx x y s m0 m1 m2 m3 i) (bx x y s m0 m1 m2 m3 (i + 1)) = true := may_iff.2 ⟨ok _, ok _, hd i (by omega)⟩
        have g2 : may (bx x y s m0 m1 m2 m3 k) (bx x y s m0 m1 m2 m3 (k + 1)) = true := may_iff.2 ⟨ok _, ok _, hd k (by omega)⟩
        exact Classical.byContradiction fun e => bx_apart hs h0 h1 h2 h3 j1 (by omega) j2 ((meets_ne g1 g2).1 e)
      rw [hz]; rfl
theorem bx_sign (hs : 12 ≤ s) (h0 : m0 ≤ 10) (h1 : m1 ≤ 10) (h2 : m2 ≤ 10) (h3 : m3 ≤ 10) (hp : okP (x, y) = true) (hq : okP (x + s, y + s) = true) : signR (bxRing x y s m0 m1 m2 m3) = 1 := by
  have hn := bxRing_len x y s m0 m1 m2 m3
  have ok := fun j => bx_ok (m0 := m0) (m1 := m1) (m2 := m2) (m3 := m3) hs h0 h1 h2 h3 hp hq j
  have r0 : rat (bxRing x y s m0 m1 m2 m3) 0 = bx x y s m0 m1 m2 m3 0 := by
    have := rat_in (l := bxRing x y s m0 m1 m2 m3) (i := 0) (by omega)
    rw [pt_bx (by omega)] at this; exact this
  have hm : Low (rat (bxRing x y s m0 m1 m2 m3)) 0 := by
    intro j
    rw [r0, rat_pt]
    have hl := rix_lt (n := (bxRing x y s m0 m1 m2 m3).length) (by omega) j
    generalize rix (bxRing x y s m0 m1 m2 m3).length j = k at *
    rw [pt_bx (by omega), bx_0 (show 0 ≤ m0 by omega)]
    obtain ⟨a, b, a', b', e1, e2, H⟩ := bx_side (x := x) (y := y) hs h0 h1 h2 h3 (show k < m0 + m1 + m2 + m3 + 4 by omega)
    rw [e1]
    clear e1 e2
    unfold cmpP
    simp only
    by_cases g1 : y < b
    · rw [if_pos g1]; omega
    · rw [if_neg g1, if_neg (by omega)]
      by_cases g2 : x + ((0 : Nat) : Int) < a
      · rw [if_pos g2]; omega
      · rw [if_neg g2, if_neg (by omega)]; omega
  rw [signR_F (bx_okR hs h0 h1 h2 h3 hp hq) hm, show (0 : Int) - 1 = -1 by omega, bx_prev0, r0]
  have := bx_len_next (x := x) (y := y) (s := s) (m0 := m0) (m1 := m1) (m2 := m2) (m3 := m3) (j := 0) (by omega)
  rw [show (((0 : Nat) : Int) + 1) = (0 : Int) + 1 by rfl] at this
  rw [this, turn_ok (ok _) (ok _) (ok _), sign_pos]
  have a1 : bx x y s m0 m1 m2 m3 0 = (x, y) := by unfold bx; rw [if_pos (by omega)]; simp
  obtain ⟨u, hu, e1⟩ : ∃ u : Int, 0 < u ∧ bx x y s m0 m1 m2 m3 (0 + 1) = (x + u, y) := by
    unfold bx
    by_cases h : 0 + 1 ≤ m0
    · rw [if_pos h]; exact ⟨1, by omega, by simp⟩
    · rw [if_neg h, if_pos (by omega)]; exact ⟨s, by omega, by apply Prod.ext <;> simp; omega⟩
  obtain ⟨v, hv, e2⟩ : ∃ v : Int, 0 < v ∧ bx x y s m0 m1 m2 m3 (m0 + m1 + m2 + m3 + 3) = (x, y + v) := by
    unfold bx
    rw [if_neg (by omega), if_neg (by omega), if_neg (by omega), if_pos (by omega)]
    exact ⟨s - m3, by omega, by apply Prod.ext <;> simp; omega⟩
  rw [a1, e1, e2]
  unfold det
  simp only
  have := Int.mul_pos hv hu
  have e3 : (x - x) * (y - (y + v)) - (y - (y + v)) * (x + u - x) = v * u := by grind
  omega
theorem bx_chk (hs : 12 ≤ s) (h0 : m0 ≤ 10) (h1 : m1 ≤ 10) (h2 : m2 ≤ 10) (h3 : m3 ≤ 10) (hp : okP (x, y) = true) (hq : okP (x + s, y + s) = true) : (chk (bxRing x y s m0 m1 m2 m3)).1 = 0 := of_decide_eq_true (bx_okR hs h0 h1 h2 h3 hp hq)
end
/-- The corners, two of them exchanged: two edges cross. -/
def crossed (x y s : Int) : List Pt := [(x, y), (x + s, y + s), (x + s, y), (x, y + s)]
theorem crossed_chk {x y s : Int} (hs : 12 ≤ s) (hp : okP (x, y) = true) (hq : okP (x + s, y + s) = true) : chk (crossed x y s) = (193, 0) := by
  have o1 : okP (x + s, y) = true := by rw [okP_iff] at *; simp only at *; omega
  have o2 : okP (x, y + s) = true := by rw [okP_iff] at *; simp only at *; omega
  have hss : 0 < s * s := Int.mul_pos (by omega) (by omega)
  have t : ∀ a b c : Pt, okP a = true → okP b = true → okP c = true → det a b c ≠ 0 → turn a b c ≠ 0 := fun a b c ha hb hc h e => h (sign_zero.1 (by rw [← turn_ok ha hb hc]; exact e))
  have f4 : ∀ P : Nat → Prop, P 0 → P 1 → P 2 → P 3 → ∀ i, i < 4 → P i := fun P p0 p1 p2 p3 i hi => by
    rcases (by omega : i = 0 ∨ i = 1 ∨ i = 2 ∨ i = 3) with rfl | rfl | rfl | rfl <;> assumption
  refine chk_mt (k := 0) (by simp [crossed]) (by simp [crossed]) ?_ ?_ ?_ ?_
  · refine f4 _ ?_ ?_ ?_ ?_ <;> simp [crossed, pt, hp, hq, o1, o2]
  · refine f4 _ ?_ ?_ ?_ ?_ <;> refine any_range_false fun k hk => decide_eq_false fun e => ?_
    · omega
    · obtain rfl : k = 0 := by omega
      have := congrArg Prod.fst e; simp [crossed, pt] at this; omega
    · rcases (by omega : k = 0 ∨ k = 1) with rfl | rfl
      · have := congrArg Prod.fst e; simp [crossed, pt] at this; omega
      · have := congrArg Prod.snd e; simp [crossed, pt] at this; omega
    · rcases (by omega : k = 0 ∨ k = 1 ∨ k = 2) with rfl | rfl | rfl
      · have := congrArg Prod.snd e; simp [crossed, pt] at this; omega
      · have := congrArg Prod.fst e; simp [crossed, pt] at this; omega
      · have := congrArg Prod.fst e; simp [crossed, pt] at this; omega
  · have bk : ∀ a b c : Pt, ∀ i : Nat, rat (crossed x y s) ((i : Int) - 1) = a → pt (crossed x y s) i = b → rat (crossed x y s) ((i : Int) + 1) = c → okP a = true → okP b = true → okP c = true → det a b c ≠ 0 → backB (crossed x y s) i = false := by
      intro a b c i h1 h2 h3 ha hb hc hd
      unfold backB
      rw [h1, h2, h3, decide_eq_false (t a b c ha hb hc hd)]; rfl
    refine f4 _ ?_ ?_ ?_ ?_
    · refine bk (x, y + s) (x, y) (x + s, y + s) 0 rfl rfl rfl o2 hp hq ?_
      unfold det; simp only; have : (x - x) * (y + s - (y + s)) - (y - (y + s)) * (x + s - x) = s * s := by grind
      omega
    · refine bk (x, y) (x + s, y + s) (x + s, y) 1 rfl rfl rfl hp hq o1 ?_
      unfold det; simp only; have : (x + s - x) * (y - y) - (y + s - y) * (x + s - x) = -(s * s) := by grind
      omega
    · refine bk (x + s, y + s) (x + s, y) (x, y + s) 2 rfl rfl rfl hq o1 o2 ?_
      unfold det; simp only; have : (x + s - (x + s)) * (y + s - (y + s)) - (y - (y + s)) * (x - (x + s)) = -(s * s) := by grind
      omega
    · refine bk (x + s, y) (x, y + s) (x, y) 3 rfl rfl (by rw [rat_pt, show rix (crossed x y s).length (((3 : Nat) : Int) + 1) = 0 from by simp [rix, crossed]]; rfl) o1 o2 hp ?_
      unfold det; simp only; have : (x - (x + s)) * (y - y) - (y + s - y) * (x - (x + s)) = s * s := by grind
      omega
  · refine firstN_some (by simp [crossed]) ?_ (fun k hk => by omega)
    refine any_range_true (k := 2) (by simp [crossed]) ?_
    have hm : meets (x, y) (x + s, y + s) (x + s, y) (x, y + s) = 2 := by
      have g1 : may (x, y) (x + s, y + s) = true := may_iff.2 ⟨hp, hq, fun e => by have := congrArg Prod.fst e; simp at this; omega⟩
      have g2 : may (x + s, y) (x, y + s) = true := may_iff.2 ⟨o1, o2, fun e => by have := congrArg Prod.fst e; simp at this; omega⟩
      refine (meets_cross g1 g2).2 ?_
      unfold Crs det
      simp only
      have d1 : (x + s - x) * (y - y) - (y + s - y) * (x + s - x) = -(s * s) := by grind
      have d2 : (x + s - x) * (y + s - y) - (y + s - y) * (x - x) = s * s := by grind
      have d3 : (x - (x + s)) * (y - y) - (y + s - y) * (x - (x + s)) = s * s := by grind
      have d4 : (x - (x + s)) * (y + s - y) - (y + s - y) * (x + s - (x + s)) = -(s * s) := by grind
      rw [d1, d2, d3, d4]
      omega
    unfold hitB
    rw [show skipB (crossed x y s).length 0 2 = false from by simp [skipB, crossed]]
    show decide (meets (x, y) (x + s, y + s) (x + s, y) (x, y + s) ≠ 0) = true
    rw [hm]; decide
end Go.Proofs.Geo
