/- Plain geometry of points inside rings: boxes, triangles, the pairs of neighbours; no program in sight. -/
import Derived.Test.YtmbfcneabpgcpaaInsidePlain
namespace Go.Proofs.Geo

theorem cnt_flat {p a b : Pt} (h : a.2 = b.2) : cnt p a b = false := by
  unfold cnt; rw [if_neg (by omega), ← Bool.not_eq_true, cntU_iff]; omega
theorem cnt_up {p a b : Pt} (ha : okP a = true) (hb : okP b = true) (hp : okP p = true) (h1 : a.2 ≤ p.2) (h2 : p.2 < b.2) : cnt p a b = decide (0 < det a b p) := by
  unfold cnt; rw [if_neg (by omega), Bool.eq_iff_iff, cntU_iff, turn_ok ha hb hp, sign_pos, decide_eq_true_eq]
  exact ⟨fun h => h.2.2, fun h => ⟨h1, h2, h⟩⟩
theorem cnt_down {p a b : Pt} (ha : okP a = true) (hb : okP b = true) (hp : okP p = true) (h1 : b.2 ≤ p.2) (h2 : p.2 < a.2) : cnt p a b = decide (det a b p < 0) := by
  rw [cnt_comm, cnt_up hb ha hp h1 h2, det_swap a b p]
  rw [Bool.eq_iff_iff]; simp
theorem cnt_same {p a b : Pt} (h : (a.2 ≤ p.2) ↔ (b.2 ≤ p.2)) : cnt p a b = false := by
  rw [← Bool.not_eq_true]; intro k
  have := cnt_chg k
  simp only [chg, low, bne_iff_ne, ne_eq, decide_eq_decide] at this
  exact this h

/-- An upright edge. -/
theorem cnt_upright {p : Pt} {x ly hy : Int} (hp : okP p = true) (h1 : okP (x, ly) = true) (h2 : okP (x, hy) = true) (h : ly < hy) :
    cnt p (x, ly) (x, hy) = (decide (ly ≤ p.2) && decide (p.2 < hy) && decide (p.1 < x)) := by
  by_cases k : ly ≤ p.2 ∧ p.2 < hy
  · rw [cnt_up h1 h2 hp k.1 k.2]
    have e : det (x, ly) (x, hy) p = (hy - ly) * (x - p.1) := by unfold det; grind
    rw [e, Bool.eq_iff_iff]
    simp only [Bool.and_eq_true, decide_eq_true_eq]
    constructor
    · intro g
      refine ⟨k, ?_⟩
      rcases Int.lt_or_le p.1 x with m | m
      · exact m
      · have := Int.mul_nonpos_of_nonneg_of_nonpos (show 0 ≤ hy - ly by omega) (show x - p.1 ≤ 0 by omega); omega
    · intro g; exact Int.mul_pos (by omega) (by omega)
  · rw [cnt_same]
    · symm; rw [← Bool.not_eq_true]; simp only [Bool.and_eq_true, decide_eq_true_eq]; intro g; exact k g.1
    · simp only; omega

theorem okP_mix {a b c d : Int} (h1 : okP (a, b) = true) (h2 : okP (c, d) = true) : okP (c, b) = true ∧ okP (a, d) = true := by
  simp only [okP_iff] at *; omega

/-- The ring of a box. -/
def boxL (lx ly hx hy : Int) : List Pt := [(lx, ly), (hx, ly), (hx, hy), (lx, hy)]
def inBox (p : Pt) (lx ly hx hy : Int) : Bool := decide (lx ≤ p.1) && decide (p.1 < hx) && decide (ly ≤ p.2) && decide (p.2 < hy)
theorem in_box {p : Pt} {lx ly hx hy : Int} (hp : okP p = true) (h1 : okP (lx, ly) = true) (h2 : okP (hx, hy) = true) (g1 : lx < hx) (g2 : ly < hy) :
    inB p (boxL lx ly hx hy) = inBox p lx ly hx hy := by
  obtain ⟨h3, h4⟩ := okP_mix h1 h2
  have e : crossN p (boxL lx ly hx hy) = (cnt p (lx, hy) (lx, ly)).toNat + ((cnt p (lx, ly) (hx, ly)).toNat + ((cnt p (hx, ly) (hx, hy)).toNat + ((cnt p (hx, hy) (lx, hy)).toNat + 0))) := rfl
  unfold inB
  rw [e, cnt_flat (a := (lx, ly)) (b := (hx, ly)) rfl, cnt_flat (a := (hx, hy)) (b := (lx, hy)) rfl, cnt_comm p (lx, hy) (lx, ly), cnt_upright hp h1 h4 g2, cnt_upright hp h3 h2 g2]
  unfold inBox
  by_cases k1 : ly ≤ p.2 <;> by_cases k2 : p.2 < hy <;> by_cases k3 : p.1 < lx <;> by_cases k4 : p.1 < hx <;> by_cases k5 : lx ≤ p.1 <;> first | omega | simp [k1, k2, k3, k4, k5]

/-- Two boxes side by side, or one above the other. -/
theorem inBox_left (p : Pt) {lx ly hx hy x : Int} (g1 : lx < x) (g2 : x < hx) :
    (inBox p lx ly x hy && inBox p x ly hx hy) = false ∧ inBox p lx ly hx hy = (inBox p lx ly x hy || inBox p x ly hx hy) := by
  unfold inBox
  constructor
  · rw [← Bool.not_eq_true]; simp only [Bool.and_eq_true, decide_eq_true_eq]; omega
  · rw [Bool.eq_iff_iff]; simp only [Bool.or_eq_true, Bool.and_eq_true, decide_eq_true_eq]; omega
theorem inBox_under (p : Pt) {lx ly hx hy y : Int} (g1 : ly < y) (g2 : y < hy) :
    (inBox p lx ly hx y && inBox p lx y hx hy) = false ∧ inBox p lx ly hx hy = (inBox p lx ly hx y || inBox p lx y hx hy) := by
  unfold inBox
  constructor
  · rw [← Bool.not_eq_true]; simp only [Bool.and_eq_true, decide_eq_true_eq]; omega
  · rw [Bool.eq_iff_iff]; simp only [Bool.or_eq_true, Bool.and_eq_true, decide_eq_true_eq]; omega

theorem det_bary (a b c p : Pt) : det a b p * (c.2 - p.2) + det b c p * (a.2 - p.2) + det c a p * (b.2 - p.2) = 0 := by unfold det; grind
theorem det_sum (a b c p : Pt) : det a b p + det b c p + det c a p = det a b c := by unfold det; grind
theorem tri_cross (p a b c : Pt) : crossN p [a, b, c] = (cnt p c a).toNat + ((cnt p a b).toNat + ((cnt p b c).toNat + 0)) := rfl
theorem tri_rot (p a b c : Pt) : inB p [b, c, a] = inB p [a, b, c] := by
  unfold inB; rw [show [b, c, a] = [b, c] ++ [a] from rfl, crossN_rot1]

/-- What a triangle that goes round to the left says of a point. -/
def TriSays (p a b c : Pt) : Prop :=
  (0 < det a b p → 0 < det b c p → 0 < det c a p → inB p [a, b, c] = true) ∧ ((det a b p < 0 ∨ det b c p < 0 ∨ det c a p < 0) → inB p [a, b, c] = false)
theorem tri_turned {p a b c : Pt} (h : TriSays p b c a) : TriSays p a b c :=
  ⟨fun h1 h2 h3 => by rw [← tri_rot]; exact h.1 h2 h3 h1, fun g => by rw [← tri_rot]; exact h.2 (by rcases g with g | g | g <;> simp [g])⟩

theorem tri_up {p a b c : Pt} (hp : okP p = true) (ha : okP a = true) (hb : okP b = true) (hc : okP c = true) (h : 0 < det a b c) (h1 : a.2 ≤ p.2) (h2 : p.2 < b.2) : TriSays p a b c := by
  have hs := det_sum a b c p
  have hy := det_bary a b c p
  unfold TriSays inB
  rw [tri_cross, cnt_up ha hb hp h1 h2]
  generalize det a b p = X at *
  generalize hYd : det b c p = Y at *
  generalize hZd : det c a p = Z at *
  by_cases k : c.2 ≤ p.2
  · rw [cnt_same (a := c) (b := a) (by omega), cnt_down hb hc hp k h2, hYd]
    have hy' : Z * (b.2 - p.2) = X * (p.2 - c.2) + Y * (p.2 - a.2) := by grind
    refine ⟨fun x y z => ?_, fun g => ?_⟩
    · have : ¬ Y < 0 := by omega
      simp [x, this]
    · by_cases x : 0 < X
      · by_cases y : Y < 0
        · simp [x, y]
        · exfalso
          have := Int.mul_nonneg (show 0 ≤ X by omega) (show 0 ≤ p.2 - c.2 by omega)
          have := Int.mul_nonneg (show 0 ≤ Y by omega) (show 0 ≤ p.2 - a.2 by omega)
          have := Int.mul_neg_of_neg_of_pos (show Z < 0 by omega) (show 0 < b.2 - p.2 by omega)
          omega
      · by_cases y : Y < 0
        · exfalso
          have := Int.mul_nonpos_of_nonpos_of_nonneg (show X ≤ 0 by omega) (show 0 ≤ p.2 - c.2 by omega)
          have := Int.mul_nonpos_of_nonpos_of_nonneg (show Y ≤ 0 by omega) (show 0 ≤ p.2 - a.2 by omega)
          rcases Int.lt_or_le 0 Z with z | z
          · have := Int.mul_pos z (show 0 < b.2 - p.2 by omega); omega
          · omega
        · simp [x, y]
  · rw [cnt_same (a := b) (b := c) (by omega), cnt_down hc ha hp h1 (by omega), hZd]
    have hy' : Y * (p.2 - a.2) = X * (c.2 - p.2) + Z * (b.2 - p.2) := by grind
    refine ⟨fun x y z => ?_, fun g => ?_⟩
    · have : ¬ Z < 0 := by omega
      simp [x, this]
    · by_cases x : 0 < X
      · by_cases z : Z < 0
        · simp [x, z]
        · exfalso
          have := Int.mul_nonneg (show 0 ≤ X by omega) (show 0 ≤ c.2 - p.2 by omega)
          have := Int.mul_nonneg (show 0 ≤ Z by omega) (show 0 ≤ b.2 - p.2 by omega)
          have := Int.mul_nonpos_of_nonpos_of_nonneg (show Y ≤ 0 by omega) (show 0 ≤ p.2 - a.2 by omega)
          have := Int.mul_pos x (show 0 < c.2 - p.2 by omega)
          omega
      · by_cases z : Z < 0
        · exfalso
          have := Int.mul_nonpos_of_nonpos_of_nonneg (show X ≤ 0 by omega) (show 0 ≤ c.2 - p.2 by omega)
          have := Int.mul_neg_of_neg_of_pos z (show 0 < b.2 - p.2 by omega)
          rcases Int.lt_or_le Y 0 with y | y
          · omega
          · have := Int.mul_nonneg y (show 0 ≤ p.2 - a.2 by omega); omega
        · simp [x, z]

theorem tri_says {p a b c : Pt} (hp : okP p = true) (ha : okP a = true) (hb : okP b = true) (hc : okP c = true) (h : 0 < det a b c) : TriSays p a b c := by
  have e1 : det b c a = det a b c := det_cyc a b c
  have e2 : det c a b = det a b c := by rw [det_cyc b c a]; exact e1
  by_cases ka : a.2 ≤ p.2 <;> by_cases kb : b.2 ≤ p.2 <;> by_cases kc : c.2 ≤ p.2
  · -- all low
    have hn : inB p [a, b, c] = false := by
      unfold inB; rw [tri_cross, cnt_same (by omega), cnt_same (by omega), cnt_same (by omega)]; rfl
    refine ⟨fun x y z => ?_, fun _ => hn⟩
    exfalso
    have hy := det_bary a b c p
    have m1 := Int.mul_nonneg (show 0 ≤ det a b p by omega) (show 0 ≤ p.2 - c.2 by omega)
    have m2 := Int.mul_nonneg (show 0 ≤ det b c p by omega) (show 0 ≤ p.2 - a.2 by omega)
    have m3 := Int.mul_nonneg (show 0 ≤ det c a p by omega) (show 0 ≤ p.2 - b.2 by omega)
    have s : det a b p * (p.2 - c.2) + det b c p * (p.2 - a.2) + det c a p * (p.2 - b.2) = 0 := by grind
    have z1 : c.2 = p.2 := by
      rcases Int.lt_or_le c.2 p.2 with k | k
      · have := Int.mul_pos x (show 0 < p.2 - c.2 by omega); omega
      · omega
    have z2 : a.2 = p.2 := by
      rcases Int.lt_or_le a.2 p.2 with k | k
      · have := Int.mul_pos y (show 0 < p.2 - a.2 by omega); omega
      · omega
    have z3 : b.2 = p.2 := by
      rcases Int.lt_or_le b.2 p.2 with k | k
      · have := Int.mul_pos z (show 0 < p.2 - b.2 by omega); omega
      · omega
    unfold det at h
    rw [z1, z2, z3] at h
    simp at h
  · exact tri_turned (tri_up hp hb hc ha (by omega) kb (by omega))
  · exact tri_up hp ha hb hc h ka (by omega)
  · exact tri_up hp ha hb hc h ka (by omega)
  · exact tri_turned (tri_turned (tri_up hp hc ha hb (by omega) kc (by omega)))
  · exact tri_turned (tri_up hp hb hc ha (by omega) kb (by omega))
  · exact tri_turned (tri_turned (tri_up hp hc ha hb (by omega) kc (by omega)))
  · have hn : inB p [a, b, c] = false := by
      unfold inB; rw [tri_cross, cnt_same (by omega), cnt_same (by omega), cnt_same (by omega)]; rfl
    refine ⟨fun x y z => ?_, fun _ => hn⟩
    exfalso
    have hy := det_bary a b c p
    have m1 := Int.mul_pos x (show 0 < c.2 - p.2 by omega)
    have m2 := Int.mul_pos y (show 0 < a.2 - p.2 by omega)
    have m3 := Int.mul_pos z (show 0 < b.2 - p.2 by omega)
    omega

/-- The pairs of neighbours, along a way, and round a list. -/
def prs : Pt → List Pt → List (Pt × Pt)
  | _, [] => []
  | a, b :: l => (a, b) :: prs b l
def pairsOf : List Pt → List (Pt × Pt)
  | [] => []
  | a :: l => prs (lst a l) (a :: l)
theorem prs_length (a : Pt) (l : List Pt) : (prs a l).length = l.length := by
  induction l generalizing a with
  | nil => rfl
  | cons b l ih => simp [prs, ih]
theorem pairsOf_length (l : List Pt) : (pairsOf l).length = l.length := by
  cases l with
  | nil => rfl
  | cons a l => exact prs_length _ _
/-- How many of these count. -/
def cntP (p : Pt) (l : List (Pt × Pt)) : Nat := (l.map fun x => (cnt p x.1 x.2).toNat).sum
theorem cntP_snoc (p : Pt) (l : List (Pt × Pt)) (x : Pt × Pt) : cntP p (l ++ [x]) = cntP p l + (cnt p x.1 x.2).toNat := by simp [cntP]
theorem cntP_prs (p a : Pt) (l : List Pt) : cntP p (prs a l) = pc p a l := by
  induction l generalizing a with
  | nil => rfl
  | cons b l ih => have := ih b; unfold cntP at *; simp only [prs, pc, List.map_cons, List.sum_cons, this]
theorem cntP_pairs (p : Pt) (l : List Pt) : cntP p (pairsOf l) = crossN p l := by
  cases l with
  | nil => rfl
  | cons a l => exact cntP_prs _ _ _
theorem cntP_le (p : Pt) (l : List (Pt × Pt)) : cntP p l ≤ l.length := by
  induction l with
  | nil => simp [cntP]
  | cons x l ih => have := Bool.toNat_le (cnt p x.1 x.2); unfold cntP at *; simp only [List.map_cons, List.sum_cons, List.length_cons]; omega
/-- The parity, bit by bit. -/
def parP (p : Pt) (l : List (Pt × Pt)) : Bool := decide (cntP p l % 2 = 1)
theorem parP_snoc (p : Pt) (l : List (Pt × Pt)) (x : Pt × Pt) : parP p (l ++ [x]) = (parP p l != cnt p x.1 x.2) := by
  unfold parP; rw [cntP_snoc]
  rcases Nat.mod_two_eq_zero_or_one (cntP p l) with h | h <;> cases cnt p x.1 x.2 <;> simp [h, Nat.add_mod]
theorem parP_pairs (p : Pt) (l : List Pt) : parP p (pairsOf l) = inB p l := by unfold parP inB; rw [cntP_pairs]

theorem prs_get (a : Pt) (l : List Pt) (i : Nat) (h : i < l.length) : (prs a l)[i]'(by rw [prs_length]; exact h) = (if i = 0 then a else l.getD (i - 1) a, l[i]) := by
  induction l generalizing a i with
  | nil => simp at h
  | cons b l ih =>
    cases i with
    | zero => rfl
    | succ i =>
      simp only [prs, List.getElem_cons_succ]
      rw [ih b i (by simpa using h)]
      cases i with
      | zero => simp
      | succ i => simp only [Nat.add_eq_zero_iff, Nat.add_sub_cancel, List.getD_cons_succ]; simp at h; simp [h, Nat.lt_of_succ_lt]
end Go.Proofs.Geo
