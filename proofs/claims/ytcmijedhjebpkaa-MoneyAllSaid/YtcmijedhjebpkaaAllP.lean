/- Plain: the parts of a split come to the total; each is one of the two beside what is its own; a greater weight has not less. -/
import Derived.Test.YtcmijedhjebpkaaSRP
namespace Go.Proofs.Mon
set_option linter.unusedVariables false
theorem sum_range_add (f g : Nat → Int) (n : Nat) : ((List.range n).map fun i => f i + g i).sum = ((List.range n).map f).sum + ((List.range n).map g).sum := by
  induction n with
  | zero => rfl
  | succ n ih =>
    simp only [List.range_succ, List.map_append, List.sum_append, List.map_cons, List.map_nil, List.sum_cons, List.sum_nil]
    rw [ih]; omega
theorem sum_range_le (f g : Nat → Int) (n : Nat) (h : ∀ i, i < n → f i ≤ g i) : ((List.range n).map f).sum ≤ ((List.range n).map g).sum := by
  induction n with
  | zero => exact Int.le_refl _
  | succ n ih =>
    simp only [List.range_succ, List.map_append, List.sum_append, List.map_cons, List.map_nil, List.sum_cons, List.sum_nil]
    have h1 := ih fun i hi => h i (by omega)
    have h2 := h n (by omega)
    omega
theorem sum_range_if (p : Nat → Bool) (c : Int) (n : Nat) : ((List.range n).map fun i => if p i then c else 0).sum = ((List.range n).countP p : Nat) * c := by
  induction n with
  | zero => simp
  | succ n ih =>
    simp only [List.range_succ, List.map_append, List.sum_append, List.map_cons, List.map_nil, List.sum_cons, List.sum_nil, List.countP_append, List.countP_cons, List.countP_nil]
    rw [ih]
    by_cases h : p n = true
    · rw [if_pos h, if_pos h, Nat.zero_add, Int.natCast_add, Int.add_mul]; simp
    · rw [if_neg h, if_neg h]; simp
theorem range_getD (Q : List Int) : ((List.range Q.length).map fun i => Q.getD i 0) = Q := by
  apply List.ext_getElem
  · simp
  · intro i h1 h2
    simp [h2]
theorem countP_add (p q s : Nat → Bool) (L : List Nat) (h : ∀ x, x ∈ L → (p x = (q x || s x)) ∧ (q x && s x) = false) : L.countP p = L.countP q + L.countP s := by
  induction L with
  | nil => rfl
  | cons x L ih =>
    obtain ⟨h1, h2⟩ := h x List.mem_cons_self
    rw [List.countP_cons, List.countP_cons, List.countP_cons, ih fun y hy => h y (List.mem_cons_of_mem _ hy), h1]
    cases hq : q x <;> cases hs : s x <;> simp_all <;> omega
theorem rnk_count (r : List Int) : ∀ t, t ≤ r.length → (List.range r.length).countP (fun i => decide (rnk r i < t)) = t := by
  intro t
  induction t with
  | zero => intro _; simp
  | succ t ih =>
    intro ht
    obtain ⟨i0, hi0, e⟩ := rnk_surj (r := r) (t := t) (by omega)
    have h1 := countP_add (fun i => decide (rnk r i < t + 1)) (fun i => decide (rnk r i < t)) (fun i => i == i0) (List.range r.length) (fun x hx => by
      have hx' := List.mem_range.1 hx
      by_cases g : x = i0
      · subst g; simp [e]
      · have : rnk r x ≠ t := fun h => g (rnk_inj hx' hi0 (by rw [h, e]))
        have e1 : (x == i0) = false := by simpa using g
        simp only [e1, Bool.or_false, Bool.and_false, and_true, decide_eq_decide]
        omega)
    rw [h1, ih (by omega)]
    have h2 : (List.range r.length).countP (fun i => i == i0) = 1 := by
      have h3 := List.nodup_iff_count.1 (List.nodup_range (n := r.length)) i0
      have h4 := List.count_pos_iff.2 (List.mem_range.2 hi0)
      have h5 : List.count i0 (List.range r.length) = (List.range r.length).countP (fun i => i == i0) := rfl
      omega
    rw [h2]
/-- The sizes of the parts. -/
def uL (N s lf : Nat) (l : List Int) : List Int := (List.range l.length).map fun i => (qL N s l).getD i 0 + if decide (rnk (rL N s l) i < lf) then 1 else 0
theorem uL_len (N s lf : Nat) (l : List Int) : (uL N s lf l).length = l.length := by simp [uL]
theorem uL_get (N s lf : Nat) (l : List Int) {k : Nat} (h : k < l.length) : (uL N s lf l).getD k 0 = (qL N s l).getD k 0 + if decide (rnk (rL N s l) k < lf) then 1 else 0 := by simp [uL, h]
section
variable {N s lf : Nat} {l : List Int} (h : l.any badW = false) (hs : l.sum = (s : Int)) (h0 : 0 < s) (hlf : (N : Int) - (qL N s l).sum = (lf : Int))
include h hs h0 hlf
theorem lf_le : lf ≤ l.length := by have := (left_bd (n := N) h hs h0).2; omega
theorem all_sum : (uL N s lf l).sum = (N : Int) := by
  unfold uL
  rw [sum_range_add, sum_range_if]
  have h1 := range_getD (qL N s l)
  rw [qL_len] at h1
  have h2 := rnk_count (rL N s l) lf (by rw [rL_len]; exact lf_le h hs h0 hlf)
  rw [rL_len] at h2
  rw [h1, h2]
  omega
theorem rest_sum : (rL N s l).sum = (lf : Int) * s := by
  have _ := h0
  have h1 := qr_sum N s l (fun x hx => by
    rw [List.any_eq_false] at h
    exact (badW_false (by simpa using h x hx)).1)
  rw [hs] at h1
  rw [← hlf, Int.sub_mul]
  omega
theorem rest_bd {k : Nat} (hk : k < l.length) : 0 ≤ (rL N s l).getD k 0 ∧ (rL N s l).getD k 0 < (s : Int) := by
  have _ := h; have _ := hs; have _ := hlf
  rw [rL_get N s l hk]
  have := Nat.mod_lt (N * (l.getD k 0).toNat) h0
  omega
/-- Who has one more has a rest. -/
theorem has_rest {i : Nat} (hi : i < l.length) (hr : rnk (rL N s l) i < lf) : 0 < (rL N s l).getD i 0 := by
  have hb := rest_bd (N := N) (lf := lf) h hs h0 hlf hi
  rcases Int.lt_or_eq_of_le hb.1 with g | g
  · exact g
  · exfalso
    have h1 := range_getD (rL N s l)
    rw [rL_len] at h1
    have h2 := sum_range_le (fun j => (rL N s l).getD j 0) (fun j => if decide (rnk (rL N s l) j < rnk (rL N s l) i) then (s : Int) else 0) l.length (fun j hj => by
      have hbj := rest_bd (N := N) (lf := lf) h hs h0 hlf hj
      show (rL N s l).getD j 0 ≤ if decide (rnk (rL N s l) j < rnk (rL N s l) i) then (s : Int) else 0
      rcases Int.lt_or_eq_of_le hbj.1 with g2 | g2
      · have ha : ahd (rL N s l) j i = true := by unfold ahd; rw [decide_eq_true (by omega)]; rfl
        have hlt := rnk_of_ahd (by rw [rL_len]; exact hj) (by rw [rL_len]; exact hi) ha
        rw [if_pos (decide_eq_true hlt)]
        omega
      · rw [← g2]; split <;> omega)
    rw [h1, sum_range_if, rest_sum h hs h0 hlf] at h2
    have h3 := rnk_count (rL N s l) (rnk (rL N s l) i) (by have := lf_le h hs h0 hlf; rw [rL_len]; omega)
    rw [rL_len] at h3
    rw [h3] at h2
    have h4 := Int.le_of_mul_le_mul_right h2 (by omega : (0 : Int) < s)
    omega
theorem all_own {k x : Nat} (hk : k < l.length) (hx : l.getD k 0 = (x : Int)) : (uL N s lf l).getD k 0 = ((N * x / s : Nat) : Int) ∨ ((uL N s lf l).getD k 0 = ((N * x / s : Nat) : Int) + 1 ∧ N * x % s ≠ 0) := by
  rw [uL_get N s lf l hk, qL_get N s l hk, hx, Int.toNat_natCast]
  by_cases g : rnk (rL N s l) k < lf
  · rw [if_pos (decide_eq_true g)]
    have h1 := has_rest h hs h0 hlf hk g
    rw [rL_get N s l hk, hx, Int.toNat_natCast] at h1
    exact .inr ⟨rfl, by omega⟩
  · rw [if_neg (by simpa using g)]
    exact .inl (Int.add_zero _)
theorem all_mono {i k : Nat} (hi : i < l.length) (hk : k < l.length) (hw : l.getD i 0 < l.getD k 0) : (uL N s lf l).getD i 0 ≤ (uL N s lf l).getD k 0 := by
  have b1 := any_get h hi
  obtain ⟨x, hx⟩ : ∃ x : Nat, l.getD i 0 = (x : Int) := ⟨(l.getD i 0).toNat, by omega⟩
  obtain ⟨y, hy⟩ : ∃ y : Nat, l.getD k 0 = (y : Int) := ⟨(l.getD k 0).toNat, by omega⟩
  have hxy : x < y := by omega
  rw [uL_get N s lf l hi, uL_get N s lf l hk]
  have q1 := qL_get N s l hi
  have q2 := qL_get N s l hk
  have r1 := rL_get N s l hi
  have r2 := rL_get N s l hk
  rw [hx, Int.toNat_natCast] at q1 r1
  rw [hy, Int.toNat_natCast] at q2 r2
  rw [q1, q2]
  have hm : N * x ≤ N * y := Nat.mul_le_mul_left _ (by omega)
  have hq : N * x / s ≤ N * y / s := Nat.div_le_div_right hm
  rcases Nat.lt_or_eq_of_le hq with g | g
  · split <;> split <;> omega
  · rw [g]
    by_cases gi : rnk (rL N s l) i < lf
    · have gk : rnk (rL N s l) k < lf := by
        have hp := has_rest h hs h0 hlf hi gi
        rw [r1] at hp
        have d1 := Nat.div_add_mod (N * x) s
        have d2 := Nat.div_add_mod (N * y) s
        rw [g] at d1
        have hN : 0 < N := by
          rcases Nat.eq_zero_or_pos N with z | z
          · subst z; simp at hp
          · exact z
        have hlt : N * x < N * y := Nat.mul_lt_mul_of_pos_left hxy hN
        have ha : ahd (rL N s l) k i = true := by unfold ahd; rw [r1, r2, decide_eq_true (by omega)]; rfl
        have := rnk_of_ahd (by rw [rL_len]; exact hk) (by rw [rL_len]; exact hi) ha
        omega
      rw [if_pos (decide_eq_true gi), if_pos (decide_eq_true gk)]
      exact Int.le_refl _
    · rw [if_neg (by simpa using gi)]
      split <;> omega
theorem uL_nonneg : ∀ x ∈ uL N s lf l, 0 ≤ x := by
  have _ := hlf
  intro x hx
  unfold uL at hx
  obtain ⟨i, _, rfl⟩ := List.mem_map.1 hx
  have := (qL_bd (n := N) h hs h0 i).1
  split <;> omega
theorem uL_take (k : Nat) : 0 ≤ ((uL N s lf l).take k).sum ∧ ((uL N s lf l).take k).sum ≤ (N : Int) := by
  have h1 := uL_nonneg h hs h0 hlf
  have h2 := take_sum_le h1 k
  rw [all_sum h hs h0 hlf] at h2
  exact ⟨sum_nonneg fun x hx => h1 x (List.mem_of_mem_take hx), h2⟩
end
theorem part_u {t : Int} {l : List Int} {N s lf : Nat} (hN : t.natAbs = N) (hs : l.sum = (s : Int)) (hlf : (N : Int) - (qL N s l).sum = (lf : Int)) {k : Nat} (hk : k < l.length) : (partsL t l).getD k 0 = sgT t * (uL N s lf l).getD k 0 := by
  rw [partsL_get t l hk, uL_get N s lf l hk]
  have e2 : l.sum.toNat = s := by rw [hs]; simp
  unfold leftT absT
  rw [hN, e2, hlf]
  congr 2
  by_cases g : rnk (rL N s l) k < lf
  · rw [if_pos (by omega), if_pos (decide_eq_true g)]
  · rw [if_neg (by omega), if_neg (by simpa using g)]
end Go.Proofs.Mon
