/- Plain: the document's split: what is left goes, one by one, to the greatest rest. -/
import Derived.Test.YtcmijedhjebpkaaMS4
namespace Go.Proofs.Mon
set_option linter.unusedVariables false
theorem exists_srt (r : List Int) (h : 0 < r.length) : ∃ d, SrtBy r d := by
  obtain ⟨m, hm⟩ : ∃ m, r.length = m + 1 := ⟨r.length - 1, by omega⟩
  exact ⟨_, (srt_ins m r hm).1⟩
theorem srt_at {r d : List Int} (h : SrtBy r d) {i : Nat} (hi : i < r.length) : ∃ p, p < d.length ∧ d.getD p 0 = (i : Int) := by
  have hm : (i : Int) ∈ idxL r.length := by unfold idxL; exact List.mem_map.2 ⟨i, List.mem_range.2 hi, rfl⟩
  obtain ⟨p, hp, e⟩ := List.mem_iff_getElem.1 (h.1.mem_iff.2 hm)
  exact ⟨p, hp, by rw [List.getD_eq_getElem?_getD, List.getElem?_eq_getElem hp]; exact e⟩
theorem rnk_of_ahd {r : List Int} {i j : Nat} (hi : i < r.length) (hj : j < r.length) (h : ahd r i j = true) : rnk r i < rnk r j := by
  obtain ⟨d, hd⟩ := exists_srt r (by omega)
  obtain ⟨p, hp, ep⟩ := srt_at hd hi
  obtain ⟨q, hq, eq⟩ := srt_at hd hj
  rw [rnk_place hd hp ep, rnk_place hd hq eq]
  rcases Nat.lt_trichotomy p q with g | g | g
  · exact g
  · subst g
    rw [ep] at eq
    obtain rfl : i = j := by omega
    rw [ahd_irr] at h; cases h
  · have k := hd.2 q p g hp
    rw [ep, eq, Int.toNat_natCast, Int.toNat_natCast] at k
    rw [ahd_asym k] at h; cases h
theorem rnk_surj {r : List Int} {t : Nat} (ht : t < r.length) : ∃ i, i < r.length ∧ rnk r i = t := by
  obtain ⟨d, hd⟩ := exists_srt r (by omega)
  obtain ⟨i, hi, e⟩ := srt_ix hd ht
  exact ⟨i, hi, rnk_place hd (by rw [srt_len hd]; exact ht) e⟩
theorem rnk_inj {r : List Int} {i j : Nat} (hi : i < r.length) (hj : j < r.length) (h : rnk r i = rnk r j) : i = j := by
  obtain ⟨d, hd⟩ := exists_srt r (by omega)
  obtain ⟨p, hp, ep⟩ := srt_at hd hi
  obtain ⟨q, hq, eq⟩ := srt_at hd hj
  rw [rnk_place hd hp ep, rnk_place hd hq eq] at h
  subst h
  rw [ep] at eq
  omega
/-- Who has had one, when t were given out. -/
def hadL (r : List Int) (t : Nat) : List Bool := (List.range r.length).map fun i => decide (rnk r i < t)
theorem hadL_len (r : List Int) (t : Nat) : (hadL r t).length = r.length := by simp [hadL]
theorem hadL_get (r : List Int) (t : Nat) {i : Nat} (h : i < r.length) : (hadL r t).getD i false = decide (rnk r i < t) := by simp [hadL, h]
theorem hadL_zero (r : List Int) : hadL r 0 = List.replicate r.length false := by
  unfold hadL
  apply List.ext_getElem
  · simp
  · intro i h1 h2; simp
theorem hadL_set {r : List Int} {t k : Nat} (hk : k < r.length) (h : rnk r k = t) : (hadL r t).set k true = hadL r (t + 1) := by
  apply List.ext_getElem
  · simp [hadL]
  · intro i h1 h2
    have hi : i < r.length := by simpa [hadL] using h2
    rw [List.getElem_set]
    simp only [hadL, List.getElem_map, List.getElem_range]
    by_cases e : k = i
    · subst e; rw [if_pos rfl]; simp; omega
    · rw [if_neg e, decide_eq_decide]
      have : rnk r i ≠ t := fun g => e (rnk_inj hk hi (by rw [h, g]))
      omega
/-- The best of the first i that have had none; -1: none. -/
def Best (r : List Int) (t i : Nat) (b : Int) : Prop := (b = -1 ∧ ∀ j, j < i → rnk r j < t) ∨ ∃ k : Nat, b = (k : Int) ∧ k < i ∧ t ≤ rnk r k ∧ ∀ j, j < i → t ≤ rnk r j → j = k ∨ ahd r k j = true
theorem best_start (r : List Int) (t : Nat) : Best r t 0 (-1) := .inl ⟨rfl, fun j h => absurd h (by omega)⟩
theorem best_had {r : List Int} {t i : Nat} {b : Int} (h : Best r t i b) (hi : rnk r i < t) : Best r t (i + 1) b := by
  rcases h with ⟨rfl, h⟩ | ⟨k, rfl, h1, h2, h3⟩
  · exact .inl ⟨rfl, fun j hj => by by_cases e : j = i; · subst e; exact hi
                                    · exact h j (by omega)⟩
  · exact .inr ⟨k, rfl, by omega, h2, fun j hj ht => by by_cases e : j = i; · subst e; omega
                                                        · exact h3 j (by omega) ht⟩
theorem best_first {r : List Int} {t i : Nat} (h : Best r t i (-1)) (hi : t ≤ rnk r i) : Best r t (i + 1) (i : Int) := by
  rcases h with ⟨_, h⟩ | ⟨k, hk, h1, h2, h3⟩
  · exact .inr ⟨i, rfl, by omega, hi, fun j hj ht => by by_cases e : j = i; · exact .inl e
                                                        · have := h j (by omega); omega⟩
  · omega
theorem ahd_trans' {r : List Int} {i j k : Nat} (h : r.getD j 0 < r.getD i 0) (g : ahd r j k = true) : ahd r i k = true := by
  unfold ahd at *
  simp only [Bool.or_eq_true, Bool.and_eq_true, decide_eq_true_eq] at *
  omega
theorem best_more {r : List Int} {t i k : Nat} (h : Best r t i (k : Int)) (hi : t ≤ rnk r i) (g : r.getD k 0 < r.getD i 0) : Best r t (i + 1) (i : Int) := by
  rcases h with ⟨h, _⟩ | ⟨k', hk, h1, h2, h3⟩
  · omega
  · obtain rfl : k = k' := by omega
    exact .inr ⟨i, rfl, by omega, hi, fun j hj ht => by
      by_cases e : j = i
      · exact .inl e
      · rcases h3 j (by omega) ht with e2 | e2
        · subst e2
          exact .inr (by unfold ahd; rw [decide_eq_true g]; rfl)
        · exact .inr (ahd_trans' g e2)⟩
theorem best_not {r : List Int} {t i k : Nat} (h : Best r t i (k : Int)) (g : ¬ r.getD k 0 < r.getD i 0) : Best r t (i + 1) (k : Int) := by
  rcases h with ⟨h, _⟩ | ⟨k', hk, h1, h2, h3⟩
  · omega
  · obtain rfl : k = k' := by omega
    exact .inr ⟨k, rfl, by omega, h2, fun j hj ht => by
      by_cases e : j = i
      · subst e
        refine .inr ?_
        unfold ahd
        simp only [Bool.or_eq_true, Bool.and_eq_true, decide_eq_true_eq]
        omega
      · exact h3 j (by omega) ht⟩
theorem best_lt {r : List Int} {t i : Nat} {k : Nat} (h : Best r t i (k : Int)) : k < i := by
  rcases h with ⟨h, _⟩ | ⟨k', hk, h1, h2, h3⟩ <;> omega
theorem best_range {r : List Int} {t i : Nat} {b : Int} (h : Best r t i b) : b = -1 ∨ ∃ k : Nat, b = (k : Int) ∧ k < i := by
  rcases h with ⟨h, _⟩ | ⟨k', hk, h1, h2, h3⟩
  · exact .inl h
  · exact .inr ⟨k', hk, h1⟩
theorem best_end {r : List Int} {t : Nat} {b : Int} (h : Best r t r.length b) (ht : t < r.length) : ∃ k : Nat, b = (k : Int) ∧ k < r.length ∧ rnk r k = t := by
  obtain ⟨i, hi, e⟩ := rnk_surj ht
  rcases h with ⟨_, h⟩ | ⟨k, rfl, h1, h2, h3⟩
  · have := h i hi; omega
  · refine ⟨k, rfl, h1, ?_⟩
    rcases h3 i hi (by omega) with g | g
    · rw [← g]; exact e
    · have := rnk_of_ahd h1 hi g
      omega
/-- The first k of one list, then another. -/
def mixL (P Q : List Int) (k : Nat) : List Int := P.take k ++ Q.drop k
theorem mix_zero (P Q : List Int) : mixL P Q 0 = Q := by simp [mixL]
theorem mix_all {P Q : List Int} (h : P.length = Q.length) : mixL P Q Q.length = P := by simp [mixL, ← h]
theorem mix_len {P Q : List Int} (h : P.length = Q.length) (k : Nat) : (mixL P Q k).length = Q.length := by simp [mixL]; omega
theorem mix_get {P Q : List Int} (h : P.length = Q.length) {k : Nat} (hk : k < Q.length) : (mixL P Q k).getD k 0 = Q.getD k 0 := by
  unfold mixL
  rw [List.getD_eq_getElem?_getD, List.getElem?_append_right (by simp; omega), List.getD_eq_getElem?_getD]
  congr 1
  simp [List.length_take, Nat.min_eq_left (show k ≤ P.length by omega)]
theorem mix_set {P Q : List Int} (h : P.length = Q.length) {k : Nat} (hk : k < Q.length) (x : Int) (hx : x = P.getD k 0) : (mixL P Q k).set k x = mixL P Q (k + 1) := by
  subst hx
  unfold mixL
  have hl : (P.take k).length = k := by simp; omega
  rw [List.set_append_right _ _ (by omega), hl, Nat.sub_self, List.take_succ_eq_append_getElem (show k < P.length by omega), List.append_assoc, List.drop_eq_getElem_cons hk, List.set_cons_zero, List.getD_eq_getElem?_getD, List.getElem?_eq_getElem (show k < P.length by omega)]
  rfl
theorem partsL_len (t : Int) (l : List Int) : (partsL t l).length = l.length := by simp [partsL]
theorem partsL_get (t : Int) (l : List Int) {k : Nat} (h : k < l.length) : (partsL t l).getD k 0 = sgT t * ((qL (absT t) l.sum.toNat l).getD k 0 + if (rnk (rL (absT t) l.sum.toNat l) k : Int) < leftT (absT t) l.sum.toNat l then 1 else 0) := by
  simp [partsL, h]
/-- A rest, as the document takes it. -/
theorem rest_eq {n s : Nat} {l : List Int} {k : Nat} (hk : k < l.length) (h0 : 0 ≤ l.getD k 0) : (n : Int) * l.getD k 0 - (qL n s l).getD k 0 * (s : Int) = (rL n s l).getD k 0 := by
  rw [qL_get n s l hk, rL_get n s l hk]
  obtain ⟨x, hx⟩ : ∃ x : Nat, l.getD k 0 = (x : Int) := ⟨(l.getD k 0).toNat, by omega⟩
  rw [hx, Int.toNat_natCast]
  have h := Nat.div_add_mod (n * x) s
  rw [← Int.natCast_mul, ← Int.natCast_mul]
  have h2 : s * (n * x / s) = n * x / s * s := Nat.mul_comm _ _
  omega
end Go.Proofs.Mon
