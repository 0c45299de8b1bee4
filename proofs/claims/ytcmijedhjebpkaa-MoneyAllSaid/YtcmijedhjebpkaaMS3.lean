/- Plain: who has one more, by ranks. -/
import Derived.Test.YtcmijedhjebpkaaMS2
namespace Go.Proofs.Mon
theorem incL_get (js : List Int) : ∀ (q : List Int), (∀ x ∈ js, 0 ≤ x) → ∀ i, i < q.length → (incL q js).getD i 0 = q.getD i 0 + (js.count (i : Int) : Nat) := by
  unfold incL
  induction js with
  | nil => intro q _ i _; simp
  | cons j js ih =>
    intro q hj i hi
    rw [List.foldl_cons, ih _ (fun x hx => hj x (List.mem_cons_of_mem _ hx)) i (by simpa using hi)]
    have h0 := hj j List.mem_cons_self
    rw [List.count_cons]
    by_cases e : j = (i : Int)
    · subst e
      rw [Int.toNat_natCast, List.getD_eq_getElem?_getD, List.getElem?_set_self hi]
      simp; omega
    · have e2 : j.toNat ≠ i := by omega
      rw [List.getD_eq_getElem?_getD, List.getElem?_set_ne e2, ← List.getD_eq_getElem?_getD]
      simp [e]
theorem ahd_irr (r : List Int) (i : Nat) : ahd r i i = false := by unfold ahd; simp
theorem ahd_asym {r : List Int} {i j : Nat} (h : ahd r i j = true) : ahd r j i = false := by
  unfold ahd at *
  simp only [Bool.or_eq_true, Bool.and_eq_true, decide_eq_true_eq, Bool.or_eq_false_iff, Bool.and_eq_false_iff, decide_eq_false_iff_not] at *
  omega
theorem idxL_nodup (n : Nat) : (idxL n).Nodup := by
  unfold idxL
  refine List.Pairwise.map _ (R := fun a b => a ≠ b) ?_ List.nodup_range
  intro a b h e
  exact h (by omega)
theorem countP_split (P : Int → Bool) (d : List Int) (p : Nat) (hp : p < d.length) (h1 : ∀ k, k < p → P (d.getD k 0) = true) (h2 : ∀ k, p ≤ k → k < d.length → P (d.getD k 0) = false) : d.countP P = p := by
  rw [← List.take_append_drop p d, List.countP_append]
  have a1 : (d.take p).countP P = (d.take p).length := by
    rw [List.countP_eq_length]
    intro x hx
    obtain ⟨k, hk, rfl⟩ := List.getElem_of_mem hx
    rw [List.length_take] at hk
    have := h1 k (by omega)
    rw [List.getD_eq_getElem?_getD, List.getElem?_eq_getElem (by omega)] at this
    simpa using this
  have a2 : (d.drop p).countP P = 0 := by
    rw [List.countP_eq_zero]
    intro x hx
    obtain ⟨k, hk, rfl⟩ := List.getElem_of_mem hx
    rw [List.length_drop] at hk
    have := h2 (p + k) (by omega) (by omega)
    rw [List.getD_eq_getElem?_getD, List.getElem?_eq_getElem (by omega)] at this
    simpa using this
  rw [a1, a2, List.length_take]
  omega
theorem rnk_place {r d : List Int} (h : SrtBy r d) {p i : Nat} (hp : p < d.length) (hi : d.getD p 0 = (i : Int)) : rnk r i = p := by
  have e1 : rnk r i = (idxL r.length).countP fun x => ahd r x.toNat i := by
    unfold rnk idxL
    rw [List.countP_map]
    rfl
  rw [e1, ← h.1.countP_eq]
  have hin : (d.getD p 0).toNat = i := by rw [hi]; simp
  refine countP_split _ d p hp (fun k hk => ?_) (fun k hk hk2 => ?_)
  · have := h.2 k p hk hp
    rwa [hin] at this
  · rcases Nat.lt_or_ge p k with g | g
    · have := h.2 p k g hk2
      rw [hin] at this
      exact ahd_asym this
    · obtain rfl : k = p := by omega
      rw [hin]; exact ahd_irr r i
theorem count_take {d : List Int} (hn : d.Nodup) {p lf : Nat} (hp : p < d.length) : (d.take lf).count (d.getD p 0) = if p < lf then 1 else 0 := by
  have hg : d.getD p 0 = d[p] := by rw [List.getD_eq_getElem?_getD, List.getElem?_eq_getElem hp]; rfl
  rw [hg]
  have hnt : (d.take lf).Nodup := hn.sublist (List.take_sublist _ _)
  split
  · rename_i h
    have hm : d[p] ∈ d.take lf := by
      rw [List.mem_take_iff_getElem]
      exact ⟨p, by omega, rfl⟩
    have h1 := List.nodup_iff_count.1 hnt d[p]
    have h2 := List.count_pos_iff.2 hm
    omega
  · rename_i h
    refine List.count_eq_zero.2 fun hm => ?_
    rw [List.mem_take_iff_getElem] at hm
    obtain ⟨k, hk, he⟩ := hm
    have := (List.getElem_inj hn).1 he
    omega
theorem parts_eq {N s lf : Nat} {t sg : Int} {l d : List Int} (h : SrtBy (rL N s l) d) (hN : t.natAbs = N) (hS : l.sum = (s : Int)) (hsg : sgT t = sg) (hlf : (N : Int) - (qL N s l).sum = (lf : Int)) :
    ((incL (qL N s l) (d.take lf)).map fun x => x * sg) = partsL t l := by
  have hs : l.sum.toNat = s := by rw [hS]; simp
  have hdl : d.length = l.length := by rw [srt_len h, rL_len]
  unfold partsL absT leftT
  rw [hs, hN, hsg, hlf]
  apply List.ext_getElem
  · simp [incL_len, qL_len]
  · intro i h1 h2
    have hi : i < l.length := by simpa [incL_len, qL_len] using h1
    have hmem : (i : Int) ∈ d := h.1.mem_iff.2 (by rw [rL_len]; unfold idxL; exact List.mem_map.2 ⟨i, List.mem_range.2 hi, rfl⟩)
    obtain ⟨p, hp, he⟩ := List.getElem_of_mem hmem
    have hgp : d.getD p 0 = (i : Int) := by rw [List.getD_eq_getElem?_getD, List.getElem?_eq_getElem hp, he]; rfl
    have hnd : d.Nodup := h.1.nodup_iff.2 (idxL_nodup _)
    have hr := rnk_place h hp hgp
    have hc := count_take hnd (lf := lf) hp
    rw [hgp] at hc
    have hnn : ∀ x ∈ d.take lf, 0 ≤ x := fun x hx => by
      have := h.1.mem_iff.1 (List.mem_of_mem_take hx)
      unfold idxL at this
      obtain ⟨j, _, rfl⟩ := List.mem_map.1 this
      omega
    have hg := incL_get (d.take lf) (qL N s l) hnn i (by rw [qL_len]; exact hi)
    rw [hc] at hg
    have hgg : (incL (qL N s l) (d.take lf))[i]'(by rw [incL_len, qL_len]; exact hi) = (incL (qL N s l) (d.take lf)).getD i 0 := by
      rw [List.getD_eq_getElem?_getD, List.getElem?_eq_getElem (by rw [incL_len, qL_len]; exact hi)]; rfl
    simp only [List.getElem_map, List.getElem_range]
    rw [hgg, hg, hr, Int.mul_comm sg]
    congr 2
    by_cases hplf : p < lf
    · rw [if_pos hplf, if_pos (by omega)]; rfl
    · rw [if_neg hplf, if_neg (by omega)]; rfl
end Go.Proofs.Mon
