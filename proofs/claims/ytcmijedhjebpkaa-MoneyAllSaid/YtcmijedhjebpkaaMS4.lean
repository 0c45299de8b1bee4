/- Plain: the insertion sort of places by their rests is that by the total order. -/
import Derived.Test.YtcmijedhjebpkaaMS3
import Derived.Shelf.GgSortMore.Stable
namespace Go.Proofs.Mon
open Go.Sort
def ltF {n : Nat} (R : List Int) (x y : Fin n) : Bool := decide (R.getD y.val 0 < R.getD x.val 0)
def ltT {n : Nat} (R : List Int) (x y : Fin n) : Bool := ahd R x.val y.val
theorem lt_same {n : Nat} (R : List Int) {x y : Fin n} (h : y.val < x.val) : ltF R x y = ltT R x y := by
  unfold ltF ltT ahd
  rw [show decide (x.val < y.val) = false from decide_eq_false (by omega)]
  simp
theorem ltT_swo {n : Nat} (R : List Int) : SWO (ltT (n := n) R) := by
  refine ⟨fun x => ahd_irr R _, fun x y z h1 h2 => ?_, fun x y z h1 h2 => ?_⟩
  · unfold ltT ahd at *
    simp only [Bool.or_eq_true, Bool.and_eq_true, decide_eq_true_eq] at *
    omega
  · unfold ltT ahd at *
    simp only [Bool.or_eq_false_iff, Bool.and_eq_false_iff, decide_eq_false_iff_not] at *
    omega
theorem ltT_total {n : Nat} {R : List Int} {x y : Fin n} (h : ltT R y x = false) (hne : x ≠ y) : ltT R x y = true := by
  have : x.val ≠ y.val := fun e => hne (Fin.ext e)
  unfold ltT ahd at *
  simp only [Bool.or_eq_true, Bool.and_eq_true, decide_eq_true_eq, Bool.or_eq_false_iff, Bool.and_eq_false_iff, decide_eq_false_iff_not] at *
  omega
section
variable {n : Nat} [Inhabited (Fin n)]
theorem inner_same (R : List Int) : ∀ (j : Nat) (d : Array (Fin n)), j < d.size → (∀ k, k < j → d[k]!.val < d[j]!.val) → insInner (ltF R) 0 j d = insInner (ltT R) 0 j d
  | 0, d, _, _ => rfl
  | j + 1, d, hj, h => by
    unfold insInner
    rw [lt_same R (h j (by omega))]
    split
    · refine inner_same R j _ (by rw [size_swp]; omega) fun k hk => ?_
      rw [swp_right d (j + 1) j (by omega), swp_other d (j + 1) j k (by omega) (by omega)]
      exact h k (by omega)
    · rfl
/-- What a step of the sort keeps: places above stay, and what holds of all below and here goes on holding. -/
theorem inner_keep (lt : Fin n → Fin n → Bool) (Q : Fin n → Prop) : ∀ (j : Nat) (d : Array (Fin n)), j < d.size → (∀ k, k ≤ j → Q d[k]!) → (insInner lt 0 j d).size = d.size ∧ (∀ k, j < k → (insInner lt 0 j d)[k]! = d[k]!) ∧ ∀ k, k ≤ j → Q (insInner lt 0 j d)[k]!
  | 0, d, _, h => ⟨rfl, fun _ _ => rfl, h⟩
  | j + 1, d, hj, h => by
    unfold insInner
    split
    · have hs : ∀ k, k ≤ j → Q (swp d (j + 1) j)[k]! := fun k hk => by
        by_cases e : k = j
        · subst e; rw [swp_right d (k + 1) k (by omega)]; exact h (k + 1) (Nat.le_refl _)
        · rw [swp_other d (j + 1) j k (by omega) e]; exact h k (by omega)
      obtain ⟨a1, a2, a3⟩ := inner_keep lt Q j (swp d (j + 1) j) (by rw [size_swp]; omega) hs
      refine ⟨by rw [a1, size_swp], fun k hk => ?_, fun k hk => ?_⟩
      · rw [a2 k (by omega), swp_other d (j + 1) j k (by omega) (by omega)]
      · by_cases e : k = j + 1
        · subst e
          rw [a2 (j + 1) (by omega), swp_left d (j + 1) j hj (by omega)]
          exact h j (by omega)
        · exact a3 k (by omega)
    · exact ⟨rfl, fun _ _ => rfl, h⟩
theorem outer_same (R : List Int) (b : Nat) : ∀ (m i : Nat) (d : Array (Fin n)), b - i = m → 0 < i → b ≤ d.size → (∀ k, i ≤ k → k < b → d[k]!.val = k) → (∀ k, k < i → d[k]!.val < i) → insOuter (ltF R) 0 b i d = insOuter (ltT R) 0 b i d := by
  intro m
  induction m with
  | zero =>
    intro i d hm _ _ _ _
    rw [insOuter_stop (ltF R) 0 b i d (by omega), insOuter_stop (ltT R) 0 b i d (by omega)]
  | succ m ih =>
    intro i d hm h0 hb h1 h2
    rw [insOuter_go (ltF R) 0 b i d (by omega), insOuter_go (ltT R) 0 b i d (by omega)]
    have hii : d[i]!.val = i := h1 i (Nat.le_refl _) (by omega)
    rw [inner_same R i d (by omega) (fun k hk => by rw [hii]; exact h2 k hk)]
    obtain ⟨a1, a2, a3⟩ := inner_keep (ltT R) (fun x => x.val < i + 1) i d (by omega) (fun k hk => by
      by_cases e : k = i
      · subst e; omega
      · have := h2 k (by omega); omega)
    exact ih (i + 1) _ (by omega) (by omega) (by rw [a1]; exact hb) (fun k hk hk2 => by rw [a2 k (by omega)]; exact h1 k (by omega) hk2) (fun k hk => a3 k (by omega))
/-- The places as they stand ahead of the sort. -/
def ids (m : Nat) : Array (Fin (m + 1)) := Array.ofFn fun i => i
def outI {m : Nat} (d : Array (Fin (m + 1))) : Array Int := d.map fun x => (x.val : Int)
theorem ids_size (m : Nat) : (ids m).size = m + 1 := by simp [ids]
theorem ids_get (m : Nat) {k : Nat} (h : k < m + 1) : (ids m)[k]!.val = k := by
  rw [getElem!_pos _ k (by rw [ids_size]; exact h)]
  simp [ids]
theorem ids_out (m : Nat) : (ids m).toList.map (fun x : Fin (m + 1) => (x.val : Int)) = idxL (m + 1) := by
  apply List.ext_getElem
  · simp [ids, idxL]
  · intro i h1 h2
    have hi : i < m + 1 := by simpa [idxL] using h2
    have e1 := ids_get m hi
    rw [getElem!_pos _ i (by rw [ids_size]; exact hi)] at e1
    rw [List.getElem_map, Array.getElem_toList, e1]
    simp [idxL]
theorem srt_ins (m : Nat) (R : List Int) (hR : R.length = m + 1) : SrtBy R (outI (insertionSort (ltF R) (ids m) 0 (m + 1))).toList ∧ (insertionSort (ltF R) (ids m) 0 (m + 1)).size = m + 1 := by
  have e : insertionSort (ltF R) (ids m) 0 (m + 1) = insertionSort (ltT R) (ids m) 0 (m + 1) := by
    unfold insertionSort
    refine outer_same R (m + 1) _ _ _ rfl (by omega) (by rw [ids_size]; exact Nat.le_refl _) (fun k _ hk => ids_get m hk) (fun k hk => ?_)
    rw [ids_get m (by omega)]; omega
  rw [e]
  obtain ⟨⟨p1, _, p3⟩, p4⟩ := insertionSort_holds (ltT_swo R) (ids m) 0 (m + 1) (by omega) (by rw [ids_size]; exact Nat.le_refl _)
  generalize insertionSort (ltT R) (ids m) 0 (m + 1) = d at *
  rw [ids_size] at p1
  have p5 : d.toList.Perm (ids m).toList := by
    have h1 : d.extract 0 (m + 1) = d := by
      have h := Array.extract_size (xs := d)
      rwa [show d.extract 0 d.size = d.extract 0 (m + 1) from congrArg (fun z => d.extract 0 z) p1] at h
    have h2 : (ids m).extract 0 (m + 1) = ids m := by
      have h := Array.extract_size (xs := ids m)
      rwa [show (ids m).extract 0 (ids m).size = (ids m).extract 0 (m + 1) from congrArg (fun z => (ids m).extract 0 z) (ids_size m)] at h
    rwa [h1, h2] at p3
  have p6 : (outI d).toList.Perm (idxL (m + 1)) := by
    unfold outI
    rw [Array.toList_map, ← ids_out]
    exact p5.map _
  refine ⟨⟨by rw [hR]; exact p6, fun i j hij hj => ?_⟩, p1⟩
  have hjd : j < d.size := by simpa [outI] using hj
  have hnd : (outI d).toList.Nodup := p6.nodup_iff.2 (idxL_nodup _)
  have hg : ∀ k, k < d.size → ((outI d).toList.getD k 0) = (d[k]!.val : Int) := fun k hk => by
    rw [getElem!_pos d k hk]
    simp [outI, hk]
  rw [hg i (by omega), hg j hjd, Int.toNat_natCast, Int.toNat_natCast]
  have hne : d[i]! ≠ d[j]! := fun e2 => by
    have h1 := hg i (by omega)
    have h2 := hg j hjd
    rw [e2, ← h2] at h1
    have hi' : i < (outI d).toList.length := by simp [outI]; omega
    rw [List.getD_eq_getElem?_getD, List.getElem?_eq_getElem hi', List.getD_eq_getElem?_getD, List.getElem?_eq_getElem hj] at h1
    have := (List.getElem_inj hnd).1 h1
    omega
  exact ltT_total (p4 i j (by omega) hij (by omega)) hne
end
end Go.Proofs.Mon
