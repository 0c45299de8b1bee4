/- A region that draws its order, by a relation that each operation keeps: no order is walked by itself. -/
import Derived.Test.YtcmijedhjebpkaaW0
import Derived.OrdersIn
namespace Go.Proofs.Ytcmijedhjebpkaa
open Go.RowKit

theorem countP_less {α : Type} (p p' : α → Bool) (i : α) (hi : p i = true) (hi' : p' i = false) : ∀ (L : List α), (∀ j ∈ L, p' j = true → p j = true) → i ∈ L → L.countP p' + 1 ≤ L.countP p := by
  intro L
  induction L with
  | nil => intro _ h; cases h
  | cons x L ih =>
    intro hle hm
    have hmono : L.countP p' ≤ L.countP p := List.countP_mono_left (fun j hj h => hle j (by simp [hj]) h)
    simp only [List.countP_cons]
    by_cases hx : i ∈ L
    · have := ih (fun j hj => hle j (by simp [hj])) hx
      have hxx := hle x (by simp)
      cases h1 : p' x <;> cases h2 : p x <;> simp_all <;> omega
    · have e : i = x := by simpa [hx] using hm
      subst e
      rw [hi, hi']; simp; omega
/-- How many are not listed yet. -/
def unl (n : Nat) (listed : Array Bool) : Nat := (List.range n).countP fun i => !listed.getD i true
theorem ready_mem {md : Region.Mode} {ops : Array Oper} {listed : Array Bool} {i : Nat} (h : i ∈ Region.ready md ops listed) :
    i < ops.size ∧ listed.getD i true = false ∧ ∀ o, ops[i]? = some o → (o.after.all fun e => !Region.binds md e || listed.getD e.on false) = true := by
  unfold Region.ready at h
  rw [List.mem_filter, List.mem_range, Bool.and_eq_true] at h
  obtain ⟨h1, h2, h3⟩ := h
  refine ⟨h1, by simpa using h2, fun o ho => ?_⟩
  rw [ho] at h3; simpa using h3
theorem unl_set {n i : Nat} {listed : Array Bool} (hi : i < n) (h : listed.getD i true = false) : unl n (listed.setIfInBounds i true) + 1 ≤ unl n listed := by
  unfold unl
  refine countP_less _ _ i (by rw [h]; rfl) ?_ _ ?_ (List.mem_range.2 hi)
  · simp [Array.getElem?_setIfInBounds]
    split <;> rfl
  · intro j _ hj
    simp only [Array.getD_eq_getD_getElem?, Array.getElem?_setIfInBounds] at hj ⊢
    by_cases e : i = j
    · subst e
      simp only [Array.getD_eq_getD_getElem?] at h
      rw [h]; rfl
    · simpa [e] using hj
theorem ready_nil {md : Region.Mode} {ops : Array Oper} {listed : Array Bool} (h : unl ops.size listed = 0) : Region.ready md ops listed = [] := by
  unfold Region.ready
  rw [List.filter_eq_nil_iff]
  intro i hi hc
  unfold unl at h
  rw [List.countP_eq_zero] at h
  have := h i hi
  simp only [Bool.and_eq_true] at hc
  exact this hc.1
theorem ready_all {md : Region.Mode} {ops : Array Oper} {listed : Array Bool} (h : Region.ready md ops listed = []) {i : Nat} {o : Oper} (ho : ops[i]? = some o) (hd : (o.after.all fun e => !Region.binds md e || listed.getD e.on false) = true) : listed.getD i true = true := by
  cases hc : listed.getD i true with
  | true => rfl
  | false =>
    have hi : i ∈ Region.ready md ops listed := by
      unfold Region.ready
      rw [List.mem_filter, List.mem_range, Bool.and_eq_true]
      exact ⟨(Array.getElem?_eq_some_iff.1 ho).1, by rw [hc]; rfl, by rw [ho]; simpa using hd⟩
    rw [h] at hi; cases hi
theorem wpOp_mono' {P : Program} {ops : Array Oper} {Q : Exit → Act → World → Prop} {i : Nat} {a : Act} {w : World} {K K' : Act → World → Prop} (h : ∀ a w, K a w → K' a w) (hh : wpOp P ops Q i K a w) : wpOp P ops Q i K' a w := by
  unfold wpOp at *
  split
  · exact h _ _ (by simpa [*] using hh)
  · rename_i o ho
    simp only [ho] at hh
    split
    · rename_i hw
      simp only [hw, if_true] at hh
      exact hh.imp (Oper.wp_mono h) id
    · rename_i hw
      simp only [hw] at hh
      exact h _ _ hh
theorem wpAny_inv {P : Program} {md : Region.Mode} {ops : Array Oper} {Q : Exit → Act → World → Prop} (St : Array Bool → Act → World → Prop)
    (hstep : ∀ listed a w i, St listed a w → i ∈ Region.ready md ops listed → wpOp P ops Q i (St (listed.setIfInBounds i true)) a w)
    (hdone : ∀ listed a w, St listed a w → Region.ready md ops listed = [] → Q .normal a w) :
    ∀ (fuel : Nat) (listed : Array Bool) (a : Act) (w : World), unl ops.size listed ≤ fuel → St listed a w → wpAny P md ops Q fuel listed a w
  | 0, listed, a, w, hu, hs => by
    have hr := ready_nil (md := md) (Nat.le_zero.1 hu)
    exact ⟨hr, hdone _ _ _ hs hr⟩
  | fuel + 1, listed, a, w, hu, hs => by
    refine ⟨fun h0 => hdone _ _ _ hs h0, fun i hi => ?_⟩
    have hm := ready_mem hi
    have hl := unl_set hm.1 hm.2.1
    exact wpOp_mono' (fun a' w' h' => wpAny_inv St hstep hdone fuel _ a' w' (by omega) h') (hstep _ _ _ _ hs hi)
theorem wpAnyIn_inv {F : Fence} {n : Nat} {P : Program} {md : Region.Mode} {ops : Array Oper} {Q : Exit → Act → World → Prop} (St : Array Bool → Act → World → Prop)
    (hstep : ∀ listed a w i, St listed a w → i ∈ Region.ready md ops listed → wpOpIn F n P ops Q i (St (listed.setIfInBounds i true)) a w)
    (hdone : ∀ listed a w, St listed a w → Region.ready md ops listed = [] → Q .normal a w) :
    ∀ (fuel : Nat) (listed : Array Bool) (a : Act) (w : World), unl ops.size listed ≤ fuel → St listed a w → wpAnyIn F n P md ops Q fuel listed a w
  | 0, listed, a, w, hu, hs => by
    have hr := ready_nil (md := md) (Nat.le_zero.1 hu)
    exact ⟨hr, hdone _ _ _ hs hr⟩
  | fuel + 1, listed, a, w, hu, hs => by
    refine ⟨fun h0 => hdone _ _ _ hs h0, fun i hi => ?_⟩
    have hm := ready_mem hi
    have hl := unl_set hm.1 hm.2.1
    exact wpOpIn_mono (fun a' w' h' => wpAnyIn_inv St hstep hdone fuel _ a' w' (by omega) h') (hstep _ _ _ _ hs hi)
end Go.Proofs.Ytcmijedhjebpkaa
