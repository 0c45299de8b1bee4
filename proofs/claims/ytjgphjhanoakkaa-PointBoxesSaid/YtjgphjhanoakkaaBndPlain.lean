/- Plain boxes of points; no program in sight. -/
import Derived.Test.YtjgphjhanoakkaaGeoPlain
namespace Go.Proofs.Geo

/-- The least, and the greatest, of a coordinate. -/
def mnC (c : Pt → Int) (m : Int) (l : List Pt) : Int := l.foldl (fun m p => min m (c p)) m
def mxC (c : Pt → Int) (m : Int) (l : List Pt) : Int := l.foldl (fun m p => max m (c p)) m
theorem mnC_snoc (c : Pt → Int) (m : Int) (l : List Pt) (p : Pt) : mnC c m (l ++ [p]) = min (mnC c m l) (c p) := by simp [mnC]
theorem mxC_snoc (c : Pt → Int) (m : Int) (l : List Pt) (p : Pt) : mxC c m (l ++ [p]) = max (mxC c m l) (c p) := by simp [mxC]
theorem mnC_le (c : Pt → Int) (m : Int) (l : List Pt) : mnC c m l ≤ m ∧ ∀ p ∈ l, mnC c m l ≤ c p := by
  induction l generalizing m with
  | nil => simp [mnC]
  | cons q l ih =>
    have := ih (min m (c q))
    have e : mnC c m (q :: l) = mnC c (min m (c q)) l := rfl
    rw [e]
    refine ⟨by omega, fun p hp => ?_⟩
    rcases List.mem_cons.1 hp with rfl | hp
    · omega
    · exact this.2 p hp
theorem mxC_le (c : Pt → Int) (m : Int) (l : List Pt) : m ≤ mxC c m l ∧ ∀ p ∈ l, c p ≤ mxC c m l := by
  induction l generalizing m with
  | nil => simp [mxC]
  | cons q l ih =>
    have := ih (max m (c q))
    have e : mxC c m (q :: l) = mxC c (max m (c q)) l := rfl
    rw [e]
    refine ⟨by omega, fun p hp => ?_⟩
    rcases List.mem_cons.1 hp with rfl | hp
    · omega
    · exact this.2 p hp
/-- It is one of them. -/
theorem mnC_mem (c : Pt → Int) (m : Int) (l : List Pt) : mnC c m l = m ∨ ∃ p ∈ l, mnC c m l = c p := by
  induction l generalizing m with
  | nil => left; rfl
  | cons q l ih =>
    have e : mnC c m (q :: l) = mnC c (min m (c q)) l := rfl
    rw [e]
    rcases ih (min m (c q)) with h | ⟨p, hp, h⟩
    · rcases Int.le_total m (c q) with k | k
      · left; omega
      · right; exact ⟨q, by simp, by omega⟩
    · right; exact ⟨p, by simp [hp], h⟩
theorem mxC_mem (c : Pt → Int) (m : Int) (l : List Pt) : mxC c m l = m ∨ ∃ p ∈ l, mxC c m l = c p := by
  induction l generalizing m with
  | nil => left; rfl
  | cons q l ih =>
    have e : mxC c m (q :: l) = mxC c (max m (c q)) l := rfl
    rw [e]
    rcases ih (max m (c q)) with h | ⟨p, hp, h⟩
    · rcases Int.le_total (c q) m with k | k
      · left; omega
      · right; exact ⟨q, by simp, by omega⟩
    · right; exact ⟨p, by simp [hp], h⟩

/-- Is there a box, and which (its four sides: the low corner, the high one). -/
def bndOk (l : List Pt) : Bool := !l.isEmpty && l.all okP
def bndB (l : List Pt) : Int × Int × Int × Int :=
  match l with
  | [] => (0, 0, 0, 0)
  | a :: m => if (a :: m).all okP then (mnC Prod.fst a.1 (a :: m), mnC Prod.snd a.2 (a :: m), mxC Prod.fst a.1 (a :: m) + 1, mxC Prod.snd a.2 (a :: m) + 1) else (0, 0, 0, 0)
theorem bndB_no {l : List Pt} (h : bndOk l = false) : bndB l = (0, 0, 0, 0) := by
  cases l with
  | nil => rfl
  | cons a m => simp only [bndOk, List.isEmpty_cons, Bool.not_false, Bool.true_and] at h; simp [bndB, h]
theorem bndB_ok {a : Pt} {m : List Pt} (h : (a :: m).all okP = true) : bndB (a :: m) = (mnC Prod.fst a.1 (a :: m), mnC Prod.snd a.2 (a :: m), mxC Prod.fst a.1 (a :: m) + 1, mxC Prod.snd a.2 (a :: m) + 1) := by
  show (if (a :: m).all okP then _ else _) = _
  rw [if_pos h]
theorem bnd_ok_range {l : List Pt} (h : l.all okP = true) {p : Pt} (hp : p ∈ l) : (-1099511627775 ≤ p.1 ∧ p.1 ≤ 1099511627775) ∧ -1099511627775 ≤ p.2 ∧ p.2 ≤ 1099511627775 := okP_iff.1 (List.all_eq_true.1 h p hp)
theorem mxC_range {c : Pt → Int} {m : Int} {l : List Pt} (hm : -1099511627775 ≤ m ∧ m ≤ 1099511627775) (h : ∀ p ∈ l, -1099511627775 ≤ c p ∧ c p ≤ 1099511627775) : -1099511627775 ≤ mxC c m l ∧ mxC c m l ≤ 1099511627775 := by
  rcases mxC_mem c m l with e | ⟨p, hp, e⟩
  · omega
  · have := h p hp; omega
theorem mnC_range {c : Pt → Int} {m : Int} {l : List Pt} (hm : -1099511627775 ≤ m ∧ m ≤ 1099511627775) (h : ∀ p ∈ l, -1099511627775 ≤ c p ∧ c p ≤ 1099511627775) : -1099511627775 ≤ mnC c m l ∧ mnC c m l ≤ 1099511627775 := by
  rcases mnC_mem c m l with e | ⟨p, hp, e⟩
  · omega
  · have := h p hp; omega
end Go.Proofs.Geo
