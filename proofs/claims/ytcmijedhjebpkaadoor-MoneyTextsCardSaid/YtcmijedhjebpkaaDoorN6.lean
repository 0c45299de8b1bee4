/- Contracts of numbers in digits: Plus. -/
import Derived.Test.YtcmijedhjebpkaaDoorN5
namespace Go.Proofs.YtcmijedhjebpkaaDoor
open Go.RowKit Go.Proofs.Num Go.Proofs.Geo

theorem map_set {f g : Nat → Int} (n k : Nat) (v : Int) (hv : k < n → g k = v) (h : ∀ j, j ≠ k → g j = f j) : ((List.range n).map f).set k v = (List.range n).map g := by
  apply List.ext_getElem
  · simp
  · intro i h1 h2
    rw [List.getElem_set]
    simp only [List.getElem_map, List.getElem_range]
    by_cases e : k = i
    · subst e; rw [if_pos rfl, hv (by simpa using h2)]
    · rw [if_neg e, h i (fun e2 => e e2.symm)]
theorem hv_map_add (f g : Nat → Int) (l : List Nat) : hv (l.map fun j => f j + g j) = hv (l.map f) + hv (l.map g) := by
  induction l with
  | nil => rfl
  | cons a l ih => simp only [List.map_cons, hv, ih]; omega
def addE (X Y : Int) (k : Nat) : List Int := (List.range 12).map fun j => if j < k then dg X j + dg Y j else dg X j
theorem addE_len (X Y : Int) (k : Nat) : (addE X Y k).length = 12 := by simp [addE]
theorem addE_zero (X Y : Int) : addE X Y 0 = d12 X := by simp [addE, d12]
theorem addE_get (X Y : Int) (k : Nat) (h : k < (addE X Y k).length) : (addE X Y k)[k] = dg X k := by simp [addE]
theorem addE_set (X Y : Int) (k : Nat) : (addE X Y k).set k (dg X k + dg Y k) = addE X Y (k + 1) := by
  unfold addE
  refine map_set _ _ _ (fun _ => by simp) fun j hj => ?_
  by_cases e : j < k
  · rw [if_pos e, if_pos (by omega)]
  · rw [if_neg e, if_neg (by omega)]
theorem addE_all (X Y : Int) : addE X Y 12 = (List.range 12).map fun j => dg X j + dg Y j := by
  unfold addE
  apply List.map_congr_left
  intro j hj
  rw [if_pos (List.mem_range.1 hj)]
theorem addE_hv {X Y : Int} (hx : sh X 12 = 0) (hy : sh Y 12 = 0) : hv (addE X Y 12) = X + Y := by
  rw [addE_all, hv_map_add]
  have e1 := hv_d12 hx
  have e2 := hv_d12 hy
  unfold d12 at e1 e2
  rw [e1, e2]
theorem addE_bd (X Y : Int) : ∀ d ∈ addE X Y 12, 0 ≤ d ∧ d ≤ 2199023255552 := by
  intro d hd
  rw [addE_all] at hd
  obtain ⟨j, _, rfl⟩ := List.mem_map.1 hd
  have := dg_bd X j
  have := dg_bd Y j
  omega

/-- What is borrowed from the digits from k on. -/
def bo (X Y : Int) (k : Nat) : Int := sh X k - sh Y k - sh (X - Y) k
theorem bo_step (X Y : Int) (k : Nat) : dg X k - bo X Y k - dg Y k = dg (X - Y) k - 65536 * bo X Y (k + 1) := by
  unfold bo
  have e1 := sh_split X k
  have e2 := sh_split Y k
  have e3 := sh_split (X - Y) k
  omega
theorem bo_zero (X Y : Int) : bo X Y 0 = 0 := by simp [bo, sh]
theorem bo_bd (X Y : Int) (k : Nat) : bo X Y k = 0 ∨ bo X Y k = 1 := by
  induction k with
  | zero => left; exact bo_zero X Y
  | succ k ih =>
    have h := bo_step X Y k
    have b1 := dg_bd X k
    have b2 := dg_bd Y k
    have b3 := dg_bd (X - Y) k
    omega
theorem bo_top {X Y : Int} (hx : sh X 12 = 0) (hy : sh Y 12 = 0) (hz : sh (X - Y) 12 = 0) : bo X Y 12 = 0 := by unfold bo; rw [hx, hy, hz]; rfl
def subE (X Y : Int) (k : Nat) : List Int := (List.range 12).map fun j => if j < k then dg (X - Y) j else if j = k then dg X j - bo X Y k else dg X j
theorem subE_len (X Y : Int) (k : Nat) : (subE X Y k).length = 12 := by simp [subE]
theorem subE_zero (X Y : Int) : subE X Y 0 = d12 X := by
  unfold subE d12
  apply List.map_congr_left
  intro j _
  rw [if_neg (by omega)]
  by_cases e : j = 0
  · rw [if_pos e, bo_zero]; omega
  · rw [if_neg e]
theorem subE_all (X Y : Int) : subE X Y 12 = d12 (X - Y) := by
  unfold subE d12
  apply List.map_congr_left
  intro j hj
  rw [if_pos (List.mem_range.1 hj)]
theorem subE_get (X Y : Int) (k : Nat) (h : k < (subE X Y k).length) : (subE X Y k)[k] = dg X k - bo X Y k := by simp [subE]
theorem subE_get1 (X Y : Int) (k : Nat) (h : k + 1 < (subE X Y k).length) : (subE X Y k)[k + 1] = dg X (k + 1) := by simp [subE]; omega
theorem subE_next0 {X Y : Int} {k : Nat} (h : bo X Y (k + 1) = 0) : (subE X Y k).set k (dg X k - bo X Y k - dg Y k) = subE X Y (k + 1) := by
  have hs := bo_step X Y k
  unfold subE
  refine map_set _ _ _ (fun _ => by rw [if_pos (by omega)]; omega) fun j hj => ?_
  by_cases e : j < k
  · rw [if_pos e, if_pos (by omega)]
  · rw [if_neg e, if_neg (by omega), if_neg hj]
    by_cases e2 : j = k + 1
    · rw [if_pos e2, h]; omega
    · rw [if_neg e2]
theorem subE_next1 {X Y : Int} {k : Nat} (h : bo X Y (k + 1) = 1) : (((subE X Y k).set k (dg X k - bo X Y k - dg Y k)).set k (dg X k - bo X Y k - dg Y k + 65536)).set (k + 1) (dg X (k + 1) - 1) = subE X Y (k + 1) := by
  have hs := bo_step X Y k
  rw [List.set_set]
  unfold subE
  rw [map_set (g := fun j => if j < k + 1 then dg (X - Y) j else dg X j) _ _ _ (fun _ => by rw [if_pos (by omega)]; omega) fun j hj => ?_]
  · refine map_set _ _ _ (fun _ => by rw [if_neg (by omega), if_pos rfl, h]) fun j hj => ?_
    by_cases e : j < k + 1
    · rw [if_pos e, if_pos e]
    · rw [if_neg e, if_neg e, if_neg hj]
  · by_cases e : j < k
    · rw [if_pos e, if_pos (by omega)]
    · rw [if_neg e, if_neg (by omega), if_neg hj]

end Go.Proofs.YtcmijedhjebpkaaDoor
