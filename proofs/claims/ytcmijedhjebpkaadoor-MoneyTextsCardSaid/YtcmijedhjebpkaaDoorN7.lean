/- Contracts of numbers in digits: Mul. -/
import Derived.Test.YtcmijedhjebpkaaDoorN6
namespace Go.Proofs.YtcmijedhjebpkaaDoor
open Go.RowKit Go.Proofs.Num Go.Proofs.Geo

/-- The number of the lowest n digits. -/
def pre (V : Int) (n : Nat) : Int := hv ((List.range n).map (dg V))
theorem hv_append (l m : List Int) : hv (l ++ m) = hv l + 65536 ^ l.length * hv m := by
  induction l with
  | nil => simp [hv]
  | cons d l ih =>
    simp only [List.cons_append, hv, ih, List.length_cons, Int.pow_succ]
    grind
theorem pre_succ (V : Int) (n : Nat) : pre V (n + 1) = pre V n + 65536 ^ n * dg V n := by
  unfold pre
  rw [List.range_succ, List.map_append, hv_append]
  simp [hv]
theorem pre_all {V : Int} {n : Nat} (h : sh V n = 0) : pre V n = V := by have := hv_sh V n; rw [h] at this; simpa [pre] using this
theorem hv_set_add (E : List Int) (m : Nat) (t : Int) (h : m < E.length) : hv (E.set m (E[m] + t)) = hv E + 65536 ^ m * t := by
  induction E generalizing m with
  | nil => simp at h
  | cons d l ih =>
    cases m with
    | zero => simp [hv]; omega
    | succ m =>
      simp only [List.getElem_cons_succ, List.set_cons_succ, hv, Int.pow_succ]
      rw [ih m (by simpa using h)]
      grind
/-- After i whole rows and k digits of the next one. -/
def MulSt (X Y : Int) (i k : Nat) (E : List Int) : Prop :=
  E.length = 12 ∧ hv E = pre X i * Y + 65536 ^ i * dg X i * pre Y k ∧ ∀ d ∈ E, 0 ≤ d ∧ d ≤ (4 * i + k : Nat) * 4294967296
theorem MulSt.start (X Y : Int) : MulSt X Y 0 0 numZ := ⟨rfl, by simp [pre, hv, numZ], by simp [numZ]⟩
theorem MulSt.row {X Y : Int} {i : Nat} {E : List Int} (hy : sh Y 4 = 0) (h : MulSt X Y i 4 E) : MulSt X Y (i + 1) 0 E := by
  obtain ⟨h1, h2, h3⟩ := h
  refine ⟨h1, ?_, fun d hd => by have := h3 d hd; omega⟩
  rw [h2, pre_all hy, pre_succ]
  simp [pre, hv]
  grind
theorem mul_bd {a b : Int} (ha : 0 ≤ a ∧ a < 65536) (hb : 0 ≤ b ∧ b < 65536) : 0 ≤ a * b ∧ a * b ≤ 4294836225 := by
  refine ⟨Int.mul_nonneg ha.1 hb.1, ?_⟩
  have := Int.mul_le_mul (show a ≤ 65535 by omega) (show b ≤ 65535 by omega) hb.1 (by omega)
  omega
theorem MulSt.step {X Y : Int} {i k : Nat} {E : List Int} (h : MulSt X Y i k E) (hi : i + k < E.length) : MulSt X Y i (k + 1) (E.set (i + k) (E[i + k] + dg X i * dg Y k)) := by
  obtain ⟨h1, h2, h3⟩ := h
  refine ⟨by simpa using h1, ?_, fun d hd => ?_⟩
  · rw [hv_set_add, h2, pre_succ, Int.pow_add]
    grind
  · rcases List.mem_or_eq_of_mem_set hd with h | rfl
    · have := h3 d h; omega
    · have b1 := mul_bd (dg_bd X i) (dg_bd Y k)
      have b2 := h3 _ (List.getElem_mem hi)
      omega
theorem MulSt.end {X Y : Int} {E : List Int} (hx : sh X 4 = 0) (h : MulSt X Y 4 0 E) : hv E = X * Y ∧ ∀ d ∈ E, 0 ≤ d ∧ d ≤ 2199023255552 := by
  obtain ⟨h1, h2, h3⟩ := h
  refine ⟨by rw [h2, pre_all hx]; simp [pre, hv], fun d hd => by have := h3 d hd; omega⟩

end Go.Proofs.YtcmijedhjebpkaaDoor
