/- Plain numbers in digits to the base 2^16; no program in sight. -/
namespace Go.Proofs.Num

/-- The number that digits make, the lowest first. -/
def hv : List Int → Int
  | [] => 0
  | d :: l => d + 65536 * hv l
/-- A number without its lowest digits; a digit. -/
def sh (V : Int) : Nat → Int
  | 0 => V
  | j + 1 => sh (V / 65536) j
def dg (V : Int) (j : Nat) : Int := sh V j % 65536
theorem dg_bd (V : Int) (j : Nat) : 0 ≤ dg V j ∧ dg V j < 65536 := by unfold dg; omega
theorem sh_succ (V : Int) (j : Nat) : sh V (j + 1) = sh V j / 65536 := by
  induction j generalizing V with
  | zero => rfl
  | succ j ih => exact ih (V / 65536)
theorem sh_split (V : Int) (j : Nat) : sh V j = 65536 * sh V (j + 1) + dg V j := by rw [sh_succ]; unfold dg; omega
theorem sh_mono {V W : Int} (h : V ≤ W) (j : Nat) : sh V j ≤ sh W j := by
  induction j generalizing V W with
  | zero => exact h
  | succ j ih => exact ih (Int.ediv_le_ediv (by decide) h)
theorem sh_nonneg {V : Int} (h : 0 ≤ V) (j : Nat) : 0 ≤ sh V j := by
  induction j generalizing V with
  | zero => exact h
  | succ j ih => exact ih (by omega)
/-- Digits in their bounds are the number's. -/
theorem dg_of (l : List Int) (h : ∀ d ∈ l, 0 ≤ d ∧ d < 65536) (j : Nat) (hj : j < l.length) : l[j] = dg (hv l) j := by
  induction l generalizing j with
  | nil => simp at hj
  | cons d l ih =>
    have hd := h d (by simp)
    have hh : hv (d :: l) = d + 65536 * hv l := rfl
    have e1 : hv (d :: l) % 65536 = d := by rw [hh]; omega
    have e2 : hv (d :: l) / 65536 = hv l := by rw [hh]; omega
    cases j with
    | zero => exact e1.symm
    | succ j =>
      rw [List.getElem_cons_succ, ih (fun x hx => h x (by simp [hx])) j (by simpa using hj)]
      show _ = sh (hv (d :: l) / 65536) j % 65536
      rw [e2]; rfl
/-- The number is made of its digits. -/
theorem hv_sh (V : Int) (n : Nat) : hv ((List.range n).map (dg V)) + 65536 ^ n * sh V n = V := by
  induction n generalizing V with
  | zero => simp [hv, sh]
  | succ n ih =>
    have e : (List.range (n + 1)).map (dg V) = dg V 0 :: (List.range n).map (dg (V / 65536)) := by
      rw [List.range_succ_eq_map, List.map_cons, List.map_map]; rfl
    have h := ih (V / 65536)
    have e2 : sh V (n + 1) = sh (V / 65536) n := rfl
    rw [e, e2, hv]
    have e3 : (65536 : Int) ^ (n + 1) * sh (V / 65536) n = 65536 * (65536 ^ n * sh (V / 65536) n) := by rw [Int.pow_succ, Int.mul_comm ((65536 : Int) ^ n) 65536, Int.mul_assoc]
    rw [e3]
    have e4 : dg V 0 = V % 65536 := rfl
    omega

/-- The twelve digits. -/
def d12 (V : Int) : List Int := (List.range 12).map (dg V)
theorem hv_d12 {V : Int} (h : sh V 12 = 0) : hv (d12 V) = V := by have := hv_sh V 12; rw [h] at this; simpa [d12] using this
def top12 : Int := 6277101735386680763835789423207666416102355444464034512896
theorem sh12_zero {V : Int} (h0 : 0 ≤ V) (h : V < top12) : sh V 12 = 0 := by
  unfold top12 at h
  have : sh V 12 = V / 65536 / 65536 / 65536 / 65536 / 65536 / 65536 / 65536 / 65536 / 65536 / 65536 / 65536 / 65536 := rfl
  rw [this]; omega
theorem hv12 (d0 d1 d2 d3 d4 d5 d6 d7 d8 d9 d10 d11 : Int) : hv [d0, d1, d2, d3, d4, d5, d6, d7, d8, d9, d10, d11] =
    d0 + 65536 * (d1 + 65536 * (d2 + 65536 * (d3 + 65536 * (d4 + 65536 * (d5 + 65536 * (d6 + 65536 * (d7 + 65536 * (d8 + 65536 * (d9 + 65536 * (d10 + 65536 * d11)))))))))) := by simp [hv]
theorem hv_dg {V : Int} (h0 : 0 ≤ V) (h : V < top12) : hv [dg V 0, dg V 1, dg V 2, dg V 3, dg V 4, dg V 5, dg V 6, dg V 7, dg V 8, dg V 9, dg V 10, dg V 11] = V := hv_d12 (sh12_zero h0 h)
theorem hv_nonneg {l : List Int} (h : ∀ d ∈ l, 0 ≤ d) : 0 ≤ hv l := by
  induction l with
  | nil => simp [hv]
  | cons d l ih => have := h d (by simp); have := ih fun x hx => h x (by simp [hx]); unfold hv; omega
/-- Nothing has no digits, and what has none is nothing. -/
theorem dg_zero (j : Nat) : dg 0 j = 0 := by
  have : ∀ j, sh 0 j = 0 := by
    intro j
    induction j with
    | zero => rfl
    | succ j ih => rw [sh_succ, ih]; rfl
  unfold dg; rw [this]; rfl
theorem zero_of_dg {V : Int} (h0 : 0 ≤ V) (h : V < top12) (hz : ∀ j, j < 12 → dg V j = 0) : V = 0 := by
  rw [← hv_dg h0 h, hz 0 (by omega), hz 1 (by omega), hz 2 (by omega), hz 3 (by omega), hz 4 (by omega), hz 5 (by omega), hz 6 (by omega), hz 7 (by omega), hz 8 (by omega), hz 9 (by omega), hz 10 (by omega), hz 11 (by omega)]
  rfl
/-- The higher digits being alike, the first unlike one decides. -/
theorem lt_of_dg {X Y : Int} {i : Nat} (h : sh X (i + 1) = sh Y (i + 1)) (hd : dg X i < dg Y i) : X < Y := by
  rcases Int.lt_or_le X Y with k | k
  · exact k
  · exfalso
    have := sh_mono k i
    have e1 := sh_split X i
    have e2 := sh_split Y i
    omega
theorem eq_of_dg {X Y : Int} {i : Nat} (h : sh X (i + 1) = sh Y (i + 1)) (hd : dg X i = dg Y i) : sh X i = sh Y i := by
  have e1 := sh_split X i
  have e2 := sh_split Y i
  omega
end Go.Proofs.Num
