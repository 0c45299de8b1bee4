/- Plain: what a text reads as, as an amount. -/
import Derived.Test.YtcmijedhjebpkaaMP1
namespace Go.Proofs.Mon
def isDg (c : Int) : Bool := decide (48 ≤ c) && decide (c ≤ 57)
/-- The bytes of a string as numbers. -/
def bts (s : ByteArray) : List Int := s.data.toList.map fun c => (c.toNat : Int)
theorem bts_len (s : ByteArray) : (bts s).length = s.size := by simp [bts]
theorem bts_get (s : ByteArray) {i : Nat} (h : i < s.size) : (bts s).getD i 0 = ((s[i]'h).toNat : Int) := by
  rw [List.getD_eq_getElem?_getD, List.getElem?_eq_getElem (by rw [bts_len]; exact h)]
  simp [bts]; rfl
theorem bts_bd (s : ByteArray) (i : Nat) : 0 ≤ (bts s).getD i 0 ∧ (bts s).getD i 0 ≤ 255 := by
  by_cases h : i < s.size
  · rw [bts_get s h]
    have := (s[i]'h).toNat_lt
    omega
  · rw [List.getD_eq_getElem?_getD, List.getElem?_eq_none (by rw [bts_len]; omega)]
    simp
theorem getD_end {l : List Int} {i : Nat} (h : l.length ≤ i) : l.getD i 0 = 0 := by
  rw [List.getD_eq_getElem?_getD, List.getElem?_eq_none h]; rfl
theorem lt_of_getD {l : List Int} {i : Nat} (h : l.getD i 0 ≠ 0) : i < l.length := by
  rcases Nat.lt_or_ge i l.length with g | g
  · exact g
  · exact absurd (getD_end g) h
theorem isDg_bd {c : Int} (h : isDg c = true) : 48 ≤ c ∧ c ≤ 57 := by
  unfold isDg at h
  rw [Bool.and_eq_true, decide_eq_true_eq, decide_eq_true_eq] at h
  exact h
theorem isDg_lt {l : List Int} {i : Nat} (h : isDg (l.getD i 0) = true) : i < l.length := lt_of_getD (by have := isDg_bd h; omega)
def cap50 (n : Int) : Int := min n 1125899906842624
/-- How many digits from a place on are read. -/
def runE (l : List Int) (fr : Nat) : Nat := if l.getD fr 0 = 48 then 1 else ((l.drop fr).takeWhile isDg).length
/-- What the first digits from a place on come to. -/
def numV (l : List Int) (fr : Nat) : Nat → Int
  | 0 => 0
  | j + 1 => cap50 (10 * numV l fr j + (l.getD (fr + j) 0 - 48))
theorem takeW_lt (p : Int → Bool) (t : List Int) : ∀ j, j ≤ (t.takeWhile p).length → (j < (t.takeWhile p).length ↔ j < t.length ∧ p (t.getD j 0) = true) := by
  induction t with
  | nil => intro j _; simp
  | cons x t ih =>
    intro j hj
    rw [List.takeWhile_cons] at hj ⊢
    by_cases hx : p x = true
    · rw [if_pos hx] at hj ⊢
      cases j with
      | zero => simp [hx]
      | succ j =>
        have := ih j (by simpa using hj)
        simp only [List.length_cons, Nat.add_lt_add_iff_right, List.getD_cons_succ]
        exact this
    · rw [if_neg hx] at hj ⊢
      obtain rfl : j = 0 := by simpa using hj
      simp [hx]
theorem drop_getD (l : List Int) (fr j : Nat) : (l.drop fr).getD j 0 = l.getD (fr + j) 0 := by
  rw [List.getD_eq_getElem?_getD, List.getElem?_drop, List.getD_eq_getElem?_getD]
theorem runE_step (l : List Int) (fr j : Nat) (h : j ≤ runE l fr) : j < runE l fr ↔ isDg (l.getD (fr + j) 0) = true ∧ (j = 0 ∨ l.getD fr 0 ≠ 48) := by
  unfold runE at *
  by_cases h0 : l.getD fr 0 = 48
  · rw [if_pos h0] at h ⊢
    constructor
    · intro hj
      obtain rfl : j = 0 := by omega
      rw [Nat.add_zero, h0]
      exact ⟨by decide, .inl rfl⟩
    · rintro ⟨_, hj | hj⟩
      · omega
      · exact absurd h0 hj
  · rw [if_neg h0] at h ⊢
    rw [takeW_lt isDg _ j h, drop_getD, List.length_drop]
    constructor
    · rintro ⟨_, h2⟩; exact ⟨h2, .inr h0⟩
    · rintro ⟨h2, _⟩
      have := isDg_lt h2
      exact ⟨by omega, h2⟩
theorem runE_dig (l : List Int) (fr : Nat) {j : Nat} (h : j < runE l fr) : isDg (l.getD (fr + j) 0) = true := ((runE_step l fr j (Nat.le_of_lt h)).1 h).1
theorem numV_bd (l : List Int) (fr : Nat) : ∀ j, j ≤ runE l fr → 0 ≤ numV l fr j ∧ numV l fr j ≤ 1125899906842624 := by
  intro j
  induction j with
  | zero => intro _; simp [numV]
  | succ j ih =>
    intro h
    have := ih (by omega)
    have := isDg_bd (runE_dig l fr (j := j) (by omega))
    unfold numV cap50
    omega
theorem runE_le (l : List Int) (fr : Nat) (h : fr ≤ l.length) : fr + runE l fr ≤ l.length := by
  by_cases h0 : runE l fr = 0
  · omega
  · have := isDg_lt (runE_dig l fr (j := runE l fr - 1) (by omega))
    omega
def frE (l : List Int) : Nat := if l.getD 0 0 = 45 then 1 else 0
theorem frE_le (l : List Int) : frE l ≤ l.length := by
  unfold frE
  split
  · rename_i h; have := lt_of_getD (l := l) (i := 0) (by omega); omega
  · omega
/-- What two more digits make of a number. -/
def num2 (l : List Int) (n : Int) (a : Nat) : Int := 10 * (10 * n + (l.getD a 0 - 48)) + (l.getD (a + 1) 0 - 48)
/-- What a text without faults comes to. -/
def tellR (fr : Nat) (n : Int) : Int × Int × Int := if 1099511627775 < n then (0, 5, 0) else if fr = 1 ∧ n = 0 then (0, 5, 0) else (if fr = 1 then -n else n, 0, 0)
/-- The amount, the error, and where. -/
def parseR (l : List Int) : Int × Int × Int :=
  if 20 < l.length then (0, 3, 0)
  else if runE l (frE l) = 0 then (0, 4, (frE l : Nat))
  else if l.getD (frE l + runE l (frE l)) 0 = 46 then
    if isDg (l.getD (frE l + runE l (frE l) + 1) 0) then
      if isDg (l.getD (frE l + runE l (frE l) + 1 + 1) 0) then
        if frE l + runE l (frE l) + 3 < l.length then (0, 4, (frE l + runE l (frE l) + 3 : Nat))
        else tellR (frE l) (num2 l (numV l (frE l) (runE l (frE l))) (frE l + runE l (frE l) + 1))
      else (0, 4, (frE l + runE l (frE l) + 2 : Nat))
    else (0, 4, (frE l + runE l (frE l) + 1 : Nat))
  else (0, 4, (frE l + runE l (frE l) : Nat))
/-- The caps of the last two digits do not matter. -/
theorem tell_cap (fr : Nat) {n c d : Int} (hc : isDg c = true) (hd : isDg d = true) : tellR fr (cap50 (10 * cap50 (10 * n + (c - 48)) + (d - 48))) = tellR fr (10 * (10 * n + (c - 48)) + (d - 48)) := by
  have := isDg_bd hc
  have := isDg_bd hd
  unfold cap50
  by_cases h : 10 * (10 * n + (c - 48)) + (d - 48) ≤ 1125899906842624
  · rw [show min (10 * min (10 * n + (c - 48)) 1125899906842624 + (d - 48)) 1125899906842624 = 10 * (10 * n + (c - 48)) + (d - 48) by omega]
  · have h1 : 1099511627775 < min (10 * min (10 * n + (c - 48)) 1125899906842624 + (d - 48)) 1125899906842624 := by omega
    unfold tellR
    rw [if_pos h1, if_pos (by omega)]
theorem pr_long {l : List Int} (h : 20 < l.length) : parseR l = (0, 3, 0) := by unfold parseR; rw [if_pos h]
theorem runE_pos {l : List Int} {fr : Nat} (h : isDg (l.getD fr 0) = true) : runE l fr ≠ 0 := by
  have := (runE_step l fr 0 (Nat.zero_le _)).2 ⟨by rw [Nat.add_zero]; exact h, .inl rfl⟩
  omega
theorem pr_first {l : List Int} (h20 : ¬ 20 < l.length) (h : isDg (l.getD (frE l) 0) = false) : parseR l = (0, 4, ((frE l : Nat) : Int)) := by
  have e0 : runE l (frE l) = 0 := by
    rcases Nat.eq_zero_or_pos (runE l (frE l)) with g | g
    · exact g
    · have := ((runE_step l (frE l) 0 (Nat.zero_le _)).1 g).1
      rw [Nat.add_zero, h] at this
      cases this
  unfold parseR
  rw [if_neg h20, if_pos e0]
section
variable {l : List Int} {fr e : Nat} (h20 : ¬ 20 < l.length) (hf : frE l = fr) (h1 : isDg (l.getD fr 0) = true) (he : runE l fr = e)
include h20 hf h1 he
theorem pr_dot (h : l.getD (fr + e) 0 ≠ 46) : parseR l = (0, 4, ((fr + e : Nat) : Int)) := by
  have := runE_pos h1
  unfold parseR
  rw [hf, he, if_neg h20, if_neg (by omega), if_neg h]
theorem pr_cent {k : Nat} (hd : l.getD (fr + e) 0 = 46) (hk : k < 2) (hp : ∀ i, i < k → isDg (l.getD (fr + e + 1 + i) 0) = true) (hn : isDg (l.getD (fr + e + 1 + k) 0) = false) : parseR l = (0, 4, ((fr + e + 1 + k : Nat) : Int)) := by
  have := runE_pos h1
  unfold parseR
  rw [hf, he, if_neg h20, if_neg (by omega), if_pos hd]
  obtain rfl | rfl : k = 0 ∨ k = 1 := by omega
  · rw [if_neg (by rw [Nat.add_zero] at hn; rw [hn]; simp)]
  · rw [if_pos (by have := hp 0 (by omega); rwa [Nat.add_zero] at this), if_neg (by rw [hn]; simp)]
theorem pr_more (hd : l.getD (fr + e) 0 = 46) (hp : ∀ i, i < 2 → isDg (l.getD (fr + e + 1 + i) 0) = true) (hm : fr + e + 3 < l.length) : parseR l = (0, 4, ((fr + e + 3 : Nat) : Int)) := by
  have := runE_pos h1
  unfold parseR
  rw [hf, he, if_neg h20, if_neg (by omega), if_pos hd, if_pos (by have := hp 0 (by omega); rwa [Nat.add_zero] at this), if_pos (hp 1 (by omega)), if_pos hm]
theorem pr_tell (hd : l.getD (fr + e) 0 = 46) (hp : ∀ i, i < 2 → isDg (l.getD (fr + e + 1 + i) 0) = true) (hm : ¬ fr + e + 3 < l.length) : parseR l = tellR fr (num2 l (numV l fr e) (fr + e + 1)) := by
  have := runE_pos h1
  unfold parseR
  rw [hf, he, if_neg h20, if_neg (by omega), if_pos hd, if_pos (by have := hp 0 (by omega); rwa [Nat.add_zero] at this), if_pos (hp 1 (by omega)), if_neg hm]
end
/-- What a number comes to with the next digits. -/
def numW (l : List Int) (V : Int) (a : Nat) : Nat → Int
  | 0 => V
  | k + 1 => cap50 (10 * numW l V a k + (l.getD (a + k) 0 - 48))
theorem numW_bd {l : List Int} {V : Int} {a : Nat} (h0 : 0 ≤ V) (h1 : V ≤ 1125899906842624) : ∀ k, (∀ i, i < k → isDg (l.getD (a + i) 0) = true) → 0 ≤ numW l V a k ∧ numW l V a k ≤ 1125899906842624 := by
  intro k
  induction k with
  | zero => intro _; exact ⟨h0, h1⟩
  | succ k ih =>
    intro h
    have := ih (fun i hi => h i (by omega))
    have := isDg_bd (h k (by omega))
    unfold numW cap50
    omega
theorem tell_num {l : List Int} {V : Int} {a : Nat} (fr : Nat) (hp : ∀ i, i < 2 → isDg (l.getD (a + i) 0) = true) : tellR fr (numW l V a 2) = tellR fr (num2 l V a) := by
  unfold num2 numW numW numW
  exact tell_cap fr (c := l.getD (a + 0) 0) (d := l.getD (a + 1) 0) (hp 0 (by omega)) (hp 1 (by omega))
end Go.Proofs.Mon
