/- Plain: the parts of a split: proportions rounded down, and who has one more. -/
import Derived.Test.YtcmijedhjebpkaaMS1
namespace Go.Proofs.Mon
theorem weigh_true {l : List Int} (h : weighR l = (l.sum, true)) : l.any badW = false ∧ 0 < l.sum ∧ l.length ≤ 1000 := by
  unfold weighR at h
  cases hb : l.any badW with
  | true => rw [hb, if_pos rfl] at h; simp at h
  | false =>
    rw [hb] at h
    simp at h
    exact ⟨rfl, h.1, h.2⟩
def absT (t : Int) : Nat := t.natAbs
def sgT (t : Int) : Int := if t < 0 then -1 else 1
def qL (n s : Nat) (l : List Int) : List Int := l.map fun x => ((n * x.toNat / s : Nat) : Int)
def rL (n s : Nat) (l : List Int) : List Int := l.map fun x => ((n * x.toNat % s : Nat) : Int)
def leftT (n s : Nat) (l : List Int) : Int := n - (qL n s l).sum
/-- Does place j come ahead of place i? -/
def ahd (r : List Int) (j i : Nat) : Bool := decide (r.getD i 0 < r.getD j 0) || (decide (r.getD j 0 = r.getD i 0) && decide (j < i))
def rnk (r : List Int) (i : Nat) : Nat := (List.range r.length).countP fun j => ahd r j i
def partsL (t : Int) (l : List Int) : List Int :=
  (List.range l.length).map fun i => sgT t * ((qL (absT t) l.sum.toNat l).getD i 0 + if (rnk (rL (absT t) l.sum.toNat l) i : Int) < leftT (absT t) l.sum.toNat l then 1 else 0)
/-- The first k of a list, then zeros. -/
def fillL (q : List Int) (k : Nat) : List Int := q.take k ++ List.replicate (q.length - k) 0
theorem fill_zero (q : List Int) : fillL q 0 = List.replicate q.length 0 := by simp [fillL]
theorem fill_all (q : List Int) : fillL q q.length = q := by simp [fillL]
theorem fill_len (q : List Int) {k : Nat} (h : k ≤ q.length) : (fillL q k).length = q.length := by simp [fillL]; omega
theorem fill_set (q : List Int) {k : Nat} (h : k < q.length) : (fillL q k).set k (q.getD k 0) = fillL q (k + 1) := by
  unfold fillL
  rw [List.set_append_right _ _ (by simp; omega), List.length_take, Nat.min_eq_left (by omega), Nat.sub_self, List.take_succ_eq_append_getElem h, List.append_assoc]
  congr 1
  obtain ⟨m, hm⟩ : ∃ m, q.length - k = m + 1 := ⟨q.length - k - 1, by omega⟩
  rw [hm, show q.length - (k + 1) = m by omega, List.replicate_succ, List.set_cons_zero, List.getD_eq_getElem?_getD, List.getElem?_eq_getElem h]
  rfl
theorem qL_len (n s : Nat) (l : List Int) : (qL n s l).length = l.length := by simp [qL]
theorem rL_len (n s : Nat) (l : List Int) : (rL n s l).length = l.length := by simp [rL]
theorem qL_get (n s : Nat) (l : List Int) {k : Nat} (h : k < l.length) : (qL n s l).getD k 0 = ((n * (l.getD k 0).toNat / s : Nat) : Int) := by simp [qL, h]
theorem rL_get (n s : Nat) (l : List Int) {k : Nat} (h : k < l.length) : (rL n s l).getD k 0 = ((n * (l.getD k 0).toNat % s : Nat) : Int) := by simp [rL, h]
def idxL (n : Nat) : List Int := (List.range n).map fun i => ((i : Nat) : Int)
theorem idxL_len (n : Nat) : (idxL n).length = n := by simp [idxL]
theorem idxL_get {n k : Nat} (h : k < n) : (idxL n).getD k 0 = (k : Int) := by simp [idxL, h]
theorem div_sum (n s : Nat) (l : List Int) (hl : ∀ x ∈ l, 0 ≤ x) : (qL n s l).sum * s ≤ n * l.sum := by
  induction l with
  | nil => simp [qL]
  | cons x l ih =>
    have ih := ih (fun y hy => hl y (List.mem_cons_of_mem _ hy))
    have hx := hl x List.mem_cons_self
    have e : (qL n s (x :: l)).sum = ((n * x.toNat / s : Nat) : Int) + (qL n s l).sum := by simp [qL]
    have h1 : ((n * x.toNat / s : Nat) : Int) * s ≤ n * x := by
      have := Nat.div_mul_le_self (n * x.toNat) s
      have h2 : ((n * x.toNat / s * s : Nat) : Int) ≤ ((n * x.toNat : Nat) : Int) := by exact_mod_cast this
      rw [Int.natCast_mul, Int.natCast_mul, Int.toNat_of_nonneg hx] at h2
      exact h2
    rw [e, List.sum_cons, Int.add_mul, Int.mul_add]
    omega
theorem qL_nonneg (n s : Nat) (l : List Int) : ∀ x ∈ qL n s l, 0 ≤ x := by
  intro x hx
  unfold qL at hx
  obtain ⟨y, _, rfl⟩ := List.mem_map.1 hx
  exact Int.natCast_nonneg _
theorem sum_nonneg {l : List Int} (h : ∀ x ∈ l, 0 ≤ x) : 0 ≤ l.sum := by
  induction l with
  | nil => simp
  | cons x l ih => rw [List.sum_cons]; have := h x List.mem_cons_self; have := ih (fun y hy => h y (List.mem_cons_of_mem _ hy)); omega
theorem take_sum_le {l : List Int} (h : ∀ x ∈ l, 0 ≤ x) (k : Nat) : (l.take k).sum ≤ l.sum := by
  have e := List.take_append_drop k l
  have h2 : l.sum = (l.take k).sum + (l.drop k).sum := by conv => lhs; rw [← e]; rw [List.sum_append]
  have := sum_nonneg (l := l.drop k) (fun x hx => h x (List.mem_of_mem_drop hx))
  omega
theorem any_get {l : List Int} (h : l.any badW = false) {k : Nat} (hk : k < l.length) : 0 ≤ l.getD k 0 ∧ l.getD k 0 ≤ 1099511627775 := by
  rw [List.any_eq_false] at h
  have := h l[k] (List.getElem_mem hk)
  rw [List.getD_eq_getElem?_getD, List.getElem?_eq_getElem hk]
  exact badW_false (by simpa using this)
theorem qs_bd {n s : Nat} {l : List Int} (h : l.any badW = false) (hs : l.sum = (s : Int)) (h0 : 0 < s) (k : Nat) : 0 ≤ ((qL n s l).take k).sum ∧ ((qL n s l).take k).sum ≤ n := by
  have h1 := qL_nonneg n s l
  have h2 := sum_nonneg (l := (qL n s l).take k) (fun x hx => h1 x (List.mem_of_mem_take hx))
  have h3 := take_sum_le h1 k
  have h4 := div_sum n s l (fun x hx => by
    rw [List.any_eq_false] at h
    exact (badW_false (by simpa using h x hx)).1)
  rw [hs] at h4
  have h5 : (qL n s l).sum ≤ n := Int.le_of_mul_le_mul_right h4 (by omega)
  exact ⟨h2, by omega⟩
theorem get_le_sum {l : List Int} (h : l.any badW = false) {k : Nat} (hk : k < l.length) : l.getD k 0 ≤ l.sum := by
  have hn : ∀ x ∈ l, 0 ≤ x := fun x hx => by
    rw [List.any_eq_false] at h
    exact (badW_false (by simpa using h x hx)).1
  have h1 := take_sum_le hn (k + 1)
  have h2 := sum_take_succ l hk
  have h3 := sum_nonneg (l := l.take k) (fun x hx => hn x (List.mem_of_mem_take hx))
  omega
theorem hi_lt {N x S hi : Nat} (hN : N ≤ 1099511627775) (hx : x ≤ S) (h0 : 0 < S) (h : N * x / 18446744073709551616 = hi) : hi < S := by
  rw [← h]
  refine Nat.div_lt_of_lt_mul ?_
  have h1 : N * x ≤ N * S := Nat.mul_le_mul_left _ hx
  have h2 : N * S < 18446744073709551616 * S := Nat.mul_lt_mul_of_pos_right (by omega) h0
  omega
theorem quo_le {N x S : Nat} (hx : x ≤ S) : N * x / S ≤ N := by
  have h1 : N * x ≤ N * S := Nat.mul_le_mul_left _ hx
  exact Nat.div_le_of_le_mul (by rw [Nat.mul_comm S N]; exact h1)
theorem take_sum_succ (q : List Int) {k : Nat} (h : k < q.length) : (q.take (k + 1)).sum = (q.take k).sum + q.getD k 0 := by
  rw [List.take_succ_eq_append_getElem h, List.sum_append, List.getD_eq_getElem?_getD, List.getElem?_eq_getElem h]; simp
theorem qr_sum (n s : Nat) (l : List Int) (hl : ∀ x ∈ l, 0 ≤ x) : (qL n s l).sum * s + (rL n s l).sum = n * l.sum := by
  induction l with
  | nil => simp [qL, rL]
  | cons x l ih =>
    have ih := ih (fun y hy => hl y (List.mem_cons_of_mem _ hy))
    have hx := hl x List.mem_cons_self
    have e1 : (qL n s (x :: l)).sum = ((n * x.toNat / s : Nat) : Int) + (qL n s l).sum := by simp [qL]
    have e2 : (rL n s (x :: l)).sum = ((n * x.toNat % s : Nat) : Int) + (rL n s l).sum := by simp [rL]
    have h1 : ((n * x.toNat / s : Nat) : Int) * s + ((n * x.toNat % s : Nat) : Int) = n * x := by
      have := Nat.div_add_mod (n * x.toNat) s
      have h2 : ((s * (n * x.toNat / s) + n * x.toNat % s : Nat) : Int) = ((n * x.toNat : Nat) : Int) := by exact_mod_cast this
      rw [Int.natCast_add, Int.natCast_mul, Int.natCast_mul n, Int.toNat_of_nonneg hx, Int.mul_comm] at h2
      exact h2
    rw [e1, e2, List.sum_cons, Int.add_mul, Int.mul_add]
    omega
theorem rL_sum_bd {n s : Nat} (h0 : 0 < s) (l : List Int) : 0 ≤ (rL n s l).sum ∧ (rL n s l).sum ≤ l.length * (s : Int) := by
  induction l with
  | nil => simp [rL]
  | cons x l ih =>
    have e2 : (rL n s (x :: l)).sum = ((n * x.toNat % s : Nat) : Int) + (rL n s l).sum := by simp [rL]
    have := Nat.mod_lt (n * x.toNat) h0
    have e3 : (((x :: l).length : Nat) : Int) * (s : Int) = l.length * (s : Int) + s := by rw [List.length_cons, Int.natCast_add, Int.add_mul]; simp
    rw [e2, e3]
    omega
theorem left_bd {n s : Nat} {l : List Int} (h : l.any badW = false) (hs : l.sum = (s : Int)) (h0 : 0 < s) : 0 ≤ (n : Int) - (qL n s l).sum ∧ (n : Int) - (qL n s l).sum ≤ l.length := by
  have h1 := qr_sum n s l (fun x hx => by
    rw [List.any_eq_false] at h
    exact (badW_false (by simpa using h x hx)).1)
  have h2 := rL_sum_bd (n := n) h0 l
  rw [hs] at h1
  have h3 : ((n : Int) - (qL n s l).sum) * s = (rL n s l).sum := by rw [Int.sub_mul]; omega
  rw [← h3] at h2
  have h4 : (0 : Int) * s ≤ ((n : Int) - (qL n s l).sum) * s := by rw [Int.zero_mul]; exact h2.1
  exact ⟨Int.le_of_mul_le_mul_right h4 (by omega : (0 : Int) < s), Int.le_of_mul_le_mul_right h2.2 (by omega : (0 : Int) < s)⟩
theorem qL_bd {n s : Nat} {l : List Int} (h : l.any badW = false) (hs : l.sum = (s : Int)) (h0 : 0 < s) : ∀ i, 0 ≤ (qL n s l).getD i 0 ∧ (qL n s l).getD i 0 ≤ (n : Int) := by
  intro i
  by_cases hi : i < l.length
  · rw [qL_get n s l hi]
    have h1 := get_le_sum h hi
    have h2 := any_get h hi
    rw [hs] at h1
    exact ⟨Int.natCast_nonneg _, by exact_mod_cast quo_le (N := n) (x := (l.getD i 0).toNat) (S := s) (by omega)⟩
  · rw [List.getD_eq_getElem?_getD, List.getElem?_eq_none (by rw [qL_len]; omega)]
    simp
/-- One more at each of some places, one after the other. -/
def incL (q : List Int) (js : List Int) : List Int := js.foldl (fun L j => L.set j.toNat (L.getD j.toNat 0 + 1)) q
theorem incL_snoc (q js : List Int) (j : Int) : incL q (js ++ [j]) = (incL q js).set j.toNat ((incL q js).getD j.toNat 0 + 1) := by unfold incL; rw [List.foldl_append]; rfl
theorem incL_len (q js : List Int) : (incL q js).length = q.length := by
  unfold incL
  induction js generalizing q with
  | nil => rfl
  | cons j js ih => rw [List.foldl_cons, ih]; simp
theorem incL_bd {q : List Int} {m : Int} (js : List Int) (h : ∀ i, 0 ≤ q.getD i 0 ∧ q.getD i 0 ≤ m) : ∀ i, 0 ≤ (incL q js).getD i 0 ∧ (incL q js).getD i 0 ≤ m + js.length := by
  unfold incL
  induction js generalizing q m with
  | nil => intro i; have := h i; simpa using this
  | cons j js ih =>
    intro i
    rw [List.foldl_cons]
    have h' : ∀ i, 0 ≤ (q.set j.toNat (q.getD j.toNat 0 + 1)).getD i 0 ∧ (q.set j.toNat (q.getD j.toNat 0 + 1)).getD i 0 ≤ m + 1 := by
      intro i
      rw [List.getD_eq_getElem?_getD, List.getElem?_set]
      have h1 := h i
      have h2 := h j.toNat
      rw [List.getD_eq_getElem?_getD] at h1
      split
      · split
        · simp only [Option.getD_some]; omega
        · simp; have := h2; omega
      · omega
    have := ih h' i
    rw [List.length_cons, Int.natCast_add]
    omega
theorem take_succ_getD (d : List Int) {k : Nat} (h : k < d.length) : d.take (k + 1) = d.take k ++ [d.getD k 0] := by
  rw [List.take_succ_eq_append_getElem h, List.getD_eq_getElem?_getD, List.getElem?_eq_getElem h]; rfl
/-- The first k of a list, each times m, then the others. -/
def timesL (m : Int) (P : List Int) (k : Nat) : List Int := (P.take k).map (fun x => x * m) ++ P.drop k
theorem mul_zero' (m : Int) (P : List Int) : timesL m P 0 = P := by simp [timesL]
theorem mul_all (m : Int) (P : List Int) : timesL m P P.length = P.map fun x => x * m := by simp [timesL]
theorem mul_len (m : Int) (P : List Int) (k : Nat) : (timesL m P k).length = P.length := by simp [timesL]; omega
theorem mul_get (m : Int) (P : List Int) {k : Nat} (h : k < P.length) : (timesL m P k).getD k 0 = P.getD k 0 := by
  unfold timesL
  rw [List.getD_eq_getElem?_getD, List.getElem?_append_right (by simp; omega), List.getD_eq_getElem?_getD]
  congr 1
  simp [Nat.min_eq_left (Nat.le_of_lt h)]
theorem mul_set (m : Int) (P : List Int) {k : Nat} (h : k < P.length) : (timesL m P k).set k (P.getD k 0 * m) = timesL m P (k + 1) := by
  unfold timesL
  have hl : ((P.take k).map fun x => x * m).length = k := by simp; omega
  rw [List.set_append_right _ _ (by omega), hl, Nat.sub_self, List.take_succ_eq_append_getElem h, List.map_append, List.append_assoc, List.drop_eq_getElem_cons h, List.set_cons_zero, List.getD_eq_getElem?_getD, List.getElem?_eq_getElem h]
  rfl
/-- Places sorted: the greatest rest first, of equal ones the earlier place. -/
def SrtBy (r d : List Int) : Prop := d.Perm (idxL r.length) ∧ ∀ i j, i < j → j < d.length → ahd r (d.getD i 0).toNat (d.getD j 0).toNat = true
theorem srt_len {r d : List Int} (h : SrtBy r d) : d.length = r.length := by have := h.1.length_eq; rwa [idxL_len] at this
theorem srt_ix {r d : List Int} (h : SrtBy r d) {k : Nat} (hk : k < r.length) : ∃ i : Nat, i < r.length ∧ d.getD k 0 = (i : Int) := by
  have hkd : k < d.length := by rw [srt_len h]; exact hk
  have hm : d[k] ∈ idxL r.length := h.1.mem_iff.1 (List.getElem_mem hkd)
  unfold idxL at hm
  obtain ⟨i, hi, he⟩ := List.mem_map.1 hm
  exact ⟨i, List.mem_range.1 hi, by rw [List.getD_eq_getElem?_getD, List.getElem?_eq_getElem hkd, ← he]; rfl⟩
def splitE (t : Int) (l : List Int) : Int := if mchk t = 0 then if (weighR l).2 then 0 else 2 else 5
def splitR (t : Int) (l : List Int) : List Int := if splitE t l = 0 then partsL t l else []
end Go.Proofs.Mon
