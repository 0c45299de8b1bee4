/- Plain geometry of points inside rings: which edges count, how many, and the parity; no program in sight. -/
import Derived.Test.YtmbfcneabpgcpaaGeoPlain
namespace Go.Proofs.Geo

/-- Does an edge, told from its lower end, count for a point? -/
def cntU (p a b : Pt) : Bool := decide (a.2 ≤ p.2) && decide (p.2 < b.2) && decide (turn a b p = 1)
def cnt (p a b : Pt) : Bool := if b.2 < a.2 then cntU p b a else cntU p a b
theorem cntU_iff {p a b : Pt} : cntU p a b = true ↔ a.2 ≤ p.2 ∧ p.2 < b.2 ∧ turn a b p = 1 := by simp [cntU, and_assoc]
theorem cnt_comm (p a b : Pt) : cnt p a b = cnt p b a := by
  unfold cnt
  rcases Int.lt_trichotomy a.2 b.2 with h | h | h
  · rw [if_neg (by omega), if_pos h]
  · rw [if_neg (by omega), if_neg (by omega)]
    have k : ∀ x y : Pt, x.2 = y.2 → cntU p x y = false := by
      intro x y e; unfold cntU; rw [Bool.and_eq_false_iff]; left
      by_cases g : x.2 ≤ p.2
      · have : ¬ p.2 < y.2 := by omega
        simp [this]
      · simp [g]
    rw [k a b h, k b a h.symm]
  · rw [if_pos h, if_neg (by omega)]
theorem turn_one_ok {a b p : Pt} (h : turn a b p = 1) : okP a = true ∧ okP b = true ∧ okP p = true := by
  unfold turn at h; split at h
  · rename_i k; simp only [Bool.and_eq_true] at k; exact ⟨k.1.1, k.1.2, k.2⟩
  · omega

/-- How many edges of a way count: from a point through others. -/
def pc (p : Pt) : Pt → List Pt → Nat
  | _, [] => 0
  | a, b :: l => (cnt p a b).toNat + pc p b l
/-- The last point of a way. -/
def lst : Pt → List Pt → Pt
  | a, [] => a
  | _, b :: l => lst b l
theorem lst_append (a b : Pt) (l m : List Pt) : lst a (l ++ b :: m) = lst b m := by
  induction l generalizing a with
  | nil => rfl
  | cons c l ih => exact ih c
theorem pc_append (p a : Pt) (l m : List Pt) : pc p a (l ++ m) = pc p a l + pc p (lst a l) m := by
  induction l generalizing a with
  | nil => simp [pc, lst]
  | cons b l ih => simp only [List.cons_append, pc, lst, ih]; omega
/-- How many edges of a closed list count. -/
def crossN (p : Pt) : List Pt → Nat
  | [] => 0
  | a :: l => pc p (lst a l) (a :: l)
def inB (p : Pt) (l : List Pt) : Bool := decide (crossN p l % 2 = 1)

theorem pc_rev (p a b : Pt) (l : List Pt) : pc p b (l.reverse ++ [a]) = pc p a (l ++ [b]) := by
  induction l generalizing a with
  | nil => simp [pc, cnt_comm p a b]
  | cons c l ih =>
    have h1 : pc p b ((l.reverse ++ [c]) ++ [a]) = pc p b (l.reverse ++ [c]) + pc p c [a] := by
      rw [pc_append, lst_append]; rfl
    rw [List.reverse_cons, h1, ih]
    simp [pc, cnt_comm p c a]; omega

/-- A way from a to b through l. -/
def way (p a : Pt) (l : List Pt) (b : Pt) : Nat := pc p a (l ++ [b])
theorem way_rev (p a b : Pt) (l : List Pt) : way p b l.reverse a = way p a l b := pc_rev p a b l
theorem crossN_two (p a b : Pt) (l m : List Pt) : crossN p (a :: (l ++ b :: m)) = way p a l b + way p b m a := by
  have e : crossN p (a :: (l ++ b :: m)) = pc p (lst a (l ++ b :: m)) (a :: (l ++ b :: m)) := rfl
  rw [e, lst_append]; unfold way
  have h : a :: (l ++ b :: m) = [a] ++ (l ++ [b]) ++ m := by simp
  rw [h, pc_append, pc_append]
  rw [show lst (lst b m) ([a] ++ (l ++ [b])) = b by simp [lst, lst_append]]
  rw [show lst (lst b m) [a] = a from rfl]
  rw [pc_append p b m [a]]
  simp only [pc]; omega
theorem crossN_cons (p a : Pt) (l : List Pt) : crossN p (a :: l) = way p a l a := by
  cases l with
  | nil => simp [crossN, way, pc, lst]
  | cons b m =>
    have := crossN_two p a b [] m
    simp only [List.nil_append] at this
    rw [this]; unfold way
    simp [pc]

theorem crossN_rot1 (p a : Pt) (l : List Pt) : crossN p (l ++ [a]) = crossN p (a :: l) := by
  cases l with
  | nil => rfl
  | cons b m =>
    have h := crossN_two p b a m []
    have h2 := crossN_two p a b [] m
    simp only [List.nil_append] at h h2
    rw [show (b :: m) ++ [a] = b :: (m ++ a :: []) from rfl, h, h2]; omega
theorem crossN_rot (p : Pt) (l m : List Pt) : crossN p (m ++ l) = crossN p (l ++ m) := by
  induction l generalizing m with
  | nil => simp
  | cons a l ih =>
    have : m ++ a :: l = (m ++ [a]) ++ l := by simp
    rw [this, ih, ← List.append_assoc, crossN_rot1]; rfl
theorem crossN_rev (p : Pt) (l : List Pt) : crossN p l.reverse = crossN p l := by
  cases l with
  | nil => rfl
  | cons a m =>
    rw [List.reverse_cons, crossN_rot1, crossN_cons, crossN_cons, way_rev]
theorem pc_le (p a : Pt) (l : List Pt) : pc p a l ≤ l.length := by
  induction l generalizing a with
  | nil => simp [pc]
  | cons b l ih => have := ih b; simp only [pc, List.length_cons]; have : (cnt p a b).toNat ≤ 1 := Bool.toNat_le _; omega
theorem crossN_le (p : Pt) (l : List Pt) : crossN p l ≤ l.length := by
  cases l with
  | nil => simp [crossN]
  | cons a l => exact pc_le _ _ _

/-- Lists that share a part, gone along both ways. -/
theorem inB_adds (p a b : Pt) (part one two : List Pt) :
    (inB p (a :: (part ++ b :: one)) != inB p (b :: (part.reverse ++ a :: two))) = inB p (a :: (two ++ b :: one)) := by
  unfold inB
  rw [crossN_two, crossN_two, crossN_two, way_rev]
  rw [Bool.eq_iff_iff]
  simp only [bne_iff_ne, ne_eq, decide_eq_decide, decide_eq_true_eq]
  omega

/-- Points moved. -/
theorem cnt_mv {p a b d : Pt} (hp : okP p = true) (ha : okP a = true) (hb : okP b = true) (hp' : okP (mv p d) = true) (ha' : okP (mv a d) = true) (hb' : okP (mv b d) = true) :
    cnt (mv p d) (mv a d) (mv b d) = cnt p a b := by
  have k : ∀ x y : Pt, okP x = true → okP y = true → okP (mv x d) = true → okP (mv y d) = true → cntU (mv p d) (mv x d) (mv y d) = cntU p x y := by
    intro x y hx hy hx' hy'
    rw [Bool.eq_iff_iff, cntU_iff, cntU_iff, turn_mv hx hy hp hx' hy' hp']
    simp only [mv]; omega
  unfold cnt
  rw [k b a hb ha hb' ha', k a b ha hb ha' hb']
  have : ((mv b d).2 < (mv a d).2) = (b.2 < a.2) := by simp only [mv]; rw [eq_iff_iff]; omega
  simp only [this]
theorem pc_mv (p d : Pt) (hp : okP p = true) (hp' : okP (mv p d) = true) (a : Pt) (l : List Pt) (ha : okP a = true) (ha' : okP (mv a d) = true) (h : ∀ x ∈ l, okP x = true ∧ okP (mv x d) = true) :
    pc (mv p d) (mv a d) (l.map fun x => mv x d) = pc p a l := by
  induction l generalizing a with
  | nil => rfl
  | cons b l ih =>
    have hb := h b (by simp)
    simp only [List.map_cons, pc]
    rw [cnt_mv hp ha hb.1 hp' ha' hb.2, ih b hb.1 hb.2 fun x hx => h x (by simp [hx])]
theorem crossN_mv (p d : Pt) (hp : okP p = true) (hp' : okP (mv p d) = true) (l : List Pt) (h : ∀ x ∈ l, okP x = true ∧ okP (mv x d) = true) :
    crossN (mv p d) (l.map fun x => mv x d) = crossN p l := by
  cases l with
  | nil => rfl
  | cons a l =>
    rw [List.map_cons, crossN_cons, crossN_cons]; unfold way
    have ha := h a (by simp)
    rw [← pc_mv p d hp hp' a (l ++ [a]) ha.1 ha.2 (by intro x hx; simp at hx; rcases hx with hx | rfl; exact h x (by simp [hx]); exact ha)]
    simp

/-- The level: an edge goes over it. -/
def low (p a : Pt) : Bool := decide (a.2 ≤ p.2)
def chg (p a b : Pt) : Bool := low p a != low p b
theorem cnt_chg {p a b : Pt} (h : cnt p a b = true) : chg p a b = true := by
  unfold cnt at h
  split at h <;> (rw [cntU_iff] at h; simp only [chg, low, bne_iff_ne, ne_eq, decide_eq_decide]; omega)
def pch (p : Pt) : Pt → List Pt → Nat
  | _, [] => 0
  | a, b :: l => (chg p a b).toNat + pch p b l
theorem pch_par (p a : Pt) (l : List Pt) : pch p a l % 2 = (low p a != low p (lst a l)).toNat := by
  induction l generalizing a with
  | nil => simp only [pch, lst]; cases low p a <;> rfl
  | cons b l ih =>
    have := ih b
    simp only [pch, lst]
    rw [Nat.add_mod, this]
    unfold chg
    generalize low p a = x
    generalize low p b = y
    generalize low p (lst b l) = z
    cases x <;> cases y <;> cases z <;> rfl
theorem lst_way (a b : Pt) (l : List Pt) : lst a (l ++ [b]) = b := lst_append a b l []

/-- Where all edges that go over the level count, or none does: not inside. -/
theorem not_in_of_all {p a : Pt} {l : List Pt} (h : ∀ x y, x ∈ a :: l → y ∈ a :: l → cnt p x y = chg p x y) : inB p (a :: l) = false := by
  unfold inB
  rw [crossN_cons]; unfold way
  have key : ∀ (m : List Pt) (x : Pt), x ∈ a :: l → (∀ y ∈ m, y ∈ a :: l) → pc p x m = pch p x m := by
    intro m
    induction m with
    | nil => intros; rfl
    | cons y m ih =>
      intro x hx hm
      have hy := hm y (by simp)
      simp only [pc, pch, h x y hx hy, ih y hy fun z hz => hm z (by simp [hz])]
  rw [key (l ++ [a]) a (by simp) (by intro y hy; simp at hy ⊢; exact hy.symm)]
  have := pch_par p a (l ++ [a])
  rw [lst_way] at this
  rw [this]; cases low p a <;> rfl
theorem not_in_of_none {p a : Pt} {l : List Pt} (h : ∀ x y, x ∈ a :: l → y ∈ a :: l → cnt p x y = false) : inB p (a :: l) = false := by
  unfold inB
  rw [crossN_cons]; unfold way
  have key : ∀ (m : List Pt) (x : Pt), x ∈ a :: l → (∀ y ∈ m, y ∈ a :: l) → pc p x m = 0 := by
    intro m
    induction m with
    | nil => intros; rfl
    | cons y m ih =>
      intro x hx hm
      have hy := hm y (by simp)
      simp [pc, h x y hx hy, ih y hy fun z hz => hm z (by simp [hz])]
  rw [key (l ++ [a]) a (by simp) (by intro y hy; simp at hy ⊢; exact hy.symm)]; rfl

theorem det_split (a b p : Pt) : det a b p = (b.2 - p.2) * (a.1 - p.1) + (p.2 - a.2) * (b.1 - p.1) := by unfold det; grind
/-- A point to the left of all: each edge that goes over its level counts. -/
theorem cnt_left {p a b : Pt} (hp : okP p = true) (ha : okP a = true) (hb : okP b = true) (h1 : p.1 < a.1) (h2 : p.1 < b.1) : cnt p a b = chg p a b := by
  have k : ∀ x y : Pt, okP x = true → okP y = true → p.1 < x.1 → p.1 < y.1 → x.2 ≤ p.2 → p.2 < y.2 → turn x y p = 1 := by
    intro x y hx hy g1 g2 g3 g4
    rw [turn_ok hx hy hp, sign_pos, det_split]
    have := Int.mul_pos (show 0 < y.2 - p.2 by omega) (show 0 < x.1 - p.1 by omega)
    have := Int.mul_nonneg (show 0 ≤ p.2 - x.2 by omega) (show 0 ≤ y.1 - p.1 by omega)
    omega
  rw [Bool.eq_iff_iff]
  constructor
  · exact cnt_chg
  · intro h
    simp only [chg, low, bne_iff_ne, ne_eq, decide_eq_decide] at h
    unfold cnt
    split
    · rw [cntU_iff]; exact ⟨by omega, by omega, k b a hb ha h2 h1 (by omega) (by omega)⟩
    · rw [cntU_iff]; exact ⟨by omega, by omega, k a b ha hb h1 h2 (by omega) (by omega)⟩
/-- A point that is not to the left of an end: no edge counts. -/
theorem cnt_right {p a b : Pt} (h1 : a.1 ≤ p.1) (h2 : b.1 ≤ p.1) : cnt p a b = false := by
  have k : ∀ x y : Pt, x.1 ≤ p.1 → y.1 ≤ p.1 → cntU p x y = false := by
    intro x y g1 g2
    rw [← Bool.not_eq_true, cntU_iff]
    rintro ⟨g3, g4, g5⟩
    obtain ⟨hx, hy, hp⟩ := turn_one_ok g5
    rw [turn_ok hx hy hp, sign_pos, det_split] at g5
    have := Int.mul_nonpos_of_nonneg_of_nonpos (show 0 ≤ y.2 - p.2 by omega) (show x.1 - p.1 ≤ 0 by omega)
    have := Int.mul_nonpos_of_nonneg_of_nonpos (show 0 ≤ p.2 - x.2 by omega) (show y.1 - p.1 ≤ 0 by omega)
    omega
  unfold cnt; split
  · exact k b a h2 h1
  · exact k a b h1 h2

/-- What is inside is in the bounds. -/
theorem in_bounds {p a : Pt} {l : List Pt} (lx ly hx hy : Int) (hok : ∀ q ∈ a :: l, okP q = true) (hb : ∀ q ∈ a :: l, lx ≤ q.1 ∧ q.1 ≤ hx ∧ ly ≤ q.2 ∧ q.2 ≤ hy)
    (hp : okP p = true) (h : inB p (a :: l) = true) : lx ≤ p.1 ∧ p.1 ≤ hx ∧ ly ≤ p.2 ∧ p.2 ≤ hy := by
  refine ⟨?_, ?_, ?_, ?_⟩
  · rcases Int.lt_or_le p.1 lx with k | k
    · rw [not_in_of_all (fun x y mx my => cnt_left hp (hok x mx) (hok y my) (by have := hb x mx; omega) (by have := hb y my; omega))] at h; cases h
    · exact k
  · rcases Int.lt_or_le hx p.1 with k | k
    · rw [not_in_of_none (fun x y mx my => cnt_right (by have := hb x mx; omega) (by have := hb y my; omega))] at h; cases h
    · exact k
  · rcases Int.lt_or_le p.2 ly with k | k
    · rw [not_in_of_none (fun x y mx my => by
        rw [← Bool.not_eq_true]; intro g
        have := cnt_chg g
        have b1 := hb x mx; have b2 := hb y my
        simp only [chg, low, bne_iff_ne, ne_eq, decide_eq_decide] at this; omega)] at h; cases h
    · exact k
  · rcases Int.lt_or_le hy p.2 with k | k
    · rw [not_in_of_none (fun x y mx my => by
        rw [← Bool.not_eq_true]; intro g
        have := cnt_chg g
        have b1 := hb x mx; have b2 := hb y my
        simp only [chg, low, bne_iff_ne, ne_eq, decide_eq_decide] at this; omega)] at h; cases h
    · exact k

/-- The same edges count: inside both, or none. -/
theorem pc_congr {p q : Pt} (a : Pt) (l : List Pt) (h : ∀ i (hi : i < l.length), cnt p (if i = 0 then a else l.getD (i - 1) a) l[i] = cnt q (if i = 0 then a else l.getD (i - 1) a) l[i]) : pc p a l = pc q a l := by
  induction l generalizing a with
  | nil => rfl
  | cons b l ih =>
    simp only [pc]
    have h0 := h 0 (by simp)
    simp only [if_true, List.getElem_cons_zero] at h0
    rw [h0, ih b ?_]
    intro i hi
    have := h (i + 1) (by simp; omega)
    simp only [Nat.add_eq_zero_iff, Nat.add_sub_cancel, List.getElem_cons_succ] at this
    rw [if_neg (by omega)] at this
    by_cases e : i = 0
    · subst e; simpa using this
    · rw [if_neg e]
      obtain ⟨j, rfl⟩ := Nat.exists_eq_succ_of_ne_zero e
      simp only [List.getD_cons_succ, Nat.succ_eq_add_one, Nat.add_sub_cancel] at this ⊢
      rw [List.getD_eq_getElem?_getD, List.getElem?_eq_getElem (by omega)] at this ⊢
      exact this
end Go.Proofs.Geo
