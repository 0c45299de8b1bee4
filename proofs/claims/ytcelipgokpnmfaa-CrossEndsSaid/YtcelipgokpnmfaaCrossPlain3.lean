/- Plain geometry of two segments, further: boxes that have nothing in common; at most two common ends; a point that cuts a segment. -/
import Derived.Test.YtcelipgokpnmfaaCrossPlain2
namespace Go.Proofs.Geo

def tr (p : Pt) : Pt := (p.2, p.1)
theorem okP_tr (p : Pt) : okP (tr p) = okP p := by simp only [okP, tr]; rw [Bool.and_comm]
theorem det_tr (a b c : Pt) : det (tr a) (tr b) (tr c) = - det a b c := by unfold det tr; grind
theorem onS_tr (p a b : Pt) : onS (tr p) (tr a) (tr b) = onS p a b := by
  rw [Bool.eq_iff_iff, onS_iff, onS_iff, okP_tr, okP_tr, okP_tr, det_tr]
  constructor
  · rintro ⟨h1, h2, h3, h4, h5, h6⟩; exact ⟨h1, h2, h3, h5, h4, by omega⟩
  · rintro ⟨h1, h2, h3, h4, h5, h6⟩; exact ⟨h1, h2, h3, h5, h4, by omega⟩
theorem tr_inj {p q : Pt} (h : tr p = tr q) : p = q := by
  have h1 := congrArg Prod.fst h; have h2 := congrArg Prod.snd h
  exact Prod.ext h2 h1
theorem Mt_tr {a b c d : Pt} : Mt (tr a) (tr b) (tr c) (tr d) ↔ Mt a b c d := by
  unfold Mt Crs
  rw [onS_tr, onS_tr, onS_tr, onS_tr, det_tr, det_tr, det_tr, det_tr]
  constructor <;> rintro (h | h | h | h | h) <;> first | exact .inl h | exact .inr (.inl h) | exact .inr (.inr (.inl h)) | exact .inr (.inr (.inr (.inl h))) | exact .inr (.inr (.inr (.inr (by omega))))

/-- Two stretches that have nothing in common lie apart. -/
theorem apart_one {a b c d : Int} (h : ¬ max (min a b) (min c d) ≤ min (max a b) (max c d)) : (a < c ∧ a < d ∧ b < c ∧ b < d) ∨ (c < a ∧ c < b ∧ d < a ∧ d < b) := by
  have h1 : ¬ (min a b ≤ max c d ∧ min c d ≤ max a b) := by
    intro ⟨k1, k2⟩; apply h
    rw [Int.max_le, Int.le_min, Int.le_min]
    exact ⟨⟨by omega, k1⟩, k2, by omega⟩
  by_cases k1 : min a b ≤ max c d
  · left
    have k2 : ¬ min c d ≤ max a b := fun k => h1 ⟨k1, k⟩
    omega
  · right; omega
/-- An end of two stretches that is in both is the low or the high end of what both have in common. -/
theorem end_one {a b c d x : Int} (h : x = a ∨ x = b ∨ x = c ∨ x = d) (h1 : (a ≤ x ∧ x ≤ b) ∨ (b ≤ x ∧ x ≤ a)) (h2 : (c ≤ x ∧ x ≤ d) ∨ (d ≤ x ∧ x ≤ c)) :
    x = max (min a b) (min c d) ∨ x = min (max a b) (max c d) := by
  have l1 : min a b ≤ x := by omega
  have l2 : min c d ≤ x := by omega
  have u1 : x ≤ max a b := by omega
  have u2 : x ≤ max c d := by omega
  have e : x = min a b ∨ x = max a b ∨ x = min c d ∨ x = max c d := by omega
  clear h h1 h2
  generalize min a b = p at *
  generalize max a b = q at *
  generalize min c d = r at *
  generalize max c d = s at *
  omega
/-- Boxes without a common point: no meeting. -/
theorem not_Mt_of_boxes {a b c d : Pt} (h : ¬ (max (min a.1 b.1) (min c.1 d.1) ≤ min (max a.1 b.1) (max c.1 d.1) ∧ max (min a.2 b.2) (min c.2 d.2) ≤ min (max a.2 b.2) (max c.2 d.2))) : ¬ Mt a b c d := by
  have h' : (a.1 < c.1 ∧ a.1 < d.1 ∧ b.1 < c.1 ∧ b.1 < d.1) ∨ (c.1 < a.1 ∧ c.1 < b.1 ∧ d.1 < a.1 ∧ d.1 < b.1) ∨ (a.2 < c.2 ∧ a.2 < d.2 ∧ b.2 < c.2 ∧ b.2 < d.2) ∨ (c.2 < a.2 ∧ c.2 < b.2 ∧ d.2 < a.2 ∧ d.2 < b.2) := by
    rw [Classical.not_and_iff_not_or_not] at h
    rcases h with h | h
    · rcases apart_one h with k | k
      · exact .inl k
      · exact .inr (.inl k)
    · rcases apart_one h with k | k
      · exact .inr (.inr (.inl k))
      · exact .inr (.inr (.inr k))
  rcases h' with k | k | k | k
  · exact not_Mt_of_left k
  · rw [← Mt_swap]; exact not_Mt_of_left k
  · rw [← Mt_tr]; exact not_Mt_of_left k
  · rw [← Mt_swap, ← Mt_tr]; exact not_Mt_of_left k

/-- On a line that is not upright, points differ in the first coordinate. -/
theorem fst_ne {a b p q : Pt} (hx : a.1 ≠ b.1) (hp : det a b p = 0) (hq : det a b q = 0) (h : p ≠ q) : p.1 ≠ q.1 := by
  intro e
  have : (b.1 - a.1) * (p.2 - q.2) = 0 := by unfold det at hp hq; grind
  rcases Int.mul_eq_zero.1 this with k | k
  · omega
  · exact h (Prod.ext e (by omega))

theorem no_three_x {a b c d p q r : Pt} (hx : a.1 ≠ b.1) (hpq : p ≠ q) (hqr : q ≠ r) (hpr : p ≠ r)
    (hp : (p = a ∨ p = b ∨ p = c ∨ p = d) ∧ onS p a b = true ∧ onS p c d = true)
    (hq : (q = a ∨ q = b ∨ q = c ∨ q = d) ∧ onS q a b = true ∧ onS q c d = true)
    (hr : (r = a ∨ r = b ∨ r = c ∨ r = d) ∧ onS r a b = true ∧ onS r c d = true) : False := by
  obtain ⟨hp1, hp2, hp3⟩ := hp
  obtain ⟨hq1, hq2, hq3⟩ := hq
  obtain ⟨hr1, hr2, hr3⟩ := hr
  obtain ⟨_, _, _, p1, _, p2⟩ := onS_iff.1 hp2
  obtain ⟨_, _, _, q1, _, q2⟩ := onS_iff.1 hq2
  obtain ⟨_, _, _, r1, _, r2⟩ := onS_iff.1 hr2
  have p3 := (onS_iff.1 hp3).2.2.2.1
  have q3 := (onS_iff.1 hq3).2.2.2.1
  have r3 := (onS_iff.1 hr3).2.2.2.1
  have n1 := fst_ne hx p2 q2 hpq
  have n2 := fst_ne hx q2 r2 hqr
  have n3 := fst_ne hx p2 r2 hpr
  have P : p.1 = a.1 ∨ p.1 = b.1 ∨ p.1 = c.1 ∨ p.1 = d.1 := by rcases hp1 with e | e | e | e <;> simp [e]
  have Q : q.1 = a.1 ∨ q.1 = b.1 ∨ q.1 = c.1 ∨ q.1 = d.1 := by rcases hq1 with e | e | e | e <;> simp [e]
  have R : r.1 = a.1 ∨ r.1 = b.1 ∨ r.1 = c.1 ∨ r.1 = d.1 := by rcases hr1 with e | e | e | e <;> simp [e]
  rw [btw_iff] at p1 q1 r1 p3 q3 r3
  have kp := end_one P p1 p3
  have kq := end_one Q q1 q3
  have kr := end_one R r1 r3
  clear P Q R p1 q1 r1 p3 q3 r3 p2 q2 r2
  generalize max (min a.1 b.1) (min c.1 d.1) = u at *
  generalize min (max a.1 b.1) (max c.1 d.1) = v at *
  omega

theorem no_three {a b c d p q r : Pt} (hab : a ≠ b) (hpq : p ≠ q) (hqr : q ≠ r) (hpr : p ≠ r)
    (hp : (p = a ∨ p = b ∨ p = c ∨ p = d) ∧ onS p a b = true ∧ onS p c d = true)
    (hq : (q = a ∨ q = b ∨ q = c ∨ q = d) ∧ onS q a b = true ∧ onS q c d = true)
    (hr : (r = a ∨ r = b ∨ r = c ∨ r = d) ∧ onS r a b = true ∧ onS r c d = true) : False := by
  by_cases hx : a.1 = b.1
  · have hy : (tr a).1 ≠ (tr b).1 := fun e => hab (Prod.ext hx e)
    have go : ∀ x, (x = a ∨ x = b ∨ x = c ∨ x = d) ∧ onS x a b = true ∧ onS x c d = true → (tr x = tr a ∨ tr x = tr b ∨ tr x = tr c ∨ tr x = tr d) ∧ onS (tr x) (tr a) (tr b) = true ∧ onS (tr x) (tr c) (tr d) = true := by
      rintro x ⟨h, j, k⟩
      exact ⟨by rcases h with e | e | e | e <;> simp [e], by rw [onS_tr]; exact j, by rw [onS_tr]; exact k⟩
    exact no_three_x hy (fun e => hpq (tr_inj e)) (fun e => hqr (tr_inj e)) (fun e => hpr (tr_inj e)) (go p hp) (go q hq) (go r hr)
  · exact no_three_x hx hpq hqr hpr hp hq hr

/-- At most two ends are in common. -/
theorem ends_le {a b c d : Pt} (h1 : may a b = true) (h2 : may c d = true) : (ends a b c d).length ≤ 2 := by
  have hn := nodup_ends a b c d
  have hm := fun p => mem_ends (p := p) h1 h2
  match he : ends a b c d with
  | [] => simp
  | [_] => simp
  | [_, _] => simp
  | p :: q :: r :: l =>
    exfalso
    rw [he] at hn hm
    simp only [List.nodup_cons, List.mem_cons, not_or] at hn
    exact no_three (may_iff.1 h1).2.2 hn.1.1 hn.2.1.1 hn.1.2.1 ((hm p).1 (by simp)) ((hm q).1 (by simp)) ((hm r).1 (by simp))

/-- What the number of common ends is, by how they meet. -/
theorem ends_len {a b c d : Pt} (h1 : may a b = true) (h2 : may c d = true) :
    ((ends a b c d).length : Int) = (if meets a b c d = 3 then 2 else if meets a b c d = 1 then 1 else 0) := by
  have hl := ends_le h1 h2
  have : meets a b c d = if (ends a b c d).length = 0 then (if crossB a b c d then 2 else 0) else if (ends a b c d).length = 1 then 1 else 3 := by
    unfold meets; rw [if_pos (by rw [h1, h2]; rfl)]
  rw [this]
  by_cases k0 : (ends a b c d).length = 0
  · rw [if_pos k0, k0]; split <;> decide
  · rw [if_neg k0]
    by_cases k1 : (ends a b c d).length = 1
    · rw [if_pos k1, k1]; decide
    · rw [if_neg k1]; simp only [if_true]; omega
theorem meets_of_len {a b c d : Pt} (h1 : may a b = true) (h2 : may c d = true) (n : Nat) (h : (ends a b c d).length = n) : meets a b c d = if n = 0 then (if crossB a b c d then 2 else 0) else if n = 1 then 1 else 3 := by
  subst h; unfold meets; rw [if_pos (by rw [h1, h2]; rfl)]

/-- A segment is over itself. -/
theorem ends_self {a b : Pt} (h : may a b = true) : ends a b a b = [a, b] := by
  have k := may_iff.1 h
  have e1 := onS_left k.1 k.2.1
  have e2 := onS_right k.1 k.2.1
  have hne : ¬ b = a := fun e => k.2.2 e.symm
  simp [ends, h, onL, List.filter, e1, e2, gather, hne]
theorem meets_self {a b : Pt} (h : may a b = true) : meets a b a b = 3 := by
  rw [meets_of_len h h 2 (by rw [ends_self h]; rfl)]; rfl
theorem meets_self' {a b : Pt} (h : may a b = true) : meets a b b a = 3 := by rw [meets_r]; exact meets_self h
end Go.Proofs.Geo
