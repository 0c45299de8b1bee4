
/- Plain geometry of points with whole coordinates: turns, betweenness; no program in sight. -/
namespace Go.Proofs.Geo

/-- A point: its two coordinates. -/
abbrev Pt := Int × Int

/-- May a coordinate be? -/
def okB (x : Int) : Bool := decide (-1099511627775 ≤ x) && decide (x ≤ 1099511627775)
def okP (p : Pt) : Bool := okB p.1 && okB p.2
theorem okB_iff {x : Int} : okB x = true ↔ -1099511627775 ≤ x ∧ x ≤ 1099511627775 := by simp [okB]
theorem okP_iff {p : Pt} : okP p = true ↔ (-1099511627775 ≤ p.1 ∧ p.1 ≤ 1099511627775) ∧ -1099511627775 ≤ p.2 ∧ p.2 ≤ 1099511627775 := by simp [okP, okB]
theorem okP_false {p : Pt} : okP p = false ↔ ¬ ((-1099511627775 ≤ p.1 ∧ p.1 ≤ 1099511627775) ∧ -1099511627775 ≤ p.2 ∧ p.2 ≤ 1099511627775) := by
  rw [← okP_iff]; simp

/-- The cross product of b - a and c - a. -/
def det (a b c : Pt) : Int := (b.1 - a.1) * (c.2 - a.2) - (b.2 - a.2) * (c.1 - a.1)
/-- On which side of the line from a to b c is. -/
def turn (a b c : Pt) : Int := if okP a && okP b && okP c then (det a b c).sign else 0
def btw (n a b : Int) : Bool := decide (min a b ≤ n) && decide (n ≤ max a b)
def onS (p a b : Pt) : Bool := okP p && okP a && okP b && btw p.1 a.1 b.1 && btw p.2 a.2 b.2 && decide (turn a b p = 0)
/-- The order of points. -/
def cmpP (a b : Pt) : Int := if a.2 < b.2 then -1 else if b.2 < a.2 then 1 else if a.1 < b.1 then -1 else if b.1 < a.1 then 1 else 0

theorem btw_iff {n a b : Int} : btw n a b = true ↔ (a ≤ n ∧ n ≤ b) ∨ (b ≤ n ∧ n ≤ a) := by
  simp only [btw, Bool.and_eq_true, decide_eq_true_eq]; omega

theorem turn_ok {a b c : Pt} (ha : okP a = true) (hb : okP b = true) (hc : okP c = true) : turn a b c = (det a b c).sign := by simp [turn, ha, hb, hc]

theorem det_cyc (a b c : Pt) : det b c a = det a b c := by unfold det; grind
theorem det_swap (a b c : Pt) : det b a c = - det a b c := by unfold det; grind
theorem det_swap' (a b c : Pt) : det a c b = - det a b c := by unfold det; grind
theorem det_aa (a c : Pt) : det a a c = 0 := by unfold det; simp
theorem det_aba (a b : Pt) : det a b a = 0 := by unfold det; simp
theorem det_abb (a b : Pt) : det a b b = 0 := by unfold det; grind

theorem turn_cyc (a b c : Pt) : turn b c a = turn a b c := by
  unfold turn; rw [det_cyc]; cases okP a <;> cases okP b <;> cases okP c <;> simp
theorem turn_swap (a b c : Pt) : turn b a c = - turn a b c := by
  unfold turn; rw [det_swap]; cases okP a <;> cases okP b <;> cases okP c <;> simp [Int.sign_neg]
theorem turn_swap' (a b c : Pt) : turn a c b = - turn a b c := by
  unfold turn; rw [det_swap']; cases okP a <;> cases okP b <;> cases okP c <;> simp [Int.sign_neg]
theorem turn_aac (a c : Pt) : turn a a c = 0 := by unfold turn; rw [det_aa]; simp
theorem turn_aba (a b : Pt) : turn a b a = 0 := by unfold turn; rw [det_aba]; simp
theorem turn_abb (a b : Pt) : turn a b b = 0 := by unfold turn; rw [det_abb]; simp
theorem sign_bd (x : Int) : -1 ≤ x.sign ∧ x.sign ≤ 1 := by
  rcases Int.lt_trichotomy x 0 with h | h | h
  · rw [Int.sign_eq_neg_one_of_neg h]; decide
  · subst h; decide
  · rw [Int.sign_eq_one_of_pos h]; decide
theorem turn_bd (a b c : Pt) : -1 ≤ turn a b c ∧ turn a b c ≤ 1 := by
  unfold turn; split
  · exact sign_bd _
  · decide
theorem sign_zero {x : Int} : x.sign = 0 ↔ x = 0 := Int.sign_eq_zero_iff_zero
theorem sign_pos {x : Int} : x.sign = 1 ↔ 0 < x := Int.sign_eq_one_iff_pos
theorem sign_neg' {x : Int} : x.sign = -1 ↔ x < 0 := Int.sign_eq_neg_one_iff_neg

/-- Seen from the other side. -/
theorem turn_flip (a b c : Pt) : turn (-a.1, a.2) (-b.1, b.2) (-c.1, c.2) = - turn a b c := by
  have e : det (-a.1, a.2) (-b.1, b.2) (-c.1, c.2) = - det a b c := by unfold det; grind
  have k : ∀ p : Pt, okP (-p.1, p.2) = okP p := by intro p; simp only [okP, okB]; rw [Bool.eq_iff_iff]; simp; omega
  unfold turn; rw [e, k, k, k]; split <;> simp [Int.sign_neg]
theorem turn_transp (a b c : Pt) : turn (a.2, a.1) (b.2, b.1) (c.2, c.1) = - turn a b c := by
  have e : det (a.2, a.1) (b.2, b.1) (c.2, c.1) = - det a b c := by unfold det; grind
  have k : ∀ p : Pt, okP (p.2, p.1) = okP p := by intro p; simp only [okP]; rw [Bool.and_comm]
  unfold turn; rw [e, k, k, k]; split <;> simp [Int.sign_neg]

/-- Moved. -/
def mv (p d : Pt) : Pt := (p.1 + d.1, p.2 + d.2)
theorem det_mv (a b c d : Pt) : det (mv a d) (mv b d) (mv c d) = det a b c := by unfold det mv; grind
theorem btw_mv (n a b d : Int) : btw (n + d) (a + d) (b + d) = btw n a b := by rw [Bool.eq_iff_iff, btw_iff, btw_iff]; omega
theorem btw_comm (n a b : Int) : btw n a b = btw n b a := by rw [Bool.eq_iff_iff, btw_iff, btw_iff]; exact Or.comm

theorem onS_comm (p a b : Pt) : onS p a b = onS p b a := by
  have e : decide (turn a b p = 0) = decide (turn b a p = 0) := by rw [turn_swap a b p]; simp
  unfold onS
  rw [btw_comm p.1 a.1 b.1, btw_comm p.2 a.2 b.2, e]
  cases okP p <;> cases okP a <;> cases okP b <;> simp
theorem onS_turn {p a b : Pt} (h : onS p a b = true) : turn a b p = 0 := by
  simp only [onS, Bool.and_eq_true, decide_eq_true_eq] at h; exact h.2
theorem onS_left {a b : Pt} (ha : okP a = true) (hb : okP b = true) : onS a a b = true := by
  have h : ∀ n m : Int, btw n n m = true := by intro n m; rw [btw_iff]; omega
  simp [onS, ha, hb, turn_aba, h]
theorem onS_right {a b : Pt} (ha : okP a = true) (hb : okP b = true) : onS b a b = true := by
  rw [onS_comm]; exact onS_left hb ha
/-- Being on a segment, in plain words. -/
theorem onS_iff {p a b : Pt} : onS p a b = true ↔ okP p = true ∧ okP a = true ∧ okP b = true ∧ btw p.1 a.1 b.1 = true ∧ btw p.2 a.2 b.2 = true ∧ det a b p = 0 := by
  simp only [onS, Bool.and_eq_true, decide_eq_true_eq, and_assoc]
  constructor
  · rintro ⟨h1, h2, h3, h4, h5, h6⟩
    refine ⟨h1, h2, h3, h4, h5, ?_⟩
    rw [turn_ok h2 h3 h1] at h6; exact sign_zero.1 h6
  · rintro ⟨h1, h2, h3, h4, h5, h6⟩
    refine ⟨h1, h2, h3, h4, h5, ?_⟩
    rw [turn_ok h2 h3 h1]; exact sign_zero.2 h6

/-- A part of a stretch that lies in proportion lies between. -/
theorem prop_btw {D e f g : Int} (hD : 0 < D) (h0 : 0 ≤ e) (h1 : e ≤ D) (h : f * D = g * e) : (0 ≤ f ∧ f ≤ g) ∨ (g ≤ f ∧ f ≤ 0) := by
  rcases Int.le_total 0 g with hg | hg
  · left
    constructor
    · have : 0 ≤ f * D := by rw [h]; exact Int.mul_nonneg hg h0
      rcases Int.lt_or_le f 0 with hf | hf
      · have := Int.mul_neg_of_neg_of_pos hf hD; omega
      · exact hf
    · have h2 : g * e ≤ g * D := Int.mul_le_mul_of_nonneg_left h1 hg
      rw [← h] at h2
      exact Int.le_of_mul_le_mul_right h2 hD
  · right
    constructor
    · have h2 : g * D ≤ g * e := Int.mul_le_mul_of_nonpos_left hg h1
      rw [← h] at h2
      exact Int.le_of_mul_le_mul_right h2 hD
    · have : f * D ≤ 0 := by rw [h]; exact Int.mul_nonpos_of_nonpos_of_nonneg hg h0
      rcases Int.lt_or_le 0 f with hf | hf
      · have := Int.mul_pos hf hD; omega
      · exact hf

/-- Of three points on one line: the one whose first coordinate is between is between. -/
theorem between_x {a b c : Pt} (h : det a b c = 0) (hx : a.1 < b.1) (h1 : a.1 ≤ c.1) (h2 : c.1 ≤ b.1) : btw c.2 a.2 b.2 = true := by
  have hd : (c.2 - a.2) * (b.1 - a.1) = (b.2 - a.2) * (c.1 - a.1) := by unfold det at h; grind
  have := prop_btw (by omega) (by omega) (by omega) hd
  rw [btw_iff]; omega
theorem between_x' {a b c : Pt} (h : det a b c = 0) (hx : a.1 ≠ b.1) (h1 : btw c.1 a.1 b.1 = true) : btw c.2 a.2 b.2 = true := by
  rw [btw_iff] at h1
  rcases Int.lt_or_gt_of_ne hx with hl | hl
  · exact between_x h hl (by omega) (by omega)
  · rw [btw_comm]; exact between_x (a := b) (b := a) (by rw [det_swap]; omega) hl (by omega) (by omega)
theorem between_y' {a b c : Pt} (h : det a b c = 0) (hx : a.2 ≠ b.2) (h1 : btw c.2 a.2 b.2 = true) : btw c.1 a.1 b.1 = true := by
  have := between_x' (a := (a.2, a.1)) (b := (b.2, b.1)) (c := (c.2, c.1)) (by unfold det at *; grind) hx h1
  exact this

theorem btw_three (a b c : Int) : btw a b c = true ∨ btw b a c = true ∨ btw c a b = true := by
  simp only [btw_iff]; omega

theorem det_zero_some {a b c : Pt} (h : det a b c = 0) : (btw c.1 a.1 b.1 = true ∧ btw c.2 a.2 b.2 = true) ∨ (btw a.1 b.1 c.1 = true ∧ btw a.2 b.2 c.2 = true) ∨ (btw b.1 a.1 c.1 = true ∧ btw b.2 a.2 c.2 = true) := by
  have h2 : det b c a = 0 := by rw [det_cyc]; exact h
  have h3 : det a c b = 0 := by rw [det_swap']; omega
  by_cases hx : a.1 = b.1 ∧ b.1 = c.1
  · obtain ⟨e1, e2⟩ := hx
    rcases btw_three a.2 b.2 c.2 with h | h | h
    · right; left; exact ⟨by rw [btw_iff]; omega, h⟩
    · right; right; exact ⟨by rw [btw_iff]; omega, h⟩
    · left; exact ⟨by rw [btw_iff]; omega, h⟩
  · rcases btw_three a.1 b.1 c.1 with k | k | k
    · by_cases e : b.1 = c.1
      · exfalso; rw [btw_iff] at k; omega
      · right; left; exact ⟨k, between_x' h2 e k⟩
    · by_cases e : a.1 = c.1
      · exfalso; rw [btw_iff] at k; omega
      · right; right; exact ⟨k, between_x' h3 e k⟩
    · by_cases e : a.1 = b.1
      · exfalso; rw [btw_iff] at k; omega
      · left; exact ⟨k, between_x' h e k⟩

/-- Of three points that may be there is no turn just if one is on the segment between the others. -/
theorem turn_zero_iff {a b c : Pt} (ha : okP a = true) (hb : okP b = true) (hc : okP c = true) :
    turn a b c = 0 ↔ (onS c a b = true ∨ onS a b c = true ∨ onS b a c = true) := by
  constructor
  · intro h
    rw [turn_ok ha hb hc, sign_zero] at h
    rcases det_zero_some h with k | k | k
    · left; exact onS_iff.2 ⟨hc, ha, hb, k.1, k.2, h⟩
    · right; left; exact onS_iff.2 ⟨ha, hb, hc, k.1, k.2, by rw [det_cyc]; exact h⟩
    · right; right; exact onS_iff.2 ⟨hb, ha, hc, k.1, k.2, by rw [det_swap']; omega⟩
  · rintro (h | h | h)
    · exact onS_turn h
    · have := onS_turn h; rw [turn_cyc] at this; exact this
    · have := onS_turn h; rw [turn_swap'] at this; omega

theorem onS_mv {p a b d : Pt} (hp : okP p = true) (ha : okP a = true) (hb : okP b = true) (hp' : okP (mv p d) = true) (ha' : okP (mv a d) = true) (hb' : okP (mv b d) = true) :
    onS (mv p d) (mv a d) (mv b d) = onS p a b := by
  rw [Bool.eq_iff_iff, onS_iff, onS_iff, det_mv]
  simp only [hp, ha, hb, hp', ha', hb', true_and]
  show btw (p.1 + d.1) (a.1 + d.1) (b.1 + d.1) = true ∧ btw (p.2 + d.2) (a.2 + d.2) (b.2 + d.2) = true ∧ _ ↔ _
  rw [btw_mv, btw_mv]
theorem turn_mv {a b c d : Pt} (ha : okP a = true) (hb : okP b = true) (hc : okP c = true) (ha' : okP (mv a d) = true) (hb' : okP (mv b d) = true) (hc' : okP (mv c d) = true) :
    turn (mv a d) (mv b d) (mv c d) = turn a b c := by rw [turn_ok ha' hb' hc', turn_ok ha hb hc, det_mv]

/-- The order. -/
theorem cmpP_neg (a b : Pt) : cmpP b a = - cmpP a b := by unfold cmpP; repeat' split <;> omega
theorem cmpP_zero {a b : Pt} : cmpP a b = 0 ↔ a = b := by
  have : a = b ↔ a.1 = b.1 ∧ a.2 = b.2 := Prod.ext_iff
  rw [this]; unfold cmpP; repeat' split <;> omega
theorem cmpP_bd (a b : Pt) : -1 ≤ cmpP a b ∧ cmpP a b ≤ 1 := by unfold cmpP; repeat' split <;> omega
theorem cmpP_trans {a b c : Pt} (h1 : cmpP a b ≤ 0) (h2 : cmpP b c ≤ 0) : cmpP a c ≤ 0 := by unfold cmpP at *; repeat' split at * <;> omega
end Go.Proofs.Geo

/- Plain: points from a place on. -/
namespace Go.Proofs.Geo
/-- Points from a place on, round the list. -/
def frm (l : List Pt) (i : Int) : List Pt := l.drop (i % (l.length : Int)).toNat ++ l.take (i % (l.length : Int)).toNat
theorem frm_len (l : List Pt) (i : Int) : (frm l i).length = l.length := by unfold frm; simp; omega
end Go.Proofs.Geo

/- Plain geometry of two segments: which ends are on the other one, how they meet; no program in sight. -/
namespace Go.Proofs.Geo

def may (a b : Pt) : Bool := okP a && okP b && decide (a ≠ b)
theorem may_iff {a b : Pt} : may a b = true ↔ okP a = true ∧ okP b = true ∧ a ≠ b := by simp [may, and_assoc]
theorem may_comm (a b : Pt) : may a b = may b a := by
  rw [Bool.eq_iff_iff, may_iff, may_iff]; exact ⟨fun ⟨h1, h2, h3⟩ => ⟨h2, h1, fun e => h3 e.symm⟩, fun ⟨h1, h2, h3⟩ => ⟨h2, h1, fun e => h3 e.symm⟩⟩

/-- Points gathered, each once. -/
def gather (out : List Pt) : List Pt → List Pt
  | [] => out
  | p :: l => gather (if p ∈ out then out else out ++ [p]) l
theorem mem_gather {q : Pt} (l out : List Pt) : q ∈ gather out l ↔ q ∈ out ∨ q ∈ l := by
  induction l generalizing out with
  | nil => simp [gather]
  | cons p l ih =>
    rw [gather, ih]
    by_cases h : p ∈ out
    · rw [if_pos h]
      constructor
      · rintro (h1 | h1)
        · exact .inl h1
        · exact .inr (List.mem_cons_of_mem _ h1)
      · rintro (h1 | h1)
        · exact .inl h1
        · rcases List.mem_cons.1 h1 with rfl | h2
          · exact .inl h
          · exact .inr h2
    · rw [if_neg h]; simp [or_assoc]
theorem nodup_gather (l out : List Pt) (h : out.Nodup) : (gather out l).Nodup := by
  induction l generalizing out with
  | nil => exact h
  | cons p l ih =>
    rw [gather]; apply ih
    by_cases hp : p ∈ out
    · rw [if_pos hp]; exact h
    · rw [if_neg hp, List.nodup_append]
      refine ⟨h, by simp, ?_⟩
      intro x hx y hy e
      rw [List.mem_singleton] at hy; subst hy; subst e; exact hp hx

def onL (a b : Pt) (l : List Pt) : List Pt := l.filter (fun p => onS p a b)
/-- The ends that both segments have in common. -/
def ends (a b c d : Pt) : List Pt := if may a b && may c d then gather (gather [] (onL c d [a, b])) (onL a b [c, d]) else []
def crossB (a b c d : Pt) : Bool := decide (turn a b c * turn a b d < 0) && decide (turn c d a * turn c d b < 0)
/-- How two segments meet: 0 not, 1 they touch, 2 they cross, 3 they are over one another. -/
def meets (a b c d : Pt) : Int :=
  if may a b && may c d then
    if (ends a b c d).length = 0 then (if crossB a b c d then 2 else 0) else if (ends a b c d).length = 1 then 1 else 3
  else 0

theorem mem_ends {a b c d p : Pt} (h1 : may a b = true) (h2 : may c d = true) :
    p ∈ ends a b c d ↔ (p = a ∨ p = b ∨ p = c ∨ p = d) ∧ onS p a b = true ∧ onS p c d = true := by
  have k1 := may_iff.1 h1
  have k2 := may_iff.1 h2
  have e1 := onS_left k1.1 k1.2.1
  have e2 := onS_right k1.1 k1.2.1
  have e3 := onS_left k2.1 k2.2.1
  have e4 := onS_right k2.1 k2.2.1
  simp only [ends, h1, h2, Bool.and_self, if_true, mem_gather, onL, List.mem_filter, List.mem_cons, List.not_mem_nil, or_false, false_or]
  constructor
  · rintro (⟨h | h, k⟩ | ⟨h | h, k⟩)
    · subst h; exact ⟨.inl rfl, e1, k⟩
    · subst h; exact ⟨.inr (.inl rfl), e2, k⟩
    · subst h; exact ⟨.inr (.inr (.inl rfl)), k, e3⟩
    · subst h; exact ⟨.inr (.inr (.inr rfl)), k, e4⟩
  · rintro ⟨h | h | h | h, j, k⟩
    · exact .inl ⟨.inl h, k⟩
    · exact .inl ⟨.inr h, k⟩
    · exact .inr ⟨.inl h, j⟩
    · exact .inr ⟨.inr h, j⟩
theorem nodup_ends (a b c d : Pt) : (ends a b c d).Nodup := by
  unfold ends; split
  · exact nodup_gather _ _ (nodup_gather _ _ List.nodup_nil)
  · exact List.nodup_nil

/-- Lists without doubles that hold the same are of one length. -/
theorem nodup_len_le {α : Type} [DecidableEq α] : ∀ (l m : List α), l.Nodup → (∀ x, x ∈ l → x ∈ m) → l.length ≤ m.length
  | [], _, _, _ => Nat.zero_le _
  | x :: l, m, h, k => by
    have hx : x ∈ m := k x List.mem_cons_self
    have hn := List.nodup_cons.1 h
    have := nodup_len_le l (m.erase x) hn.2 (fun y hy => by
      have hy' := k y (List.mem_cons_of_mem _ hy)
      have : y ≠ x := fun e => hn.1 (e ▸ hy)
      exact (List.mem_erase_of_ne this).2 hy')
    rw [List.length_erase_of_mem hx] at this
    have : 0 < m.length := List.length_pos_of_mem hx
    simp only [List.length_cons]; omega
theorem nodup_len_eq {α : Type} [DecidableEq α] {l m : List α} (h : l.Nodup) (h' : m.Nodup) (k : ∀ x, x ∈ l ↔ x ∈ m) : l.length = m.length :=
  Nat.le_antisymm (nodup_len_le l m h fun x => (k x).1) (nodup_len_le m l h' fun x => (k x).2)

theorem meets_of_same {a b c d a' b' c' d' : Pt} (hm : (may a b && may c d) = (may a' b' && may c' d'))
    (hl : may a b = true → may c d = true → (ends a b c d).length = (ends a' b' c' d').length) (hc : crossB a b c d = crossB a' b' c' d') : meets a b c d = meets a' b' c' d' := by
  unfold meets
  rw [← hm, ← hc]
  by_cases h : (may a b && may c d) = true
  · rw [if_pos h, if_pos h]
    have h' := h
    rw [Bool.and_eq_true] at h'
    rw [hl h'.1 h'.2]
  · rw [if_neg h, if_neg h]

theorem meets_bd (a b c d : Pt) : 0 ≤ meets a b c d ∧ meets a b c d ≤ 3 := by unfold meets; (repeat' split) <;> decide

theorem crossB_swap (a b c d : Pt) : crossB c d a b = crossB a b c d := by unfold crossB; rw [Bool.and_comm]
theorem crossB_l (a b c d : Pt) : crossB b a c d = crossB a b c d := by
  unfold crossB; rw [turn_swap a b c, turn_swap a b d, Int.neg_mul_neg, Int.mul_comm (turn c d b)]
theorem meets_swap (a b c d : Pt) : meets c d a b = meets a b c d := by
  refine meets_of_same (by rw [Bool.and_comm]) (fun h1 h2 => nodup_len_eq (nodup_ends _ _ _ _) (nodup_ends _ _ _ _) fun x => ?_) (crossB_swap _ _ _ _)
  rw [mem_ends h1 h2, mem_ends h2 h1]
  constructor
  · rintro ⟨h, j, k⟩; exact ⟨by rcases h with h | h | h | h <;> simp [h], k, j⟩
  · rintro ⟨h, j, k⟩; exact ⟨by rcases h with h | h | h | h <;> simp [h], k, j⟩
theorem meets_l (a b c d : Pt) : meets b a c d = meets a b c d := by
  refine meets_of_same (by rw [may_comm]) (fun h1 h2 => nodup_len_eq (nodup_ends _ _ _ _) (nodup_ends _ _ _ _) fun x => ?_) (crossB_l _ _ _ _)
  rw [mem_ends h1 h2, mem_ends (by rw [may_comm]; exact h1) h2, onS_comm x b a]
  constructor
  · rintro ⟨h, j, k⟩; exact ⟨by rcases h with h | h | h | h <;> simp [h], j, k⟩
  · rintro ⟨h, j, k⟩; exact ⟨by rcases h with h | h | h | h <;> simp [h], j, k⟩
theorem meets_r (a b c d : Pt) : meets a b d c = meets a b c d := by rw [← meets_swap, meets_l, meets_swap]

/-- A map of points that is one to one and keeps which points may be, are on segments, and turns up to their sign, keeps how segments meet. -/
theorem meets_map (f : Pt → Pt) (a b c d : Pt) (s : Int) (hs : s = 1 ∨ s = -1)
    (hok : ∀ p, p = a ∨ p = b ∨ p = c ∨ p = d → okP (f p) = okP p)
    (hinj : ∀ p q, f p = f q → p = q)
    (hon : ∀ p q r, (p = a ∨ p = b ∨ p = c ∨ p = d) → (q = a ∨ q = b ∨ q = c ∨ q = d) → (r = a ∨ r = b ∨ r = c ∨ r = d) → onS (f p) (f q) (f r) = onS p q r)
    (hturn : ∀ p q r, (p = a ∨ p = b ∨ p = c ∨ p = d) → (q = a ∨ q = b ∨ q = c ∨ q = d) → (r = a ∨ r = b ∨ r = c ∨ r = d) → turn (f p) (f q) (f r) = s * turn p q r) :
    meets (f a) (f b) (f c) (f d) = meets a b c d := by
  have hm : ∀ p q, (p = a ∨ p = b ∨ p = c ∨ p = d) → (q = a ∨ q = b ∨ q = c ∨ q = d) → may (f p) (f q) = may p q := by
    intro p q h1 h2
    rw [Bool.eq_iff_iff, may_iff, may_iff, hok p h1, hok q h2]
    exact ⟨fun ⟨k1, k2, k3⟩ => ⟨k1, k2, fun e => k3 (by rw [e])⟩, fun ⟨k1, k2, k3⟩ => ⟨k1, k2, fun e => k3 (hinj _ _ e)⟩⟩
  have ia : a = a ∨ a = b ∨ a = c ∨ a = d := .inl rfl
  have ib : b = a ∨ b = b ∨ b = c ∨ b = d := .inr (.inl rfl)
  have ic : c = a ∨ c = b ∨ c = c ∨ c = d := .inr (.inr (.inl rfl))
  have id : d = a ∨ d = b ∨ d = c ∨ d = d := .inr (.inr (.inr rfl))
  refine meets_of_same (by rw [hm a b ia ib, hm c d ic id]) (fun h1 h2 => ?_) ?_
  · have h1' : may a b = true := by rw [← hm a b ia ib]; exact h1
    have h2' : may c d = true := by rw [← hm c d ic id]; exact h2
    have : (ends (f a) (f b) (f c) (f d)).length = ((ends a b c d).map f).length := by
      refine nodup_len_eq (nodup_ends _ _ _ _) ?_ fun x => ?_
      · refine List.Pairwise.map f (R := fun x y => x ≠ y) ?_ (nodup_ends a b c d)
        intro x y h e; exact h (hinj _ _ e)
      · rw [mem_ends h1 h2, List.mem_map]
        constructor
        · rintro ⟨h, j, k⟩
          rcases h with rfl | rfl | rfl | rfl
          · exact ⟨a, (mem_ends h1' h2').2 ⟨ia, by rw [← hon a a b ia ia ib]; exact j, by rw [← hon a c d ia ic id]; exact k⟩, rfl⟩
          · exact ⟨b, (mem_ends h1' h2').2 ⟨ib, by rw [← hon b a b ib ia ib]; exact j, by rw [← hon b c d ib ic id]; exact k⟩, rfl⟩
          · exact ⟨c, (mem_ends h1' h2').2 ⟨ic, by rw [← hon c a b ic ia ib]; exact j, by rw [← hon c c d ic ic id]; exact k⟩, rfl⟩
          · exact ⟨d, (mem_ends h1' h2').2 ⟨id, by rw [← hon d a b id ia ib]; exact j, by rw [← hon d c d id ic id]; exact k⟩, rfl⟩
        · rintro ⟨y, hy, rfl⟩
          obtain ⟨h, j, k⟩ := (mem_ends h1' h2').1 hy
          refine ⟨?_, by rw [hon y a b h ia ib]; exact j, by rw [hon y c d h ic id]; exact k⟩
          rcases h with rfl | rfl | rfl | rfl <;> simp
    rw [this, List.length_map]
  · unfold crossB
    rw [hturn a b c ia ib ic, hturn a b d ia ib id, hturn c d a ic id ia, hturn c d b ic id ib]
    rcases hs with rfl | rfl
    · simp only [Int.one_mul]
    · simp only [Int.neg_mul, Int.one_mul, Int.mul_neg, Int.neg_neg]

theorem meets_flip (a b c d : Pt) : meets (-a.1, a.2) (-b.1, b.2) (-c.1, c.2) (-d.1, d.2) = meets a b c d := by
  have k : ∀ p : Pt, okP (-p.1, p.2) = okP p := by intro p; simp only [okP, okB]; rw [Bool.eq_iff_iff]; simp; omega
  refine meets_map (fun p => (-p.1, p.2)) a b c d (-1) (.inr rfl) (fun p _ => k p) ?_ ?_ ?_
  · intro p q h
    have h1 := congrArg Prod.fst h; have h2 := congrArg Prod.snd h
    exact Prod.ext (by simp only at h1; omega) h2
  · intro p q r _ _ _
    rw [Bool.eq_iff_iff, onS_iff, onS_iff, k, k, k]
    have e : det (-q.1, q.2) (-r.1, r.2) (-p.1, p.2) = - det q r p := by unfold det; grind
    rw [e]; simp only [btw_iff]
    constructor
    · rintro ⟨h1, h2, h3, h4, h5, h6⟩; exact ⟨h1, h2, h3, by omega, h5, by omega⟩
    · rintro ⟨h1, h2, h3, h4, h5, h6⟩; exact ⟨h1, h2, h3, by omega, h5, by omega⟩
  · intro p q r _ _ _; rw [turn_flip]; omega
theorem meets_transp (a b c d : Pt) : meets (a.2, a.1) (b.2, b.1) (c.2, c.1) (d.2, d.1) = meets a b c d := by
  have k : ∀ p : Pt, okP (p.2, p.1) = okP p := by intro p; simp only [okP]; rw [Bool.and_comm]
  refine meets_map (fun p => (p.2, p.1)) a b c d (-1) (.inr rfl) (fun p _ => k p) ?_ ?_ ?_
  · intro p q h
    have h1 := congrArg Prod.fst h; have h2 := congrArg Prod.snd h
    exact Prod.ext h2 h1
  · intro p q r _ _ _
    rw [Bool.eq_iff_iff, onS_iff, onS_iff, k, k, k]
    have e : det (q.2, q.1) (r.2, r.1) (p.2, p.1) = - det q r p := by unfold det; grind
    rw [e]
    constructor
    · rintro ⟨h1, h2, h3, h4, h5, h6⟩; exact ⟨h1, h2, h3, h5, h4, by omega⟩
    · rintro ⟨h1, h2, h3, h4, h5, h6⟩; exact ⟨h1, h2, h3, h5, h4, by omega⟩
  · intro p q r _ _ _; rw [turn_transp]; omega
theorem meets_mv {a b c d m : Pt} (ha : okP a = true) (hb : okP b = true) (hc : okP c = true) (hd : okP d = true) (ha' : okP (mv a m) = true) (hb' : okP (mv b m) = true) (hc' : okP (mv c m) = true) (hd' : okP (mv d m) = true) :
    meets (mv a m) (mv b m) (mv c m) (mv d m) = meets a b c d := by
  have k : ∀ p, (p = a ∨ p = b ∨ p = c ∨ p = d) → okP (mv p m) = true ∧ okP p = true := by
    rintro p (rfl | rfl | rfl | rfl)
    · exact ⟨ha', ha⟩
    · exact ⟨hb', hb⟩
    · exact ⟨hc', hc⟩
    · exact ⟨hd', hd⟩
  refine meets_map (fun p => mv p m) a b c d 1 (.inl rfl) (fun p hp => by rw [(k p hp).1, (k p hp).2]) ?_ ?_ ?_
  · intro p q h
    have h1 := congrArg Prod.fst h; have h2 := congrArg Prod.snd h
    simp only [mv] at h1 h2
    exact Prod.ext (by omega) (by omega)
  · intro p q r hp hq hr; exact onS_mv (k p hp).2 (k q hq).2 (k r hr).2 (k p hp).1 (k q hq).1 (k r hr).1
  · intro p q r hp hq hr; rw [Int.one_mul]; exact turn_mv (k p hp).2 (k q hq).2 (k r hr).2 (k p hp).1 (k q hq).1 (k r hr).1
end Go.Proofs.Geo

/- Plain: rings: points round a list, what is wrong with one. -/
namespace Go.Proofs.Geo

/-- The first number below n of which P holds. -/
def firstN (P : Nat → Bool) (n : Nat) : Option Nat := (List.range n).find? P
theorem firstN_some_iff {P : Nat → Bool} {n i : Nat} : firstN P n = some i ↔ i < n ∧ P i = true ∧ ∀ k, k < i → P k = false := by
  unfold firstN
  rw [List.find?_range_eq_some]
  simp only [List.mem_range, Bool.not_eq_true']
  constructor
  · rintro ⟨a, b, c⟩; exact ⟨b, a, c⟩
  · rintro ⟨a, b, c⟩; exact ⟨b, a, c⟩
theorem firstN_none_iff {P : Nat → Bool} {n : Nat} : firstN P n = none ↔ ∀ k, k < n → P k = false := by
  unfold firstN
  rw [List.find?_range_eq_none]
  simp only [Bool.not_eq_true']
theorem firstN_some {P : Nat → Bool} {n i : Nat} (hi : i < n) (h : P i = true) (hb : ∀ k, k < i → P k = false) : firstN P n = some i := firstN_some_iff.2 ⟨hi, h, hb⟩
theorem firstN_none {P : Nat → Bool} {n : Nat} (h : ∀ k, k < n → P k = false) : firstN P n = none := firstN_none_iff.2 h

def pt (l : List Pt) (i : Nat) : Pt := l.getD i (0, 0)
theorem pt_get {l : List Pt} {i : Nat} (h : i < l.length) : pt l i = l[i] := by simp [pt, h]
/-- A place round n. -/
def rix (n : Nat) (i : Int) : Nat := (i % (n : Int)).toNat
theorem rix_lt {n : Nat} (h : 0 < n) (i : Int) : rix n i < n := by
  unfold rix
  have := Int.emod_nonneg i (show (n : Int) ≠ 0 by omega)
  have := Int.emod_lt_of_pos i (show (0 : Int) < (n : Int) by omega)
  omega
theorem rix_eq {n : Nat} (h : 0 < n) (i : Int) : ((rix n i : Nat) : Int) = i % (n : Int) := by
  unfold rix
  have := Int.emod_nonneg i (show (n : Int) ≠ 0 by omega)
  omega
theorem rix_in {n i : Nat} (h : i < n) : rix n (i : Int) = i := by
  unfold rix
  rw [Int.emod_eq_of_lt (by omega) (by omega)]; simp
theorem rix_nat {n i : Nat} (h : 0 < n) : rix n ((i : Int) + 1) = (i + 1) % n := by
  have := rix_eq h ((i : Int) + 1)
  rw [show ((i : Int) + 1) = ((i + 1 : Nat) : Int) by simp, ← Int.natCast_emod] at this
  rw [show ((i : Int) + 1) = ((i + 1 : Nat) : Int) by simp]
  omega
theorem rix_add {n : Nat} (h : 0 < n) (i : Int) : rix n (i + n) = rix n i := by
  have h1 := rix_eq h (i + n); have h2 := rix_eq h i
  rw [Int.add_emod_right] at h1; omega
/-- The point at a place, round the list. -/
def rat (l : List Pt) (i : Int) : Pt := pt l (rix l.length i)
theorem rat_in {l : List Pt} {i : Nat} (h : i < l.length) : rat l (i : Int) = pt l i := by unfold rat; rw [rix_in h]
theorem rat_congr (l : List Pt) {i j : Int} (h : i % (l.length : Int) = j % (l.length : Int)) : rat l i = rat l j := by unfold rat rix; rw [h]

/-- Does a point stand ahead of itself? -/
def twiceB (l : List Pt) (i : Nat) : Bool := (List.range i).any fun k => decide (pt l k = pt l i)
/-- Does the list go back on itself at a point? -/
def backB (l : List Pt) (i : Nat) : Bool := decide (turn (rat l ((i : Int) - 1)) (pt l i) (rat l ((i : Int) + 1)) = 0) && !onS (pt l i) (rat l ((i : Int) - 1)) (rat l ((i : Int) + 1))
/-- Which edges are not held against another one? -/
def skipB (n i k : Nat) : Bool := decide (k < i + 2) || (decide (i = 0) && decide (k + 1 = n))
def hitB (l : List Pt) (i k : Nat) : Bool := !skipB l.length i k && decide (meets (pt l i) (rat l ((i : Int) + 1)) (pt l k) (rat l ((k : Int) + 1)) ≠ 0)
/-- Does an edge meet one behind it, that is no neighbour? -/
def meetB (l : List Pt) (i : Nat) : Bool := (List.range l.length).any (hitB l i)
theorem any_range_true {P : Nat → Bool} {n k : Nat} (hk : k < n) (h : P k = true) : (List.range n).any P = true := List.any_eq_true.2 ⟨k, List.mem_range.2 hk, h⟩
theorem any_range_false {P : Nat → Bool} {n : Nat} (h : ∀ k, k < n → P k = false) : (List.range n).any P = false := by
  rw [List.any_eq_false]; intro k hk; rw [h k (List.mem_range.1 hk)]; simp
theorem any_range_iff {P : Nat → Bool} {n : Nat} : (List.range n).any P = false ↔ ∀ k, k < n → P k = false := by
  rw [List.any_eq_false]
  constructor
  · intro h k hk; have := h k (List.mem_range.2 hk); simpa using this
  · intro h k hk; rw [h k (List.mem_range.1 hk)]; simp
/-- What one look tells: a fault, or none. -/
def stg (e : Int) : Option Nat → Int × Int × Bool
  | some i => (e, (i : Int), true)
  | none => (0, 0, false)
def szS (l : List Pt) : Int × Int × Bool := if 200 < l.length then (3, 0, true) else if l.length < 3 then (190, 0, true) else (0, 0, false)
def vdS (l : List Pt) : Int × Int × Bool := stg 2 (firstN (fun i => !okP (pt l i)) l.length)
def twS (l : List Pt) : Int × Int × Bool := stg 191 (firstN (twiceB l) l.length)
def bkS (l : List Pt) : Int × Int × Bool := stg 192 (firstN (backB l) l.length)
def mtS (l : List Pt) : Int × Int × Bool := stg 193 (firstN (meetB l) l.length)
/-- What is wrong with a list as a ring, and where. -/
def chk (l : List Pt) : Int × Int :=
  if (szS l).2.2 then ((szS l).1, (szS l).2.1) else if (vdS l).2.2 then ((vdS l).1, (vdS l).2.1) else if (twS l).2.2 then ((twS l).1, (twS l).2.1)
  else if (bkS l).2.2 then ((bkS l).1, (bkS l).2.1) else if (mtS l).2.2 then ((mtS l).1, (mtS l).2.1) else (0, 0)
def okR (l : List Pt) : Bool := decide ((chk l).1 = 0)

theorem szS_false {l : List Pt} (h : (szS l).2.2 = false) : 3 ≤ l.length ∧ l.length ≤ 200 := by
  unfold szS at h; split at h
  · simp at h
  · split at h
    · simp at h
    · omega
theorem stg_false {e : Int} {o : Option Nat} (h : (stg e o).2.2 = false) : o = none := by
  cases o with
  | none => rfl
  | some i => simp [stg] at h
theorem vdS_false {l : List Pt} (h : (vdS l).2.2 = false) : ∀ i, i < l.length → okP (pt l i) = true := fun i hi => by
  have := firstN_none_iff.1 (stg_false h) i hi; simpa using this

/-- The place of the least of the first k. -/
def leastK (l : List Pt) : Nat → Nat
  | 0 => 0
  | k + 1 => if cmpP (pt l k) (pt l (leastK l k)) < 0 then k else leastK l k
def leastN (l : List Pt) : Nat := leastK l l.length
theorem leastK_lt (l : List Pt) (k : Nat) (h : 0 < k) : leastK l k < k := by
  induction k with
  | zero => omega
  | succ k ih =>
    unfold leastK; split
    · omega
    · by_cases e : k = 0
      · subst e; simp [leastK]
      · have := ih (by omega); omega
theorem leastK_le (l : List Pt) (k : Nat) : leastK l k ≤ k := by
  rcases Nat.eq_zero_or_pos k with rfl | h
  · simp [leastK]
  · exact Nat.le_of_lt (leastK_lt l k h)
/-- The way round. -/
def signR (l : List Pt) : Int := if okR l then turn (rat l ((leastN l : Int) - 1)) (pt l (leastN l)) (rat l ((leastN l : Int) + 1)) else 0
/-- The list that goes to the left. -/
def leftR (l : List Pt) : List Pt := if signR l = -1 then l.reverse else l
def normR (l : List Pt) : List Pt := if signR l = 0 then [] else frm (leftR l) (leastN (leftR l))
def sameR (a b : List Pt) : Bool := decide (signR a ≠ 0) && decide (signR b ≠ 0) && decide (normR a = normR b)
end Go.Proofs.Geo

/- Plain geometry of two segments, further: touching, being over one another, crossing; a point that cuts a segment. -/
namespace Go.Proofs.Geo

/-- A point on a segment, told by proportion. -/
theorem onS_param {p a b : Pt} (h : onS p a b = true) (hab : a ≠ b) : ∃ D k : Int, 0 < D ∧ 0 ≤ k ∧ k ≤ D ∧ D * (p.1 - a.1) = k * (b.1 - a.1) ∧ D * (p.2 - a.2) = k * (b.2 - a.2) := by
  obtain ⟨_, _, _, h1, h2, h3⟩ := onS_iff.1 h
  rw [btw_iff] at h1 h2
  have hd : (b.1 - a.1) * (p.2 - a.2) = (b.2 - a.2) * (p.1 - a.1) := by unfold det at h3; omega
  have hne : a.1 ≠ b.1 ∨ a.2 ≠ b.2 := by
    by_cases e : a.1 = b.1
    · right; intro e2; exact hab (Prod.ext e e2)
    · left; exact e
  rcases hne with hx | hx
  · rcases Int.lt_or_gt_of_ne hx with hl | hl
    · exact ⟨b.1 - a.1, p.1 - a.1, by omega, by omega, by omega, Int.mul_comm _ _, by rw [hd, Int.mul_comm]⟩
    · refine ⟨a.1 - b.1, a.1 - p.1, by omega, by omega, by omega, ?_, ?_⟩ <;> grind
  · rcases Int.lt_or_gt_of_ne hx with hl | hl
    · refine ⟨b.2 - a.2, p.2 - a.2, by omega, by omega, by omega, ?_, ?_⟩ <;> grind
    · refine ⟨a.2 - b.2, a.2 - p.2, by omega, by omega, by omega, ?_, ?_⟩ <;> grind

/-- Strictly between, told by proportion. -/
theorem onS_param' {p a b : Pt} (h : onS p a b = true) (hab : a ≠ b) (ha : p ≠ a) (hb : p ≠ b) :
    ∃ D k : Int, 0 < D ∧ 0 < k ∧ k < D ∧ D * (p.1 - a.1) = k * (b.1 - a.1) ∧ D * (p.2 - a.2) = k * (b.2 - a.2) := by
  obtain ⟨D, k, h1, h2, h3, h4, h5⟩ := onS_param h hab
  refine ⟨D, k, h1, ?_, ?_, h4, h5⟩
  · rcases Int.lt_or_eq_of_le h2 with h | h
    · exact h
    · exfalso; subst h
      rw [Int.zero_mul] at h4 h5
      have e1 := (Int.mul_eq_zero.1 h4).resolve_left (by omega)
      have e2 := (Int.mul_eq_zero.1 h5).resolve_left (by omega)
      exact ha (Prod.ext (by omega) (by omega))
  · rcases Int.lt_or_eq_of_le h3 with h | h
    · exact h
    · exfalso; subst h
      have e1 := Int.eq_of_mul_eq_mul_left (by omega) h4
      have e2 := Int.eq_of_mul_eq_mul_left (by omega) h5
      exact hb (Prod.ext (by omega) (by omega))

/-- What is linear goes in proportion. -/
theorem det_param {p a b : Pt} {D k : Int} (h4 : D * (p.1 - a.1) = k * (b.1 - a.1)) (h5 : D * (p.2 - a.2) = k * (b.2 - a.2)) (c d : Pt) :
    D * det c d p = (D - k) * det c d a + k * det c d b := by unfold det; grind
theorem det_param_l {p a b : Pt} {D k : Int} (h4 : D * (p.1 - a.1) = k * (b.1 - a.1)) (h5 : D * (p.2 - a.2) = k * (b.2 - a.2)) (x : Pt) :
    D * det a p x = k * det a b x := by unfold det; grind
theorem det_param_r {p a b : Pt} {D k : Int} (h4 : D * (p.1 - a.1) = k * (b.1 - a.1)) (h5 : D * (p.2 - a.2) = k * (b.2 - a.2)) (x : Pt) :
    D * det p b x = (D - k) * det a b x := by unfold det; grind

theorem sign_scale {D k x y : Int} (hD : 0 < D) (hk : 0 < k) (h : D * x = k * y) : x.sign = y.sign := by
  have := congrArg Int.sign h
  rw [Int.sign_mul, Int.sign_mul, Int.sign_eq_one_of_pos hD, Int.sign_eq_one_of_pos hk, Int.one_mul, Int.one_mul] at this
  exact this

theorem mul_neg_iff {x y : Int} : x * y < 0 ↔ (x < 0 ∧ 0 < y) ∨ (0 < x ∧ y < 0) := by
  rcases Int.lt_trichotomy x 0 with h | h | h <;> rcases Int.lt_trichotomy y 0 with k | k | k
  · have := Int.mul_pos_of_neg_of_neg h k; omega
  · subst k; simp
  · have := Int.mul_neg_of_neg_of_pos h k; omega
  · subst h; simp
  · subst h; simp
  · subst h; simp
  · have := Int.mul_neg_of_pos_of_neg h k; omega
  · subst k; simp
  · have := Int.mul_pos h k; omega
theorem mul_pos_iff' {x y : Int} : 0 < x * y ↔ (x < 0 ∧ y < 0) ∨ (0 < x ∧ 0 < y) := by
  rcases Int.lt_trichotomy x 0 with h | h | h <;> rcases Int.lt_trichotomy y 0 with k | k | k
  · have := Int.mul_pos_of_neg_of_neg h k; omega
  · subst k; simp
  · have := Int.mul_neg_of_neg_of_pos h k; omega
  · subst h; simp
  · subst h; simp
  · subst h; simp
  · have := Int.mul_neg_of_pos_of_neg h k; omega
  · subst k; simp
  · have := Int.mul_pos h k; omega
theorem sign_mul_neg {x y : Int} : x.sign * y.sign < 0 ↔ (x < 0 ∧ 0 < y) ∨ (0 < x ∧ y < 0) := by
  rw [← Int.sign_mul, ← mul_neg_iff]
  constructor
  · intro h
    rcases Int.lt_trichotomy (x * y) 0 with k | k | k
    · exact k
    · rw [k] at h; simp at h
    · rw [Int.sign_eq_one_of_pos k] at h; omega
  · intro h; rw [Int.sign_eq_neg_one_of_neg h]; decide
theorem sign_mul_pos {x y : Int} : 0 < x.sign * y.sign ↔ (x < 0 ∧ y < 0) ∨ (0 < x ∧ 0 < y) := by
  rw [← Int.sign_mul, ← mul_pos_iff']
  constructor
  · intro h
    rcases Int.lt_trichotomy (x * y) 0 with k | k | k
    · rw [Int.sign_eq_neg_one_of_neg k] at h; omega
    · rw [k] at h; simp at h
    · exact k
  · intro h; rw [Int.sign_eq_one_of_pos h]; decide

/-- Do the ends of each lie strictly on both sides of the other? -/
def Crs (a b c d : Pt) : Prop := ((det a b c < 0 ∧ 0 < det a b d) ∨ (0 < det a b c ∧ det a b d < 0)) ∧ ((det c d a < 0 ∧ 0 < det c d b) ∨ (0 < det c d a ∧ det c d b < 0))
theorem crossB_iff {a b c d : Pt} (h1 : may a b = true) (h2 : may c d = true) : crossB a b c d = true ↔ Crs a b c d := by
  obtain ⟨ha, hb, _⟩ := may_iff.1 h1
  obtain ⟨hc, hd, _⟩ := may_iff.1 h2
  unfold crossB Crs
  rw [Bool.and_eq_true, decide_eq_true_eq, decide_eq_true_eq, turn_ok ha hb hc, turn_ok ha hb hd, turn_ok hc hd ha, turn_ok hc hd hb, sign_mul_neg, sign_mul_neg]

/-- Have the segments a point in common? -/
def Mt (a b c d : Pt) : Prop := onS a c d = true ∨ onS b c d = true ∨ onS c a b = true ∨ onS d a b = true ∨ Crs a b c d
theorem ends_nil {a b c d : Pt} (h1 : may a b = true) (h2 : may c d = true) : (ends a b c d).length = 0 ↔ ¬ (onS a c d = true ∨ onS b c d = true ∨ onS c a b = true ∨ onS d a b = true) := by
  have k1 := may_iff.1 h1
  have k2 := may_iff.1 h2
  have e1 := onS_left k1.1 k1.2.1
  have e2 := onS_right k1.1 k1.2.1
  have e3 := onS_left k2.1 k2.2.1
  have e4 := onS_right k2.1 k2.2.1
  rw [List.length_eq_zero_iff, List.eq_nil_iff_forall_not_mem]
  constructor
  · intro h hh
    rcases hh with hh | hh | hh | hh
    · exact h a ((mem_ends h1 h2).2 ⟨.inl rfl, e1, hh⟩)
    · exact h b ((mem_ends h1 h2).2 ⟨.inr (.inl rfl), e2, hh⟩)
    · exact h c ((mem_ends h1 h2).2 ⟨.inr (.inr (.inl rfl)), hh, e3⟩)
    · exact h d ((mem_ends h1 h2).2 ⟨.inr (.inr (.inr rfl)), hh, e4⟩)
  · intro h x hx
    obtain ⟨hh, j, k⟩ := (mem_ends h1 h2).1 hx
    apply h
    rcases hh with rfl | rfl | rfl | rfl
    · exact .inl k
    · exact .inr (.inl k)
    · exact .inr (.inr (.inl j))
    · exact .inr (.inr (.inr j))
theorem meets_ne {a b c d : Pt} (h1 : may a b = true) (h2 : may c d = true) : meets a b c d ≠ 0 ↔ Mt a b c d := by
  have hn := ends_nil h1 h2
  have hc := crossB_iff h1 h2
  unfold meets Mt
  rw [if_pos (by rw [h1, h2]; rfl)]
  by_cases h : (ends a b c d).length = 0
  · rw [if_pos h]
    have hn' := hn.1 h
    by_cases hx : crossB a b c d = true
    · rw [if_pos hx]; exact ⟨fun _ => .inr (.inr (.inr (.inr (hc.1 hx)))), fun _ => by decide⟩
    · rw [if_neg hx]
      constructor
      · intro k; exact absurd rfl k
      · rintro (k | k | k | k | k)
        · exact absurd (.inl k) hn'
        · exact absurd (.inr (.inl k)) hn'
        · exact absurd (.inr (.inr (.inl k))) hn'
        · exact absurd (.inr (.inr (.inr k))) hn'
        · exact absurd (hc.2 k) hx
  · rw [if_neg h]
    have hn' : onS a c d = true ∨ onS b c d = true ∨ onS c a b = true ∨ onS d a b = true := by
      rcases Classical.em (onS a c d = true ∨ onS b c d = true ∨ onS c a b = true ∨ onS d a b = true) with k | k
      · exact k
      · exact absurd (hn.2 k) h
    constructor
    · intro _
      rcases hn' with k | k | k | k
      · exact .inl k
      · exact .inr (.inl k)
      · exact .inr (.inr (.inl k))
      · exact .inr (.inr (.inr (.inl k)))
    · intro _; split <;> decide

/-- Two ends that are on one another's segment keep them from crossing. -/
theorem crs_no_ends {a b c d : Pt} (h : Crs a b c d) : ¬ (onS a c d = true ∨ onS b c d = true ∨ onS c a b = true ∨ onS d a b = true) := by
  unfold Crs at h
  rintro (k | k | k | k) <;> have := (onS_iff.1 k).2.2.2.2.2 <;> omega
theorem meets_cross {a b c d : Pt} (h1 : may a b = true) (h2 : may c d = true) : meets a b c d = 2 ↔ Crs a b c d := by
  have hn := ends_nil h1 h2
  have hc := crossB_iff h1 h2
  unfold meets
  rw [if_pos (by rw [h1, h2]; rfl)]
  constructor
  · intro h
    split at h
    · split at h
      · rename_i k; exact hc.1 k
      · omega
    · split at h <;> omega
  · intro h
    rw [if_pos (hn.2 (crs_no_ends h)), if_pos (hc.2 h)]

/-- Of the same sign at both ends: of that sign all along. -/
theorem comb_pos {D k x y z : Int} (hD : 0 < D) (h0 : 0 ≤ k) (h1 : k ≤ D) (h : D * z = (D - k) * x + k * y) (hx : 0 < x) (hy : 0 < y) : 0 < z := by
  have : 0 < D * z := by
    rw [h]
    rcases Int.lt_or_eq_of_le h0 with hk | hk
    · have := Int.mul_pos hk hy
      have := Int.mul_nonneg (show 0 ≤ D - k by omega) (Int.le_of_lt hx)
      omega
    · subst hk; simp; exact Int.mul_pos hD hx
  rcases Int.lt_or_le 0 z with hz | hz
  · exact hz
  · have := Int.mul_nonpos_of_nonneg_of_nonpos (Int.le_of_lt hD) hz; omega
theorem comb_neg {D k x y z : Int} (hD : 0 < D) (h0 : 0 ≤ k) (h1 : k ≤ D) (h : D * z = (D - k) * x + k * y) (hx : x < 0) (hy : y < 0) : z < 0 := by
  have := comb_pos (x := -x) (y := -y) (z := -z) hD h0 h1 (by grind) (by omega) (by omega)
  omega
theorem comb_zero {D k x y z : Int} (hD : 0 < D) (h : D * z = (D - k) * x + k * y) (hx : x = 0) (hy : y = 0) : z = 0 := by
  subst hx; subst hy
  have : D * z = 0 := by rw [h]; simp
  exact (Int.mul_eq_zero.1 this).resolve_left (by omega)

/-- Both ends strictly on one side: they do not meet. -/
theorem not_Mt_of_side {a b c d : Pt} (h1 : may a b = true) (h2 : may c d = true) (h : (det a b c < 0 ∧ det a b d < 0) ∨ (0 < det a b c ∧ 0 < det a b d)) : ¬ Mt a b c d := by
  obtain ⟨_, _, hab⟩ := may_iff.1 h1
  obtain ⟨_, _, hcd⟩ := may_iff.1 h2
  have key : ∀ p, onS p c d = true → det a b p ≠ 0 := by
    intro p hp e
    obtain ⟨D, k, hD, h0, hk, e1, e2⟩ := onS_param hp hcd
    have hl := det_param e1 e2 a b
    rcases h with ⟨x, y⟩ | ⟨x, y⟩
    · have := comb_neg hD h0 hk hl x y; omega
    · have := comb_pos hD h0 hk hl x y; omega
  rintro (k | k | k | k | k)
  · exact key a k (det_aba a b)
  · exact key b k (det_abb a b)
  · have := (onS_iff.1 k).2.2.2.2.2; omega
  · have := (onS_iff.1 k).2.2.2.2.2; omega
  · unfold Crs at k; omega
theorem Mt_swap {a b c d : Pt} : Mt c d a b ↔ Mt a b c d := by
  unfold Mt Crs; constructor
  · rintro (k | k | k | k | k)
    · exact .inr (.inr (.inl k))
    · exact .inr (.inr (.inr (.inl k)))
    · exact .inl k
    · exact .inr (.inl k)
    · exact .inr (.inr (.inr (.inr ⟨k.2, k.1⟩)))
  · rintro (k | k | k | k | k)
    · exact .inr (.inr (.inl k))
    · exact .inr (.inr (.inr (.inl k)))
    · exact .inl k
    · exact .inr (.inl k)
    · exact .inr (.inr (.inr (.inr ⟨k.2, k.1⟩)))

/-- A coordinate at which they cross lies in both stretches. -/
theorem cross_overlap {F x y z w a b c d : Int} (hx : x < 0) (hy : 0 < y) (hF : F = y - x) (hG : (z < 0 ∧ 0 < w ∧ F = w - z) ∨ (0 < z ∧ w < 0 ∧ F = z - w))
    (h : y * a - x * b = (if z < 0 then w * c - z * d else z * d - w * c)) : ¬ (a < c ∧ a < d ∧ b < c ∧ b < d) := by
  rintro ⟨k1, k2, k3, k4⟩
  rcases hG with ⟨hz, hw, hG⟩ | ⟨hz, hw, hG⟩
  · rw [if_pos hz] at h
    have A : ∃ m, a ≤ m ∧ b ≤ m ∧ m < c ∧ m < d := ⟨max a b, by omega, by omega, by omega, by omega⟩
    obtain ⟨m, m1, m2, m3, m4⟩ := A
    have p1 : y * a ≤ y * m := Int.mul_le_mul_of_nonneg_left m1 (by omega)
    have p2 : (-x) * b ≤ (-x) * m := Int.mul_le_mul_of_nonneg_left m2 (by omega)
    have p3 : w * m < w * c := Int.mul_lt_mul_of_pos_left m3 hw
    have p4 : (-z) * m < (-z) * d := Int.mul_lt_mul_of_pos_left m4 (by omega)
    have e : (y - x) * m = (w - z) * m := by rw [← hF, hG]
    rw [Int.sub_mul, Int.sub_mul] at e
    rw [Int.neg_mul, Int.neg_mul] at p2 p4
    omega
  · rw [if_neg (by omega)] at h
    have A : ∃ m, a ≤ m ∧ b ≤ m ∧ m < c ∧ m < d := ⟨max a b, by omega, by omega, by omega, by omega⟩
    obtain ⟨m, m1, m2, m3, m4⟩ := A
    have p1 : y * a ≤ y * m := Int.mul_le_mul_of_nonneg_left m1 (by omega)
    have p2 : (-x) * b ≤ (-x) * m := Int.mul_le_mul_of_nonneg_left m2 (by omega)
    have p3 : (-w) * m < (-w) * c := Int.mul_lt_mul_of_pos_left m3 (by omega)
    have p4 : z * m < z * d := Int.mul_lt_mul_of_pos_left m4 hz
    have e : (y - x) * m = (z - w) * m := by rw [← hF, hG]
    rw [Int.sub_mul, Int.sub_mul] at e
    rw [Int.neg_mul, Int.neg_mul] at p2 p3
    omega

/-- Boxes of two segments that have no column, or no row, in common: no meeting. -/
theorem not_Mt_of_left {a b c d : Pt} (k : a.1 < c.1 ∧ a.1 < d.1 ∧ b.1 < c.1 ∧ b.1 < d.1) : ¬ Mt a b c d := by
  obtain ⟨k1, k2, k3, k4⟩ := k
  rintro (h | h | h | h | h)
  · have := btw_iff.1 (onS_iff.1 h).2.2.2.1; omega
  · have := btw_iff.1 (onS_iff.1 h).2.2.2.1; omega
  · have := btw_iff.1 (onS_iff.1 h).2.2.2.1; omega
  · have := btw_iff.1 (onS_iff.1 h).2.2.2.1; omega
  · have id1 : det c d b * a.1 - det c d a * b.1 = det a b c * d.1 - det a b d * c.1 := by unfold det; grind
    have id2 : det c d b - det c d a = det a b c - det a b d := by unfold det; grind
    obtain ⟨hg, hf⟩ := h
    rcases hf with ⟨f1, f2⟩ | ⟨f1, f2⟩
    · refine cross_overlap (F := det c d b - det c d a) (x := det c d a) (y := det c d b) (z := det a b d) (w := det a b c) (a := a.1) (b := b.1) (c := d.1) (d := c.1) f1 f2 rfl ?_ ?_ ⟨k2, k1, k4, k3⟩
      · rcases hg with ⟨g1, g2⟩ | ⟨g1, g2⟩
        · exfalso; omega
        · left; exact ⟨g2, g1, id2⟩
      · rcases hg with ⟨g1, g2⟩ | ⟨g1, g2⟩
        · exfalso; omega
        · rw [if_pos g2]; exact id1
    · refine cross_overlap (F := det c d a - det c d b) (x := det c d b) (y := det c d a) (z := det a b c) (w := det a b d) (a := b.1) (b := a.1) (c := c.1) (d := d.1) f2 f1 rfl ?_ ?_ ⟨k3, k4, k1, k2⟩
      · rcases hg with ⟨g1, g2⟩ | ⟨g1, g2⟩
        · left; exact ⟨g1, g2, by omega⟩
        · exfalso; omega
      · rcases hg with ⟨g1, g2⟩ | ⟨g1, g2⟩
        · rw [if_pos g1]; omega
        · exfalso; omega
end Go.Proofs.Geo

/- Plain geometry of two segments, further: boxes that have nothing in common; at most two common ends; a point that cuts a segment. -/
namespace Go.Proofs.Geo

def tr (p : Pt) : Pt := (p.2, p.1)
theorem okP_tr (p : Pt) : okP (tr p) = okP p := by simp only [okP, tr]; rw [Bool.and_comm]
theorem det_tr (a b c : Pt) : det (tr a) (tr b) (tr c) = - det a b c := by unfold det tr; grind
theorem onS_tr (p a b : Pt) : onS (tr p) (tr a) (tr b) = onS p a b := by
  rw [Bool.eq_iff_iff, onS_iff, onS_iff, okP_tr, okP_tr, okP_tr, det_tr]
  constructor
  · rintro ⟨h1, h2, h3, h4, h5, h6⟩; exact ⟨h1, h2, h3, h5, h4, by omega⟩
  · rintro ⟨h1, h2, h3, h4, h5, h6⟩; exact ⟨h1, h2, h3, h5, h4, by omega⟩
theorem tr_inj {p q : Pt} (h : tr p = tr q) : p = q := by
  have h1 := congrArg Prod.fst h; have h2 := congrArg Prod.snd h
  exact Prod.ext h2 h1
theorem Mt_tr {a b c d : Pt} : Mt (tr a) (tr b) (tr c) (tr d) ↔ Mt a b c d := by
  unfold Mt Crs
  rw [onS_tr, onS_tr, onS_tr, onS_tr, det_tr, det_tr, det_tr, det_tr]
  constructor <;> rintro (h | h | h | h | h) <;> first | exact .inl h | exact .inr (.inl h) | exact .inr (.inr (.inl h)) | exact .inr (.inr (.inr (.inl h))) | exact .inr (.inr (.inr (.inr (by omega))))

/-- Two stretches that have nothing in common lie apart. -/
theorem apart_one {a b c d : Int} (h : ¬ max (min a b) (min c d) ≤ min (max a b) (max c d)) : (a < c ∧ a < d ∧ b < c ∧ b < d) ∨ (c < a ∧ c < b ∧ d < a ∧ d < b) := by
  have h1 : ¬ (min a b ≤ max c d ∧ min c d ≤ max a b) := by
    intro ⟨k1, k2⟩; apply h
    rw [Int.max_le, Int.le_min, Int.le_min]
    exact ⟨⟨by omega, k1⟩, k2, by omega⟩
  by_cases k1 : min a b ≤ max c d
  · left
    have k2 : ¬ min c d ≤ max a b := fun k => h1 ⟨k1, k⟩
    omega
  · right; omega
/-- An end of two stretches that is in both is the low or the high end of what both have in common. -/
theorem end_one {a b c d x : Int} (h : x = a ∨ x = b ∨ x = c ∨ x = d) (h1 : (a ≤ x ∧ x ≤ b) ∨ (b ≤ x ∧ x ≤ a)) (h2 : (c ≤ x ∧ x ≤ d) ∨ (d ≤ x ∧ x ≤ c)) :
    x = max (min a b) (min c d) ∨ x = min (max a b) (max c d) := by
  have l1 : min a b ≤ x := by omega
  have l2 : min c d ≤ x := by omega
  have u1 : x ≤ max a b := by omega
  have u2 : x ≤ max c d := by omega
  have e : x = min a b ∨ x = max a b ∨ x = min c d ∨ x = max c d := by omega
  clear h h1 h2
  generalize min a b = p at *
  generalize max a b = q at *
  generalize min c d = r at *
  generalize max c d = s at *
  omega
/-- Boxes without a common point: no meeting. -/
theorem not_Mt_of_boxes {a b c d : Pt} (h : ¬ (max (min a.1 b.1) (min c.1 d.1) ≤ min (max a.1 b.1) (max c.1 d.1) ∧ max (min a.2 b.2) (min c.2 d.2) ≤ min (max a.2 b.2) (max c.2 d.2))) : ¬ Mt a b c d := by
  have h' : (a.1 < c.1 ∧ a.1 < d.1 ∧ b.1 < c.1 ∧ b.1 < d.1) ∨ (c.1 < a.1 ∧ c.1 < b.1 ∧ d.1 < a.1 ∧ d.1 < b.1) ∨ (a.2 < c.2 ∧ a.2 < d.2 ∧ b.2 < c.2 ∧ b.2 < d.2) ∨ (c.2 < a.2 ∧ c.2 < b.2 ∧ d.2 < a.2 ∧ d.2 < b.2) := by
    rw [Classical.not_and_iff_not_or_not] at h
    rcases h with h | h
    · rcases apart_one h with k | k
      · exact .inl k
      · exact .inr (.inl k)
    · rcases apart_one h with k | k
      · exact .inr (.inr (.inl k))
      · exact .inr (.inr (.inr k))
  rcases h' with k | k | k | k
  · exact not_Mt_of_left k
  · rw [← Mt_swap]; exact not_Mt_of_left k
  · rw [← Mt_tr]; exact not_Mt_of_left k
  · rw [← Mt_swap, ← Mt_tr]; exact not_Mt_of_left k

/-- On a line that is not upright, points differ in the first coordinate. -/
theorem fst_ne {a b p q : Pt} (hx : a.1 ≠ b.1) (hp : det a b p = 0) (hq : det a b q = 0) (h : p ≠ q) : p.1 ≠ q.1 := by
  intro e
  have : (b.1 - a.1) * (p.2 - q.2) = 0 := by unfold det at hp hq; grind
  rcases Int.mul_eq_zero.1 this with k | k
  · omega
  · exact h (Prod.ext e (by omega))

theorem no_three_x {a b c d p q r : Pt} (hx : a.1 ≠ b.1) (hpq : p ≠ q) (hqr : q ≠ r) (hpr : p ≠ r)
    (hp : (p = a ∨ p = b ∨ p = c ∨ p = d) ∧ onS p a b = true ∧ onS p c d = true)
    (hq : (q = a ∨ q = b ∨ q = c ∨ q = d) ∧ onS q a b = true ∧ onS q c d = true)
    (hr : (r = a ∨ r = b ∨ r = c ∨ r = d) ∧ onS r a b = true ∧ onS r c d = true) : False := by
  obtain ⟨hp1, hp2, hp3⟩ := hp
  obtain ⟨hq1, hq2, hq3⟩ := hq
  obtain ⟨hr1, hr2, hr3⟩ := hr
  obtain ⟨_, _, _, p1, _, p2⟩ := onS_iff.1 hp2
  obtain ⟨_, _, _, q1, _, q2⟩ := onS_iff.1 hq2
  obtain ⟨_, _, _, r1, _, r2⟩ := onS_iff.1 hr2
  have p3 := (onS_iff.1 hp3).2.2.2.1
  have q3 := (onS_iff.1 hq3).2.2.2.1
  have r3 := (onS_iff.1 hr3).2.2.2.1
  have n1 := fst_ne hx p2 q2 hpq
  have n2 := fst_ne hx q2 r2 hqr
  have n3 := fst_ne hx p2 r2 hpr
  have P : p.1 = a.1 ∨ p.1 = b.1 ∨ p.1 = c.1 ∨ p.1 = d.1 := by rcases hp1 with e | e | e | e <;> simp [e]
  have Q : q.1 = a.1 ∨ q.1 = b.1 ∨ q.1 = c.1 ∨ q.1 = d.1 := by rcases hq1 with e | e | e | e <;> simp [e]
  have R : r.1 = a.1 ∨ r.1 = b.1 ∨ r.1 = c.1 ∨ r.1 = d.1 := by rcases hr1 with e | e | e | e <;> simp [e]
  rw [btw_iff] at p1 q1 r1 p3 q3 r3
  have kp := end_one P p1 p3
  have kq := end_one Q q1 q3
  have kr := end_one R r1 r3
  clear P Q R p1 q1 r1 p3 q3 r3 p2 q2 r2
  generalize max (min a.1 b.1) (min c.1 d.1) = u at *
  generalize min (max a.1 b.1) (max c.1 d.1) = v at *
  omega

theorem no_three {a b c d p q r : Pt} (hab : a ≠ b) (hpq : p ≠ q) (hqr : q ≠ r) (hpr : p ≠ r)
    (hp : (p = a ∨ p = b ∨ p = c ∨ p = d) ∧ onS p a b = true ∧ onS p c d = true)
    (hq : (q = a ∨ q = b ∨ q = c ∨ q = d) ∧ onS q a b = true ∧ onS q c d = true)
    (hr : (r = a ∨ r = b ∨ r = c ∨ r = d) ∧ onS r a b = true ∧ onS r c d = true) : False := by
  by_cases hx : a.1 = b.1
  · have hy : (tr a).1 ≠ (tr b).1 := fun e => hab (Prod.ext hx e)
    have go : ∀ x, (x = a ∨ x = b ∨ x = c ∨ x = d) ∧ onS x a b = true ∧ onS x c d = true → (tr x = tr a ∨ tr x = tr b ∨ tr x = tr c ∨ tr x = tr d) ∧ onS (tr x) (tr a) (tr b) = true ∧ onS (tr x) (tr c) (tr d) = true := by
      rintro x ⟨h, j, k⟩
      exact ⟨by rcases h with e | e | e | e <;> simp [e], by rw [onS_tr]; exact j, by rw [onS_tr]; exact k⟩
    exact no_three_x hy (fun e => hpq (tr_inj e)) (fun e => hqr (tr_inj e)) (fun e => hpr (tr_inj e)) (go p hp) (go q hq) (go r hr)
  · exact no_three_x hx hpq hqr hpr hp hq hr

/-- At most two ends are in common. -/
theorem ends_le {a b c d : Pt} (h1 : may a b = true) (h2 : may c d = true) : (ends a b c d).length ≤ 2 := by
  have hn := nodup_ends a b c d
  have hm := fun p => mem_ends (p := p) h1 h2
  match he : ends a b c d with
  | [] => simp
  | [_] => simp
  | [_, _] => simp
  | p :: q :: r :: l =>
    exfalso
    rw [he] at hn hm
    simp only [List.nodup_cons, List.mem_cons, not_or] at hn
    exact no_three (may_iff.1 h1).2.2 hn.1.1 hn.2.1.1 hn.1.2.1 ((hm p).1 (by simp)) ((hm q).1 (by simp)) ((hm r).1 (by simp))

/-- What the number of common ends is, by how they meet. -/
theorem ends_len {a b c d : Pt} (h1 : may a b = true) (h2 : may c d = true) :
    ((ends a b c d).length : Int) = (if meets a b c d = 3 then 2 else if meets a b c d = 1 then 1 else 0) := by
  have hl := ends_le h1 h2
  have : meets a b c d = if (ends a b c d).length = 0 then (if crossB a b c d then 2 else 0) else if (ends a b c d).length = 1 then 1 else 3 := by
    unfold meets; rw [if_pos (by rw [h1, h2]; rfl)]
  rw [this]
  by_cases k0 : (ends a b c d).length = 0
  · rw [if_pos k0, k0]; split <;> decide
  · rw [if_neg k0]
    by_cases k1 : (ends a b c d).length = 1
    · rw [if_pos k1, k1]; decide
    · rw [if_neg k1]; simp only [if_true]; omega
theorem meets_of_len {a b c d : Pt} (h1 : may a b = true) (h2 : may c d = true) (n : Nat) (h : (ends a b c d).length = n) : meets a b c d = if n = 0 then (if crossB a b c d then 2 else 0) else if n = 1 then 1 else 3 := by
  subst h; unfold meets; rw [if_pos (by rw [h1, h2]; rfl)]

/-- A segment is over itself. -/
theorem ends_self {a b : Pt} (h : may a b = true) : ends a b a b = [a, b] := by
  have k := may_iff.1 h
  have e1 := onS_left k.1 k.2.1
  have e2 := onS_right k.1 k.2.1
  have hne : ¬ b = a := fun e => k.2.2 e.symm
  simp [ends, h, onL, List.filter, e1, e2, gather, hne]
theorem meets_self {a b : Pt} (h : may a b = true) : meets a b a b = 3 := by
  rw [meets_of_len h h 2 (by rw [ends_self h]; rfl)]; rfl
theorem meets_self' {a b : Pt} (h : may a b = true) : meets a b b a = 3 := by rw [meets_r]; exact meets_self h
end Go.Proofs.Geo

/- Plain: what is wrong with a ring, case by case. -/
namespace Go.Proofs.Geo
theorem chk_long {l : List Pt} (h : 200 < l.length) : chk l = (3, 0) := by
  have e : szS l = (3, 0, true) := by unfold szS; rw [if_pos h]
  unfold chk; rw [e]; rfl
theorem chk_few {l : List Pt} (h : l.length < 3) : chk l = (190, 0) := by
  have e : szS l = (190, 0, true) := by unfold szS; rw [if_neg (by omega), if_pos h]
  unfold chk; rw [e]; rfl
theorem szS_ok {l : List Pt} (h1 : 3 ≤ l.length) (h2 : l.length ≤ 200) : szS l = (0, 0, false) := by unfold szS; rw [if_neg (by omega), if_neg (by omega)]
theorem chk_vd {l : List Pt} (h1 : 3 ≤ l.length) (h2 : l.length ≤ 200) {k : Nat} (h : firstN (fun i => !okP (pt l i)) l.length = some k) : chk l = (2, (k : Int)) := by
  have e : vdS l = (2, (k : Int), true) := by unfold vdS; rw [h]; rfl
  unfold chk; rw [szS_ok h1 h2, e]; rfl
theorem vdS_ok {l : List Pt} (h : ∀ i, i < l.length → (!okP (pt l i)) = false) : vdS l = (0, 0, false) := by unfold vdS; rw [firstN_none h]; rfl
theorem chk_tw {l : List Pt} (h1 : 3 ≤ l.length) (h2 : l.length ≤ 200) (h3 : ∀ i, i < l.length → (!okP (pt l i)) = false) {k : Nat} (h : firstN (twiceB l) l.length = some k) : chk l = (191, (k : Int)) := by
  have e : twS l = (191, (k : Int), true) := by unfold twS; rw [h]; rfl
  unfold chk; rw [szS_ok h1 h2, vdS_ok h3, e]; rfl
theorem twS_ok {l : List Pt} (h : ∀ i, i < l.length → twiceB l i = false) : twS l = (0, 0, false) := by unfold twS; rw [firstN_none h]; rfl
theorem chk_bk {l : List Pt} (h1 : 3 ≤ l.length) (h2 : l.length ≤ 200) (h3 : ∀ i, i < l.length → (!okP (pt l i)) = false) (h4 : ∀ i, i < l.length → twiceB l i = false) {k : Nat} (h : firstN (backB l) l.length = some k) : chk l = (192, (k : Int)) := by
  have e : bkS l = (192, (k : Int), true) := by unfold bkS; rw [h]; rfl
  unfold chk; rw [szS_ok h1 h2, vdS_ok h3, twS_ok h4, e]; rfl
theorem bkS_ok {l : List Pt} (h : ∀ i, i < l.length → backB l i = false) : bkS l = (0, 0, false) := by unfold bkS; rw [firstN_none h]; rfl
theorem chk_mt {l : List Pt} (h1 : 3 ≤ l.length) (h2 : l.length ≤ 200) (h3 : ∀ i, i < l.length → (!okP (pt l i)) = false) (h4 : ∀ i, i < l.length → twiceB l i = false) (h5 : ∀ i, i < l.length → backB l i = false) {k : Nat} (h : firstN (meetB l) l.length = some k) : chk l = (193, (k : Int)) := by
  have e : mtS l = (193, (k : Int), true) := by unfold mtS; rw [h]; rfl
  unfold chk; rw [szS_ok h1 h2, vdS_ok h3, twS_ok h4, bkS_ok h5, e]; rfl
theorem mtS_ok {l : List Pt} (h : ∀ i, i < l.length → meetB l i = false) : mtS l = (0, 0, false) := by unfold mtS; rw [firstN_none h]; rfl
theorem chk_ok {l : List Pt} (h1 : 3 ≤ l.length) (h2 : l.length ≤ 200) (h3 : ∀ i, i < l.length → (!okP (pt l i)) = false) (h4 : ∀ i, i < l.length → twiceB l i = false) (h5 : ∀ i, i < l.length → backB l i = false) (h6 : ∀ i, i < l.length → meetB l i = false) : chk l = (0, 0) := by
  unfold chk; rw [szS_ok h1 h2, vdS_ok h3, twS_ok h4, bkS_ok h5, mtS_ok h6]; rfl
theorem stg_ne {e : Int} {o : Option Nat} (h : (stg e o).2.2 = true) : ∃ i, o = some i := by
  cases o with
  | none => simp [stg] at h
  | some i => exact ⟨i, rfl⟩
/-- A ring that may be, in plain words. -/
theorem okR_iff {l : List Pt} : okR l = true ↔ 3 ≤ l.length ∧ l.length ≤ 200 ∧ (∀ i, i < l.length → okP (pt l i) = true) ∧ (∀ i, i < l.length → twiceB l i = false) ∧ (∀ i, i < l.length → backB l i = false) ∧ ∀ i, i < l.length → meetB l i = false := by
  constructor
  · intro h
    have h := of_decide_eq_true h
    by_cases h1 : 200 < l.length
    · rw [chk_long h1] at h; simp at h
    by_cases h2 : l.length < 3
    · rw [chk_few h2] at h; simp at h
    have a1 : 3 ≤ l.length := by omega
    have a2 : l.length ≤ 200 := by omega
    have h3 : ∀ i, i < l.length → (!okP (pt l i)) = false := by
      cases e : firstN (fun i => !okP (pt l i)) l.length with
      | none => exact firstN_none_iff.1 e
      | some k => rw [chk_vd a1 a2 e] at h; simp at h
    have h4 : ∀ i, i < l.length → twiceB l i = false := by
      cases e : firstN (twiceB l) l.length with
      | none => exact firstN_none_iff.1 e
      | some k => rw [chk_tw a1 a2 h3 e] at h; simp at h
    have h5 : ∀ i, i < l.length → backB l i = false := by
      cases e : firstN (backB l) l.length with
      | none => exact firstN_none_iff.1 e
      | some k => rw [chk_bk a1 a2 h3 h4 e] at h; simp at h
    have h6 : ∀ i, i < l.length → meetB l i = false := by
      cases e : firstN (meetB l) l.length with
      | none => exact firstN_none_iff.1 e
      | some k => rw [chk_mt a1 a2 h3 h4 h5 e] at h; simp at h
    exact ⟨a1, a2, fun i hi => by simpa using h3 i hi, h4, h5, h6⟩
  · rintro ⟨a1, a2, h3, h4, h5, h6⟩
    exact decide_eq_true (by rw [chk_ok a1 a2 (fun i hi => by simpa using h3 i hi) h4 h5 h6])
end Go.Proofs.Geo

/- Plain numbers in digits to the base 2^16; no program in sight. -/
namespace Go.Proofs.Num

/-- The number that digits make, the lowest first. -/
def hv : List Int → Int
  | [] => 0
  | d :: l => d + 65536 * hv l
/-- A number without its lowest digits; a digit. -/
def sh (V : Int) : Nat → Int
  | 0 => V
  | j + 1 => sh (V / 65536) j
def dg (V : Int) (j : Nat) : Int := sh V j % 65536
theorem dg_bd (V : Int) (j : Nat) : 0 ≤ dg V j ∧ dg V j < 65536 := by unfold dg; omega
theorem sh_succ (V : Int) (j : Nat) : sh V (j + 1) = sh V j / 65536 := by
  induction j generalizing V with
  | zero => rfl
  | succ j ih => exact ih (V / 65536)
theorem sh_split (V : Int) (j : Nat) : sh V j = 65536 * sh V (j + 1) + dg V j := by rw [sh_succ]; unfold dg; omega
theorem sh_mono {V W : Int} (h : V ≤ W) (j : Nat) : sh V j ≤ sh W j := by
  induction j generalizing V W with
  | zero => exact h
  | succ j ih => exact ih (Int.ediv_le_ediv (by decide) h)
theorem sh_nonneg {V : Int} (h : 0 ≤ V) (j : Nat) : 0 ≤ sh V j := by
  induction j generalizing V with
  | zero => exact h
  | succ j ih => exact ih (by omega)
/-- Digits in their bounds are the number's. -/
theorem dg_of (l : List Int) (h : ∀ d ∈ l, 0 ≤ d ∧ d < 65536) (j : Nat) (hj : j < l.length) : l[j] = dg (hv l) j := by
  induction l generalizing j with
  | nil => simp at hj
  | cons d l ih =>
    have hd := h d (by simp)
    have hh : hv (d :: l) = d + 65536 * hv l := rfl
    have e1 : hv (d :: l) % 65536 = d := by rw [hh]; omega
    have e2 : hv (d :: l) / 65536 = hv l := by rw [hh]; omega
    cases j with
    | zero => exact e1.symm
    | succ j =>
      rw [List.getElem_cons_succ, ih (fun x hx => h x (by simp [hx])) j (by simpa using hj)]
      show _ = sh (hv (d :: l) / 65536) j % 65536
      rw [e2]; rfl
/-- The number is made of its digits. -/
theorem hv_sh (V : Int) (n : Nat) : hv ((List.range n).map (dg V)) + 65536 ^ n * sh V n = V := by
  induction n generalizing V with
  | zero => simp [hv, sh]
  | succ n ih =>
    have e : (List.range (n + 1)).map (dg V) = dg V 0 :: (List.range n).map (dg (V / 65536)) := by
      rw [List.range_succ_eq_map, List.map_cons, List.map_map]; rfl
    have h := ih (V / 65536)
    have e2 : sh V (n + 1) = sh (V / 65536) n := rfl
    rw [e, e2, hv]
    have e3 : (65536 : Int) ^ (n + 1) * sh (V / 65536) n = 65536 * (65536 ^ n * sh (V / 65536) n) := by rw [Int.pow_succ, Int.mul_comm ((65536 : Int) ^ n) 65536, Int.mul_assoc]
    rw [e3]
    have e4 : dg V 0 = V % 65536 := rfl
    omega

/-- The twelve digits. -/
def d12 (V : Int) : List Int := (List.range 12).map (dg V)
theorem hv_d12 {V : Int} (h : sh V 12 = 0) : hv (d12 V) = V := by have := hv_sh V 12; rw [h] at this; simpa [d12] using this
def top12 : Int := 6277101735386680763835789423207666416102355444464034512896
theorem sh12_zero {V : Int} (h0 : 0 ≤ V) (h : V < top12) : sh V 12 = 0 := by
  unfold top12 at h
  have : sh V 12 = V / 65536 / 65536 / 65536 / 65536 / 65536 / 65536 / 65536 / 65536 / 65536 / 65536 / 65536 / 65536 := rfl
  rw [this]; omega
theorem hv12 (d0 d1 d2 d3 d4 d5 d6 d7 d8 d9 d10 d11 : Int) : hv [d0, d1, d2, d3, d4, d5, d6, d7, d8, d9, d10, d11] =
    d0 + 65536 * (d1 + 65536 * (d2 + 65536 * (d3 + 65536 * (d4 + 65536 * (d5 + 65536 * (d6 + 65536 * (d7 + 65536 * (d8 + 65536 * (d9 + 65536 * (d10 + 65536 * d11)))))))))) := by simp [hv]
theorem hv_dg {V : Int} (h0 : 0 ≤ V) (h : V < top12) : hv [dg V 0, dg V 1, dg V 2, dg V 3, dg V 4, dg V 5, dg V 6, dg V 7, dg V 8, dg V 9, dg V 10, dg V 11] = V := hv_d12 (sh12_zero h0 h)
theorem hv_nonneg {l : List Int} (h : ∀ d ∈ l, 0 ≤ d) : 0 ≤ hv l := by
  induction l with
  | nil => simp [hv]
  | cons d l ih => have := h d (by simp); have := ih fun x hx => h x (by simp [hx]); unfold hv; omega
/-- Nothing has no digits, and what has none is nothing. -/
theorem dg_zero (j : Nat) : dg 0 j = 0 := by
  have : ∀ j, sh 0 j = 0 := by
    intro j
    induction j with
    | zero => rfl
    | succ j ih => rw [sh_succ, ih]; rfl
  unfold dg; rw [this]; rfl
theorem zero_of_dg {V : Int} (h0 : 0 ≤ V) (h : V < top12) (hz : ∀ j, j < 12 → dg V j = 0) : V = 0 := by
  rw [← hv_dg h0 h, hz 0 (by omega), hz 1 (by omega), hz 2 (by omega), hz 3 (by omega), hz 4 (by omega), hz 5 (by omega), hz 6 (by omega), hz 7 (by omega), hz 8 (by omega), hz 9 (by omega), hz 10 (by omega), hz 11 (by omega)]
  rfl
/-- The higher digits being alike, the first unlike one decides. -/
theorem lt_of_dg {X Y : Int} {i : Nat} (h : sh X (i + 1) = sh Y (i + 1)) (hd : dg X i < dg Y i) : X < Y := by
  rcases Int.lt_or_le X Y with k | k
  · exact k
  · exfalso
    have := sh_mono k i
    have e1 := sh_split X i
    have e2 := sh_split Y i
    omega
theorem eq_of_dg {X Y : Int} {i : Nat} (h : sh X (i + 1) = sh Y (i + 1)) (hd : dg X i = dg Y i) : sh X i = sh Y i := by
  have e1 := sh_split X i
  have e2 := sh_split Y i
  omega
end Go.Proofs.Num

/- Plain: points from a place on, one by one. -/
namespace Go.Proofs.Geo
theorem rat_frm {l : List Pt} (i : Int) {j : Nat} (h : j < l.length) : pt (frm l i) j = rat l (i + j) := by
  have hn : 0 < l.length := by omega
  have hk := rix_lt hn i
  have e1 := rix_eq hn i
  have e2 := rix_eq hn (i + j)
  have hlen : j < (frm l i).length := by rw [frm_len]; exact h
  rw [pt_get hlen]
  unfold frm rat
  have hx : (i % (l.length : Int)).toNat = rix l.length i := rfl
  simp only [hx]
  generalize rix l.length i = k at *
  by_cases hj : j < l.length - k
  · rw [List.getElem_append_left (by simp; omega), List.getElem_drop]
    have : rix l.length (i + j) = k + j := by
      have h3 : (i + j) % (l.length : Int) = ((k + j : Nat) : Int) := by
        rw [Int.add_emod, ← e1, ← Int.add_emod_right ((k : Int) + _)]
        have : (k : Int) % (l.length : Int) = k := Int.emod_eq_of_lt (by omega) (by omega)
        simp only [Int.add_emod_right, Int.add_emod_emod, Int.natCast_add]
        exact Int.emod_eq_of_lt (by omega) (by omega)
      omega
    rw [this, pt_get (by omega)]
  · rw [List.getElem_append_right (by simp; omega), List.getElem_take]
    have : rix l.length (i + j) = k + j - l.length := by
      have h3 : (i + j) % (l.length : Int) = ((k + j - l.length : Nat) : Int) := by
        have e : (i + j) % (l.length : Int) = ((k : Int) + j) % (l.length : Int) := by rw [Int.add_emod, ← e1]; simp
        rw [e, ← Int.sub_emod_right]
        have : ((k : Int) + j - l.length) = ((k + j - l.length : Nat) : Int) := by omega
        rw [this]
        exact Int.emod_eq_of_lt (by omega) (by omega)
      omega
    rw [this, pt_get (by omega)]
    simp only [List.length_drop]
    congr 1
    omega
theorem frm_map (l : List Pt) (i : Int) : frm l i = (List.range l.length).map fun j => rat l (i + (j : Nat)) := by
  apply List.ext_getElem
  · rw [frm_len]; simp
  · intro j h1 h2
    rw [frm_len] at h1
    have := rat_frm i h1
    rw [pt_get (by rw [frm_len]; exact h1)] at this
    rw [this]; simp
end Go.Proofs.Geo

/- Plain: rings round and round: begun elsewhere, turned; the least point, the sign, the normal one. -/
set_option linter.unusedVariables false
namespace Go.Proofs.Geo

/-- A way round, without end, as a ring may have it. -/
structure OkF (n : Nat) (F : Int → Pt) : Prop where
  n3 : 3 ≤ n
  n200 : n ≤ 200
  per : ∀ i j : Int, i % (n : Int) = j % (n : Int) → F i = F j
  ok : ∀ i, okP (F i) = true
  inj : ∀ i j : Int, F i = F j → i % (n : Int) = j % (n : Int)
  bk : ∀ i, turn (F (i - 1)) (F i) (F (i + 1)) = 0 → onS (F i) (F (i - 1)) (F (i + 1)) = true
  mt : ∀ i k : Int, (k - i) % (n : Int) ≠ 0 → (k - i) % (n : Int) ≠ 1 → (k - i) % (n : Int) ≠ n - 1 → meets (F i) (F (i + 1)) (F k) (F (k + 1)) = 0
theorem rat_pt (l : List Pt) (i : Int) : rat l i = pt l (rix l.length i) := rfl
theorem emod_shift (a i j n : Int) (h : i % n = j % n) : (a + i) % n = (a + j) % n := by rw [Int.add_emod, h, ← Int.add_emod]
theorem emod_sub (a i j n : Int) (h : i % n = j % n) : (a - i) % n = (a - j) % n := by rw [Int.sub_emod, h, ← Int.sub_emod]
theorem emod_r (a i j n : Int) (h : i % n = j % n) : (i + a) % n = (j + a) % n := by rw [Int.add_emod, h, ← Int.add_emod]
theorem emod_m (a i j n : Int) (h : i % n = j % n) : (i - a) % n = (j - a) % n := by rw [Int.sub_emod, h, ← Int.sub_emod]
theorem emod_rix {n : Nat} (h : 0 < n) (i : Int) : (rix n i : Int) % (n : Int) = i % (n : Int) := by rw [rix_eq h, Int.emod_emod]
theorem two_rix {n : Nat} (h : 0 < n) (i k : Int) : (k - i) % (n : Int) = ((rix n k : Int) - (rix n i : Int)) % (n : Int) := by
  rw [rix_eq h, rix_eq h, ← Int.sub_emod]
theorem diff_emod {n p q : Nat} (hp : p < n) (hq : q < n) : ((q : Int) - p) % (n : Int) = if p ≤ q then (q : Int) - p else (q : Int) - p + n := by
  split
  · exact Int.emod_eq_of_lt (by omega) (by omega)
  · rw [← Int.add_emod_right]; exact Int.emod_eq_of_lt (by omega) (by omega)
theorem skipB_false {n i k : Nat} (h1 : i + 2 ≤ k) (h2 : ¬ (i = 0 ∧ k + 1 = n)) : skipB n i k = false := by
  unfold skipB
  rw [decide_eq_false (by omega)]
  by_cases h : i = 0
  · rw [decide_eq_true h, decide_eq_false (fun e => h2 ⟨h, e⟩)]; rfl
  · rw [decide_eq_false h]; rfl
theorem skipB_true {n i k : Nat} (h : skipB n i k = false) : i + 2 ≤ k ∧ ¬ (i = 0 ∧ k + 1 = n) := by
  unfold skipB at h
  rw [Bool.or_eq_false_iff, decide_eq_false_iff_not, Bool.and_eq_false_iff, decide_eq_false_iff_not, decide_eq_false_iff_not] at h
  omega
theorem okR_F {l : List Pt} : okR l = true ↔ OkF l.length (rat l) := by
  constructor
  · intro h
    obtain ⟨h3, h200, hv, ht, hb, hm⟩ := okR_iff.1 h
    have hn : 0 < l.length := by omega
    have hlt := fun i => rix_lt hn i
    have dis : ∀ p q, p < q → q < l.length → pt l p ≠ pt l q := fun p q h1 h2 e => by
      have := any_range_iff.1 (ht q h2) p h1
      simp [e] at this
    have mt0 : ∀ p q, q < l.length → p + 2 ≤ q → ¬ (p = 0 ∧ q + 1 = l.length) → meets (pt l p) (rat l ((p : Int) + 1)) (pt l q) (rat l ((q : Int) + 1)) = 0 := fun p q hq h1 h2 => by
      have := any_range_iff.1 (hm p (by omega)) q hq
      unfold hitB at this
      rw [skipB_false h1 h2] at this
      simpa using this
    refine ⟨h3, h200, fun i j e => rat_congr l e, fun i => hv _ (hlt i), fun i j e => ?_, fun i e => ?_, fun i k e0 e1 e2 => ?_⟩
    · rw [rat_pt, rat_pt] at e
      rw [← emod_rix hn i, ← emod_rix hn j]
      rcases Nat.lt_trichotomy (rix l.length i) (rix l.length j) with h | h | h
      · exact absurd e (dis _ _ h (hlt j))
      · rw [h]
      · exact absurd e.symm (dis _ _ h (hlt i))
    · have h1 := hb _ (hlt i)
      unfold backB at h1
      have a1 : rat l ((rix l.length i : Int) - 1) = rat l (i - 1) := rat_congr l (emod_m 1 _ _ _ (emod_rix hn i))
      have a2 : rat l ((rix l.length i : Int) + 1) = rat l (i + 1) := rat_congr l (emod_r 1 _ _ _ (emod_rix hn i))
      rw [a1, a2, ← rat_pt, e] at h1
      simpa using h1
    · have a1 : rat l ((rix l.length i : Int) + 1) = rat l (i + 1) := rat_congr l (emod_r 1 _ _ _ (emod_rix hn i))
      have a2 : rat l ((rix l.length k : Int) + 1) = rat l (k + 1) := rat_congr l (emod_r 1 _ _ _ (emod_rix hn k))
      rw [two_rix hn, diff_emod (hlt i) (hlt k)] at e0 e1 e2
      have hp := hlt i
      have hq := hlt k
      rw [rat_pt l i, rat_pt l k, ← a1, ← a2]
      by_cases hle : rix l.length i ≤ rix l.length k
      · rw [if_pos hle] at e0 e1 e2
        exact mt0 _ _ hq (by omega) (by omega)
      · rw [if_neg hle] at e0 e1 e2
        rw [meets_swap]
        exact mt0 _ _ hp (by omega) (by omega)
  · intro h
    have hn : 0 < l.length := by have := h.n3; omega
    refine okR_iff.2 ⟨h.n3, h.n200, fun i hi => by rw [← rat_in hi]; exact h.ok _, fun i hi => any_range_false fun k hk => decide_eq_false fun e => ?_, fun i hi => ?_, fun i hi => any_range_false fun k hk => ?_⟩
    · rw [← rat_in hi, ← rat_in (show k < l.length by omega)] at e
      have := h.inj _ _ e
      rw [Int.emod_eq_of_lt (by omega) (by omega), Int.emod_eq_of_lt (by omega) (by omega)] at this
      omega
    · unfold backB
      rw [← rat_in hi]
      by_cases e : turn (rat l ((i : Int) - 1)) (rat l (i : Int)) (rat l ((i : Int) + 1)) = 0
      · rw [h.bk _ e]; simp
      · rw [decide_eq_false e]; rfl
    · unfold hitB
      cases hs : skipB l.length i k
      · obtain ⟨s1, s2⟩ := skipB_true hs
        have e : ((k : Int) - i) % (l.length : Int) = (k : Int) - i := Int.emod_eq_of_lt (by omega) (by omega)
        have := h.mt i k (by rw [e]; omega) (by rw [e]; omega) (by rw [e]; omega)
        rw [← rat_in hi, ← rat_in hk, this]; rfl
      · rfl

theorem OkF.shift {n : Nat} {F : Int → Pt} (h : OkF n F) (a : Int) : OkF n (fun j => F (a + j)) := by
  refine ⟨h.n3, h.n200, fun i j e => h.per _ _ (emod_shift a i j n e), fun i => h.ok _, fun i j e => ?_, fun i e => ?_, fun i k e0 e1 e2 => ?_⟩
  · have := emod_shift (-a) _ _ _ (h.inj _ _ e)
    rwa [show -a + (a + i) = i by omega, show -a + (a + j) = j by omega] at this
  · have := h.bk (a + i)
    rw [show a + i - 1 = a + (i - 1) by omega, show a + i + 1 = a + (i + 1) by omega] at this
    exact this e
  · have := h.mt (a + i) (a + k)
    rw [show a + i + 1 = a + (i + 1) by omega, show a + k + 1 = a + (k + 1) by omega, show a + k - (a + i) = k - i by omega] at this
    exact this e0 e1 e2
theorem neg_emod_ne {d : Int} {n : Nat} (hn : 3 ≤ n) (h0 : d % (n : Int) ≠ 0) (h1 : d % (n : Int) ≠ 1) (h2 : d % (n : Int) ≠ n - 1) : (-d) % (n : Int) ≠ 0 ∧ (-d) % (n : Int) ≠ 1 ∧ (-d) % (n : Int) ≠ n - 1 := by
  have hp := Int.emod_nonneg d (show (n : Int) ≠ 0 by omega)
  have hq := Int.emod_lt_of_pos d (show (0 : Int) < (n : Int) by omega)
  have e : (-d) % (n : Int) = (n : Int) - d % (n : Int) := by
    have : (-d) % (n : Int) = ((n : Int) - d % (n : Int)) % (n : Int) := by
      rw [← Int.zero_sub d, Int.sub_emod, ← Int.add_emod_right ((0 : Int) % (n : Int) - d % (n : Int))]
      simp
    rw [this]
    exact Int.emod_eq_of_lt (by omega) (by omega)
  rw [e]; omega
theorem OkF.rev {n : Nat} {F : Int → Pt} (h : OkF n F) (a : Int) : OkF n (fun j => F (a - j)) := by
  refine ⟨h.n3, h.n200, fun i j e => h.per _ _ (emod_sub a i j n e), fun i => h.ok _, fun i j e => ?_, fun i e => ?_, fun i k e0 e1 e2 => ?_⟩
  · have := emod_sub a _ _ _ (h.inj _ _ e)
    rwa [show a - (a - i) = i by omega, show a - (a - j) = j by omega] at this
  · have := h.bk (a - i)
    rw [show a - i - 1 = a - (i + 1) by omega, show a - i + 1 = a - (i - 1) by omega] at this
    rw [onS_comm]
    refine this ?_
    rw [← turn_cyc, turn_swap, turn_cyc] at e
    first | omega | skip
    have e2 := turn_swap' (F (a - (i - 1))) (F (a - i)) (F (a - (i + 1)))
    have e3 := turn_cyc (F (a - (i + 1))) (F (a - i)) (F (a - (i - 1)))
    have e4 := turn_cyc (F (a - i)) (F (a - (i - 1))) (F (a - (i + 1)))
    have e5 := turn_swap (F (a - i)) (F (a - (i - 1))) (F (a - (i + 1)))
    have e6 := turn_cyc (F (a - (i - 1))) (F (a - i)) (F (a - (i + 1)))
    omega
  · obtain ⟨d0, d1, d2⟩ := neg_emod_ne h.n3 e0 e1 e2
    have := h.mt (a - (i + 1)) (a - (k + 1))
    rw [show a - (i + 1) + 1 = a - i by omega, show a - (k + 1) + 1 = a - k by omega, show a - (k + 1) - (a - (i + 1)) = -(k - i) by omega] at this
    rw [meets_l, meets_r]
    exact this d0 d1 d2
theorem rat_frm' (l : List Pt) (i j : Int) : rat (frm l i) j = rat l (i + j) := by
  rcases Nat.eq_zero_or_pos l.length with h0 | hn
  · have : l = [] := List.eq_nil_of_length_eq_zero h0
    subst this
    simp [rat, pt, frm]
  · rw [rat_pt, frm_len, rat_frm i (rix_lt hn j)]
    exact rat_congr l (emod_shift i _ _ _ (emod_rix hn j))
theorem rat_rev (l : List Pt) (j : Int) : rat l.reverse j = rat l (-1 - j) := by
  rcases Nat.eq_zero_or_pos l.length with h0 | hn
  · have : l = [] := List.eq_nil_of_length_eq_zero h0
    subst this
    simp [rat, pt]
  · have hp := rix_lt hn j
    have hlr : rix l.length j < l.reverse.length := by simpa using hp
    rw [rat_pt, List.length_reverse, pt_get hlr, List.getElem_reverse, ← pt_get (show l.length - 1 - rix l.length j < l.length by omega), ← rat_in (show l.length - 1 - rix l.length j < l.length by omega)]
    refine rat_congr l ?_
    have e := emod_sub (-1) _ _ _ (emod_rix hn j)
    rw [← e, ← Int.add_emod_right (-1 - (rix l.length j : Int))]
    congr 1
    omega
theorem okR_frm (l : List Pt) (i : Int) : okR (frm l i) = okR l := by
  rw [Bool.eq_iff_iff, okR_F, okR_F, frm_len]
  have e : rat (frm l i) = fun j => rat l (i + j) := funext fun j => rat_frm' l i j
  rw [e]
  constructor
  · intro h
    have := h.shift (-i)
    have e2 : (fun j => rat l (i + (-i + j))) = rat l := funext fun j => by congr 1; omega
    rwa [e2] at this
  · intro h; exact h.shift i
theorem okR_rev (l : List Pt) : okR l.reverse = okR l := by
  rw [Bool.eq_iff_iff, okR_F, okR_F, List.length_reverse]
  have e : rat l.reverse = fun j => rat l (-1 - j) := funext fun j => rat_rev l j
  rw [e]
  constructor
  · intro h
    have := h.rev (-1)
    have e2 : (fun j => rat l (-1 - (-1 - j))) = rat l := funext fun j => by congr 1; omega
    rwa [e2] at this
  · intro h; exact h.rev (-1)

/-- Is a place that of the least point? -/
def Low (F : Int → Pt) (m : Int) : Prop := ∀ j, cmpP (F m) (F j) ≤ 0
theorem leastK_low (l : List Pt) (k : Nat) : ∀ j, j < k → cmpP (pt l (leastK l k)) (pt l j) ≤ 0 := by
  induction k with
  | zero => intro j h; omega
  | succ k ih =>
    intro j hj
    have self : ∀ p : Pt, cmpP p p ≤ 0 := fun p => by have := (cmpP_zero (a := p) (b := p)).2 rfl; omega
    unfold leastK
    split
    · rename_i h
      by_cases e : j = k
      · subst e; exact self _
      · exact cmpP_trans (by omega) (ih j (by omega))
    · rename_i h
      by_cases e : j = k
      · subst e; have := cmpP_neg (pt l j) (pt l (leastK l j)); omega
      · exact ih j (by omega)
theorem low_least {l : List Pt} (h : 0 < l.length) : Low (rat l) (leastN l : Nat) := by
  intro j
  rw [rat_in (show leastN l < l.length from leastK_lt l _ h), rat_pt]
  exact leastK_low l _ _ (rix_lt h j)
theorem low_eq {F : Int → Pt} {m m' : Int} (h : Low F m) (h' : Low F m') : F m = F m' := by
  have h1 := h m'
  have h2 := h' m
  have := cmpP_neg (F m) (F m')
  exact cmpP_zero.1 (by omega)
theorem OkF.low {n : Nat} {F : Int → Pt} (h : OkF n F) {m m' : Int} (h1 : Low F m) (h2 : Low F m') : m % (n : Int) = m' % (n : Int) := h.inj _ _ (low_eq h1 h2)
theorem signR_F {l : List Pt} (h : okR l = true) {m : Int} (hm : Low (rat l) m) : signR l = turn (rat l (m - 1)) (rat l m) (rat l (m + 1)) := by
  have hF := okR_F.1 h
  have hn : 0 < l.length := by have := hF.n3; omega
  have e := hF.low (low_least hn) hm
  unfold signR
  rw [if_pos h, ← rat_in (show leastN l < l.length from leastK_lt l _ hn), rat_congr l e]
  have a1 : rat l ((leastN l : Int) - 1) = rat l (m - 1) := rat_congr l (emod_m 1 _ _ _ e)
  have a2 : rat l ((leastN l : Int) + 1) = rat l (m + 1) := rat_congr l (emod_r 1 _ _ _ e)
  rw [a1, a2]
/-- A point on a segment, that is no end, is behind one of the ends. -/
theorem low_end {p a b : Pt} (h : onS p a b = true) (h1 : cmpP p a < 0) (h2 : cmpP p b < 0) : False := by
  obtain ⟨_, _, _, hx, hy, hd⟩ := onS_iff.1 h
  rw [btw_iff] at hx hy
  have c1 : p.2 < a.2 ∨ (p.2 = a.2 ∧ p.1 < a.1) := by
    unfold cmpP at h1; repeat' split at h1 <;> omega
  have c2 : p.2 < b.2 ∨ (p.2 = b.2 ∧ p.1 < b.1) := by
    unfold cmpP at h2; repeat' split at h2 <;> omega
  have hcase : (p.2 = a.2 ∧ p.1 < a.1 ∧ a.2 < b.2) ∨ (p.2 = b.2 ∧ p.1 < b.1 ∧ b.2 < a.2) := by omega
  unfold det at hd
  rcases hcase with ⟨e1, e2, e3⟩ | ⟨e1, e2, e3⟩
  · rw [e1] at hd
    have : (b.2 - a.2) * (p.1 - a.1) = 0 := by simp at hd; first | exact hd | (have : (b.1 - a.1) * (a.2 - a.2) = 0 := by simp; grind) | grind
    rcases Int.mul_eq_zero.1 this with h | h <;> omega
  · have : (b.2 - a.2) * (p.1 - b.1) = 0 := by rw [e1] at hd; grind
    rcases Int.mul_eq_zero.1 this with h | h <;> omega
theorem OkF.lt {n : Nat} {F : Int → Pt} (h : OkF n F) {m j : Int} (hm : Low F m) (hne : m % (n : Int) ≠ j % (n : Int)) : cmpP (F m) (F j) < 0 := by
  have h1 := hm j
  have h2 : cmpP (F m) (F j) ≠ 0 := fun e => hne (h.inj _ _ (cmpP_zero.1 e))
  omega
theorem emod_next {n : Nat} (hn : 3 ≤ n) (m : Int) : m % (n : Int) ≠ (m + 1) % (n : Int) ∧ m % (n : Int) ≠ (m - 1) % (n : Int) ∧ (m - 1) % (n : Int) ≠ (m + 1) % (n : Int) := by
  have key : ∀ a b : Int, a % (n : Int) = b % (n : Int) → (b - a) % (n : Int) = 0 := fun a b e => by rw [Int.sub_emod, e, Int.sub_self, Int.zero_emod]
  have hs : ∀ d : Int, 0 < d → d < n → d % (n : Int) ≠ 0 := fun d h1 h2 e => by rw [Int.emod_eq_of_lt (by omega) h2] at e; omega
  refine ⟨fun e => ?_, fun e => ?_, fun e => ?_⟩
  · have := key _ _ e; rw [show m + 1 - m = 1 by omega] at this; exact hs 1 (by omega) (by omega) this
  · have := key _ _ e.symm; rw [show m - (m - 1) = 1 by omega] at this; exact hs 1 (by omega) (by omega) this
  · have := key _ _ e; rw [show m + 1 - (m - 1) = 2 by omega] at this; exact hs 2 (by omega) (by omega) this
theorem signR_ne {l : List Pt} (h : okR l = true) : signR l ≠ 0 := by
  have hF := okR_F.1 h
  have hn : 0 < l.length := by have := hF.n3; omega
  have hm := low_least hn
  rw [signR_F h hm]
  intro e
  obtain ⟨n1, n2, _⟩ := emod_next hF.n3 (leastN l : Nat)
  exact low_end (hF.bk _ e) (hF.lt hm n2) (hF.lt hm n1)
theorem signR_not {l : List Pt} (h : okR l = false) : signR l = 0 := by unfold signR; rw [h]; rfl
theorem signR_iff (l : List Pt) : signR l ≠ 0 ↔ okR l = true := by
  constructor
  · intro h; cases e : okR l
    · exact absurd (signR_not e) h
    · rfl
  · exact signR_ne
theorem signR_pm {l : List Pt} (h : okR l = true) : signR l = 1 ∨ signR l = -1 := by
  have h0 := signR_ne h
  have hn : 0 < l.length := by have := (okR_F.1 h).n3; omega
  have := turn_bd (rat l ((leastN l : Nat) - 1 : Int)) (rat l (leastN l : Nat)) (rat l ((leastN l : Nat) + 1 : Int))
  rw [signR_F h (low_least hn)] at *
  omega
theorem low_frm {l : List Pt} {i m : Int} : Low (rat (frm l i)) m ↔ Low (rat l) (i + m) := by
  unfold Low
  constructor
  · intro h j
    have := h (j - i)
    rwa [rat_frm', rat_frm', show i + (j - i) = j by omega] at this
  · intro h j; rw [rat_frm', rat_frm']; exact h _
theorem low_rev {l : List Pt} {m : Int} : Low (rat l.reverse) m ↔ Low (rat l) (-1 - m) := by
  unfold Low
  constructor
  · intro h j
    have := h (-1 - j)
    rwa [rat_rev, rat_rev, show -1 - (-1 - j) = j by omega] at this
  · intro h j; rw [rat_rev, rat_rev]; exact h _
theorem sign_frm (l : List Pt) (i : Int) : signR (frm l i) = signR l := by
  cases h : okR l
  · rw [signR_not h, signR_not (by rw [okR_frm]; exact h)]
  · have hn : 0 < l.length := by have := (okR_F.1 h).n3; omega
    have hm := low_least hn
    have hm' : Low (rat (frm l i)) ((leastN l : Nat) - i : Int) := low_frm.2 (by rw [show i + ((leastN l : Nat) - i : Int) = (leastN l : Nat) by omega]; exact hm)
    rw [signR_F (by rw [okR_frm]; exact h) hm', signR_F h hm, rat_frm', rat_frm', rat_frm']
    congr 2 <;> omega
theorem turn_rev (a b c : Pt) : turn c b a = - turn a b c := by
  have e3 := turn_cyc c b a
  have e5 := turn_swap a b c
  have e6 := turn_cyc b a c
  have e7 := turn_cyc a b c
  have e8 := turn_cyc a c b
  omega
theorem sign_rev (l : List Pt) : signR l.reverse = - signR l := by
  cases h : okR l
  · rw [signR_not h, signR_not (by rw [okR_rev]; exact h)]; rfl
  · have hn : 0 < l.length := by have := (okR_F.1 h).n3; omega
    have hm := low_least hn
    have hm' : Low (rat l.reverse) (-1 - (leastN l : Nat) : Int) := low_rev.2 (by rw [show -1 - (-1 - (leastN l : Nat) : Int) = (leastN l : Nat) by omega]; exact hm)
    rw [signR_F (by rw [okR_rev]; exact h) hm', signR_F h hm, rat_rev, rat_rev, rat_rev, ← turn_rev]
    congr 2 <;> omega
/-- The normal one, from the least point on, the way to the left. -/
theorem norm_F {l : List Pt} (h : okR l = true) {m : Int} (hm : Low (rat l) m) : normR l = (List.range l.length).map fun j : Nat => rat l (m + signR l * j) := by
  have hF := okR_F.1 h
  have hn : 0 < l.length := by have := hF.n3; omega
  unfold normR
  rw [if_neg (signR_ne h), frm_map]
  rcases signR_pm h with hs | hs
  · have e1 : leftR l = l := by unfold leftR; rw [if_neg (by omega)]
    rw [e1]
    refine List.map_congr_left fun j _ => ?_
    rw [hs]
    refine rat_congr l ?_
    rw [Int.one_mul]
    exact emod_r _ _ _ _ (hF.low (low_least hn) hm)
  · have e1 : leftR l = l.reverse := by unfold leftR; rw [if_pos hs]
    rw [e1, List.length_reverse]
    refine List.map_congr_left fun j _ => ?_
    rw [hs, rat_rev]
    refine rat_congr l ?_
    have hl := low_rev.1 (low_least (l := l.reverse) (by simpa using hn))
    have e := emod_r (-1 * (j : Int)) _ _ _ (hF.low hl hm)
    rw [← e]
    congr 1
    omega
theorem norm_not {l : List Pt} (h : okR l = false) : normR l = [] := by unfold normR; rw [if_pos (signR_not h)]
theorem norm_frm (l : List Pt) (i : Int) : normR (frm l i) = normR l := by
  cases h : okR l
  · rw [norm_not h, norm_not (by rw [okR_frm]; exact h)]
  · have hn : 0 < l.length := by have := (okR_F.1 h).n3; omega
    have hm := low_least hn
    have hm' : Low (rat (frm l i)) ((leastN l : Nat) - i : Int) := low_frm.2 (by rw [show i + ((leastN l : Nat) - i : Int) = (leastN l : Nat) by omega]; exact hm)
    rw [norm_F (by rw [okR_frm]; exact h) hm', norm_F h hm, frm_len, sign_frm]
    refine List.map_congr_left fun j _ => ?_
    rw [rat_frm']; congr 1; omega
theorem norm_rev (l : List Pt) : normR l.reverse = normR l := by
  cases h : okR l
  · rw [norm_not h, norm_not (by rw [okR_rev]; exact h)]
  · have hn : 0 < l.length := by have := (okR_F.1 h).n3; omega
    have hm := low_least hn
    have hm' : Low (rat l.reverse) (-1 - (leastN l : Nat) : Int) := low_rev.2 (by rw [show -1 - (-1 - (leastN l : Nat) : Int) = (leastN l : Nat) by omega]; exact hm)
    rw [norm_F (by rw [okR_rev]; exact h) hm', norm_F h hm, List.length_reverse, sign_rev]
    refine List.map_congr_left fun j _ => ?_
    rw [rat_rev]; congr 1
    rw [Int.neg_mul]; omega
theorem norm_left (l : List Pt) : normR (leftR l) = normR l := by unfold leftR; split; exact norm_rev l; rfl
theorem norm_norm (l : List Pt) : normR (normR l) = normR l := by
  cases h : okR l
  · rw [norm_not h]; decide +kernel
  · have e : normR l = frm (leftR l) (leastN (leftR l) : Nat) := by unfold normR; rw [if_neg (signR_ne h)]
    calc normR (normR l) = normR (frm (leftR l) (leastN (leftR l) : Nat)) := by rw [e]
      _ = normR l := by rw [norm_frm, norm_left]
theorem sign_norm {l : List Pt} (h : okR l = true) : signR (normR l) = 1 := by
  unfold normR
  rw [if_neg (signR_ne h), sign_frm]
  unfold leftR
  rcases signR_pm h with hs | hs
  · rw [if_neg (by omega)]; exact hs
  · rw [if_pos hs, sign_rev]; omega
theorem ok_norm {l : List Pt} (h : okR l = true) : okR (normR l) = true := (signR_iff _).1 (by rw [sign_norm h]; decide)
theorem normR_len {l : List Pt} (h : okR l = true) : (normR l).length = l.length := by
  unfold normR
  rw [if_neg (signR_ne h), frm_len]
  unfold leftR
  split <;> simp
/-- The normal one begins with its least point. -/
theorem norm_first {l : List Pt} (h : okR l = true) {k : Nat} (h1 : 1 ≤ k) (hk : k < l.length) : cmpP (pt (normR l) 0) (pt (normR l) k) < 0 := by
  have hF := okR_F.1 h
  have hn : 0 < l.length := by have := hF.n3; omega
  have hm := low_least hn
  have e := norm_F h hm
  have g : ∀ j, j < l.length → pt (normR l) j = rat l ((leastN l : Nat) + signR l * (j : Int)) := fun j hj => by
    rw [pt_get (by rw [normR_len h]; exact hj)]
    simp [e]
  rw [g 0 hn, g k hk]
  simp only [Int.natCast_zero, Int.mul_zero, Int.add_zero]
  refine hF.lt hm fun he => ?_
  have key : (signR l * (k : Int)) % (l.length : Int) = 0 := by
    have := Int.sub_emod ((leastN l : Nat) + signR l * (k : Int)) (leastN l : Nat) (l.length : Int)
    rw [← he, Int.sub_self, Int.zero_emod, show ((leastN l : Nat) + signR l * (k : Int) - (leastN l : Nat) : Int) = signR l * (k : Int) by omega] at this
    exact this
  rcases signR_pm h with hs | hs
  · rw [hs, Int.one_mul, Int.emod_eq_of_lt (by omega) (by omega)] at key; omega
  · rw [hs] at key
    have := Int.emod_emod_of_dvd
    have k2 : (-1 * (k : Int) + (l.length : Int)) % (l.length : Int) = 0 := by rw [Int.add_emod_right]; exact key
    rw [Int.emod_eq_of_lt (by omega) (by omega)] at k2; omega

/-- Is a list the other one, from the point i on? -/
def eqK (a m : List Pt) (i k : Nat) : Bool := (List.range k).all fun j => decide (pt a j = rat m ((i : Int) + (j : Nat)))
theorem eqK_succ (a m : List Pt) (i k : Nat) : eqK a m i (k + 1) = (eqK a m i k && decide (pt a k = rat m ((i : Int) + k))) := by unfold eqK; rw [List.range_succ, List.all_append]; simp
theorem eqK_mono {a m : List Pt} {i k n : Nat} (h : k ≤ n) (hf : eqK a m i k = false) : eqK a m i n = false := by
  by_cases hn : eqK a m i n = true
  · unfold eqK at hf hn
    rw [List.all_eq_true] at hn
    have : (List.range k).all (fun j => decide (pt a j = rat m ((i : Int) + (j : Nat)))) = true := List.all_eq_true.2 fun j hj => hn j (List.mem_range.2 (Nat.lt_of_lt_of_le (List.mem_range.1 hj) h))
    rw [this] at hf; cases hf
  · simpa using hn
def rotB (a m : List Pt) : Bool := (List.range m.length).any fun i => eqK a m i a.length
def same9R (a b : List Pt) : Bool := okR a && okR b && decide (a.length = b.length) && (rotB a b || rotB a b.reverse)
theorem rotB_frm {a m : List Pt} (hl : a.length = m.length) (h : rotB a m = true) : ∃ i : Int, a = frm m i := by
  obtain ⟨i, hi, he⟩ := List.any_eq_true.1 h
  refine ⟨i, ?_⟩
  rw [frm_map, ← hl]
  apply List.ext_getElem (by simp)
  intro j h1 h2
  have := of_decide_eq_true (List.all_eq_true.1 he j (List.mem_range.2 h1))
  rw [pt_get h1] at this
  simp [this]
theorem rotB_of {a m : List Pt} (hl : a.length = m.length) (hn : 0 < m.length) (i : Int) (h : ∀ k : Nat, rat a k = rat m (i + k)) : rotB a m = true := by
  refine List.any_eq_true.2 ⟨rix m.length i, List.mem_range.2 (rix_lt hn i), ?_⟩
  refine List.all_eq_true.2 fun k hk => decide_eq_true ?_
  rw [← rat_in (List.mem_range.1 hk), h k]
  exact rat_congr m (emod_r _ _ _ _ (emod_rix hn i).symm)
theorem same9R_eq (a b : List Pt) : same9R a b = sameR a b := by
  cases ha : okR a
  · unfold same9R sameR
    rw [ha, signR_not ha]; rfl
  cases hb : okR b
  · unfold same9R sameR
    rw [hb, signR_not hb]; simp
  have hs : sameR a b = decide (normR a = normR b) := by unfold sameR; rw [decide_eq_true (signR_ne ha), decide_eq_true (signR_ne hb)]; rfl
  rw [hs]
  by_cases hl : a.length = b.length
  · have h9 : same9R a b = (rotB a b || rotB a b.reverse) := by unfold same9R; rw [ha, hb, decide_eq_true hl]; rfl
    rw [h9]
    have FA := okR_F.1 ha
    have FB := okR_F.1 hb
    have hna : 0 < a.length := by have := FA.n3; omega
    have hnb : 0 < b.length := by omega
    rw [Bool.eq_iff_iff, Bool.or_eq_true, decide_eq_true_iff]
    constructor
    · rintro (h | h)
      · obtain ⟨i, e⟩ := rotB_frm hl h
        rw [e, norm_frm]
      · obtain ⟨i, e⟩ := rotB_frm (by rw [hl]; simp) h
        rw [e, norm_frm, norm_rev]
    · intro e
      have ma := low_least hna
      have mb := low_least hnb
      rw [norm_F ha ma, norm_F hb mb, ← hl] at e
      generalize ((leastN a : Nat) : Int) = x at *
      generalize ((leastN b : Nat) : Int) = y at *
      have e1 : ∀ j : Int, rat a (x + signR a * j) = rat b (y + signR b * j) := fun j => by
        have hx := List.map_inj_left.1 e (rix a.length j) (List.mem_range.2 (rix_lt hna j))
        have p1 : rat a (x + signR a * (rix a.length j : Nat)) = rat a (x + signR a * j) := rat_congr a (emod_shift _ _ _ _ (by rw [Int.mul_emod, emod_rix hna, ← Int.mul_emod]))
        have p2 : rat b (y + signR b * (rix a.length j : Nat)) = rat b (y + signR b * j) := rat_congr b (emod_shift _ _ _ _ (by rw [← hl, Int.mul_emod, emod_rix hna, ← Int.mul_emod]))
        rw [← p1, ← p2]; exact hx
      rcases signR_pm ha with sa | sa <;> rcases signR_pm hb with sb | sb <;> rw [sa, sb] at e1
      · left
        refine rotB_of hl hnb (y - x) fun k => ?_
        have := e1 (k - x)
        rw [show x + 1 * ((k : Int) - x) = k by omega] at this
        rw [this]; congr 1; omega
      · right
        refine rotB_of (by simpa using hl) (by simpa using hnb) (-1 - y - x) fun k => ?_
        have := e1 (k - x)
        rw [show x + 1 * ((k : Int) - x) = k by omega] at this
        rw [this, rat_rev]; congr 1; omega
      · right
        refine rotB_of (by simpa using hl) (by simpa using hnb) (-1 - y - x) fun k => ?_
        have := e1 (x - k)
        rw [show x + -1 * (x - (k : Int)) = k by omega] at this
        rw [this, rat_rev]; congr 1; omega
      · left
        refine rotB_of hl hnb (y - x) fun k => ?_
        have := e1 (x - k)
        rw [show x + -1 * (x - (k : Int)) = k by omega] at this
        rw [this]; congr 1; omega
  · have h9 : same9R a b = false := by unfold same9R; rw [decide_eq_false hl]; simp
    rw [h9]
    symm
    refine decide_eq_false fun e => hl ?_
    rw [← normR_len ha, ← normR_len hb, e]
end Go.Proofs.Geo

/- Plain: the chapter's examples. -/
namespace Go.Proofs.Geo
def sq : List Pt := [(0, 0), (4, 0), (4, 4), (0, 4)]
def sqX : List Pt := [(0, 0), (4, 4), (4, 0), (0, 4)]
theorem chk_sq : chk sq = (0, 0) := by decide +kernel
theorem sign_sq : signR sq = 1 := by decide +kernel
theorem sign_sqr : signR sq.reverse = -1 := by decide +kernel
theorem chk_sqX : chk sqX = (193, 0) := by decide +kernel
end Go.Proofs.Geo
