/- Plain geometry of two segments: which ends are on the other one, how they meet; no program in sight. -/
import Derived.Test.YtcelipgokpnmfaaGeoPlain
namespace Go.Proofs.Geo

def may (a b : Pt) : Bool := okP a && okP b && decide (a ≠ b)
theorem may_iff {a b : Pt} : may a b = true ↔ okP a = true ∧ okP b = true ∧ a ≠ b := by simp [may, and_assoc]
theorem may_comm (a b : Pt) : may a b = may b a := by
  rw [Bool.eq_iff_iff, may_iff, may_iff]; exact ⟨fun ⟨h1, h2, h3⟩ => ⟨h2, h1, fun e => h3 e.symm⟩, fun ⟨h1, h2, h3⟩ => ⟨h2, h1, fun e => h3 e.symm⟩⟩

/-- Points gathered, each once. -/
def gather (out : List Pt) : List Pt → List Pt
  | [] => out
  | p :: l => gather (if p ∈ out then out else out ++ [p]) l
theorem mem_gather {q : Pt} (l out : List Pt) : q ∈ gather out l ↔ q ∈ out ∨ q ∈ l := by
  induction l generalizing out with
  | nil => simp [gather]
  | cons p l ih =>
    rw [gather, ih]
    by_cases h : p ∈ out
    · rw [if_pos h]
      constructor
      · rintro (h1 | h1)
        · exact .inl h1
        · exact .inr (List.mem_cons_of_mem _ h1)
      · rintro (h1 | h1)
        · exact .inl h1
        · rcases List.mem_cons.1 h1 with rfl | h2
          · exact .inl h
          · exact .inr h2
    · rw [if_neg h]; simp [or_assoc]
theorem nodup_gather (l out : List Pt) (h : out.Nodup) : (gather out l).Nodup := by
  induction l generalizing out with
  | nil => exact h
  | cons p l ih =>
    rw [gather]; apply ih
    by_cases hp : p ∈ out
    · rw [if_pos hp]; exact h
    · rw [if_neg hp, List.nodup_append]
      refine ⟨h, by simp, ?_⟩
      intro x hx y hy e
      rw [List.mem_singleton] at hy; subst hy; subst e; exact hp hx

def onL (a b : Pt) (l : List Pt) : List Pt := l.filter (fun p => onS p a b)
/-- The ends that both segments have in common. -/
def ends (a b c d : Pt) : List Pt := if may a b && may c d then gather (gather [] (onL c d [a, b])) (onL a b [c, d]) else []
def crossB (a b c d : Pt) : Bool := decide (turn a b c * turn a b d < 0) && decide (turn c d a * turn c d b < 0)
/-- How two segments meet: 0 not, 1 they touch, 2 they cross, 3 they are over one another. -/
def meets (a b c d : Pt) : Int :=
  if may a b && may c d then
    if (ends a b c d).length = 0 then (if crossB a b c d then 2 else 0) else if (ends a b c d).length = 1 then 1 else 3
  else 0

theorem mem_ends {a b c d p : Pt} (h1 : may a b = true) (h2 : may c d = true) :
    p ∈ ends a b c d ↔ (p = a ∨ p = b ∨ p = c ∨ p = d) ∧ onS p a b = true ∧ onS p c d = true := by
  have k1 := may_iff.1 h1
  have k2 := may_iff.1 h2
  have e1 := onS_left k1.1 k1.2.1
  have e2 := onS_right k1.1 k1.2.1
  have e3 := onS_left k2.1 k2.2.1
  have e4 := onS_right k2.1 k2.2.1
  simp only [ends, h1, h2, Bool.and_self, if_true, mem_gather, onL, List.mem_filter, List.mem_cons, List.not_mem_nil, or_false, false_or]
  constructor
  · rintro (⟨h | h, k⟩ | ⟨h | h, k⟩)
    · subst h; exact ⟨.inl rfl, e1, k⟩
    · subst h; exact ⟨.inr (.inl rfl), e2, k⟩
    · subst h; exact ⟨.inr (.inr (.inl rfl)), k, e3⟩
    · subst h; exact ⟨.inr (.inr (.inr rfl)), k, e4⟩
  · rintro ⟨h | h | h | h, j, k⟩
    · exact .inl ⟨.inl h, k⟩
    · exact .inl ⟨.inr h, k⟩
    · exact .inr ⟨.inl h, j⟩
    · exact .inr ⟨.inr h, j⟩
theorem nodup_ends (a b c d : Pt) : (ends a b c d).Nodup := by
  unfold ends; split
  · exact nodup_gather _ _ (nodup_gather _ _ List.nodup_nil)
  · exact List.nodup_nil

/-- Lists without doubles that hold the same are of one length. -/
theorem nodup_len_le {α : Type} [DecidableEq α] : ∀ (l m : List α), l.Nodup → (∀ x, x ∈ l → x ∈ m) → l.length ≤ m.length
  | [], _, _, _ => Nat.zero_le _
  | x :: l, m, h, k => by
    have hx : x ∈ m := k x List.mem_cons_self
    have hn := List.nodup_cons.1 h
    have := nodup_len_le l (m.erase x) hn.2 (fun y hy => by
      have hy' := k y (List.mem_cons_of_mem _ hy)
      have : y ≠ x := fun e => hn.1 (e ▸ hy)
      exact (List.mem_erase_of_ne this).2 hy')
    rw [List.length_erase_of_mem hx] at this
    have : 0 < m.length := List.length_pos_of_mem hx
    simp only [List.length_cons]; omega
theorem nodup_len_eq {α : Type} [DecidableEq α] {l m : List α} (h : l.Nodup) (h' : m.Nodup) (k : ∀ x, x ∈ l ↔ x ∈ m) : l.length = m.length :=
  Nat.le_antisymm (nodup_len_le l m h fun x => (k x).1) (nodup_len_le m l h' fun x => (k x).2)

theorem meets_of_same {a b c d a' b' c' d' : Pt} (hm : (may a b && may c d) = (may a' b' && may c' d'))
    (hl : may a b = true → may c d = true → (ends a b c d).length = (ends a' b' c' d').length) (hc : crossB a b c d = crossB a' b' c' d') : meets a b c d = meets a' b' c' d' := by
  unfold meets
  rw [← hm, ← hc]
  by_cases h : (may a b && may c d) = true
  · rw [if_pos h, if_pos h]
    have h' := h
    rw [Bool.and_eq_true] at h'
    rw [hl h'.1 h'.2]
  · rw [if_neg h, if_neg h]

theorem meets_bd (a b c d : Pt) : 0 ≤ meets a b c d ∧ meets a b c d ≤ 3 := by unfold meets; (repeat' split) <;> decide

theorem crossB_swap (a b c d : Pt) : crossB c d a b = crossB a b c d := by unfold crossB; rw [Bool.and_comm]
theorem crossB_l (a b c d : Pt) : crossB b a c d = crossB a b c d := by
  unfold crossB; rw [turn_swap a b c, turn_swap a b d, Int.neg_mul_neg, Int.mul_comm (turn c d b)]
theorem meets_swap (a b c d : Pt) : meets c d a b = meets a b c d := by
  refine meets_of_same (by rw [Bool.and_comm]) (fun h1 h2 => nodup_len_eq (nodup_ends _ _ _ _) (nodup_ends _ _ _ _) fun x => ?_) (crossB_swap _ _ _ _)
  rw [mem_ends h1 h2, mem_ends h2 h1]
  constructor
  · rintro ⟨h, j, k⟩; exact ⟨by rcases h with h | h | h | h <;> simp [h], k, j⟩
  · rintro ⟨h, j, k⟩; exact ⟨by rcases h with h | h | h | h <;> simp [h], k, j⟩
theorem meets_l (a b c d : Pt) : meets b a c d = meets a b c d := by
  refine meets_of_same (by rw [may_comm]) (fun h1 h2 => nodup_len_eq (nodup_ends _ _ _ _) (nodup_ends _ _ _ _) fun x => ?_) (crossB_l _ _ _ _)
  rw [mem_ends h1 h2, mem_ends (by rw [may_comm]; exact h1) h2, onS_comm x b a]
  constructor
  · rintro ⟨h, j, k⟩; exact ⟨by rcases h with h | h | h | h <;> simp [h], j, k⟩
  · rintro ⟨h, j, k⟩; exact ⟨by rcases h with h | h | h | h <;> simp [h], j, k⟩
theorem meets_r (a b c d : Pt) : meets a b d c = meets a b c d := by rw [← meets_swap, meets_l, meets_swap]

/-- A map of points that is one to one and keeps which points may be, are on segments, and turns up to their sign, keeps how segments meet. -/
theorem meets_map (f : Pt → Pt) (a b c d : Pt) (s : Int) (hs : s = 1 ∨ s = -1)
    (hok : ∀ p, p = a ∨ p = b ∨ p = c ∨ p = d → okP (f p) = okP p)
    (hinj : ∀ p q, f p = f q → p = q)
    (hon : ∀ p q r, (p = a ∨ p = b ∨ p = c ∨ p = d) → (q = a ∨ q = b ∨ q = c ∨ q = d) → (r = a ∨ r = b ∨ r = c ∨ r = d) → onS (f p) (f q) (f r) = onS p q r)
    (hturn : ∀ p q r, (p = a ∨ p = b ∨ p = c ∨ p = d) → (q = a ∨ q = b ∨ q = c ∨ q = d) → (r = a ∨ r = b ∨ r = c ∨ r = d) → turn (f p) (f q) (f r) = s * turn p q r) :
    meets (f a) (f b) (f c) (f d) = meets a b c d := by
  have hm : ∀ p q, (p = a ∨ p = b ∨ p = c ∨ p = d) → (q = a ∨ q = b ∨ q = c ∨ q = d) → may (f p) (f q) = may p q := by
    intro p q h1 h2
    rw [Bool.eq_iff_iff, may_iff, may_iff, hok p h1, hok q h2]
    exact ⟨fun ⟨k1, k2, k3⟩ => ⟨k1, k2, fun e => k3 (by rw [e])⟩, fun ⟨k1, k2, k3⟩ => ⟨k1, k2, fun e => k3 (hinj _ _ e)⟩⟩
  have ia : a = a ∨ a = b ∨ a = c ∨ a = d := .inl rfl
  have ib : b = a ∨ b = b ∨ b = c ∨ b = d := .inr (.inl rfl)
  have ic : c = a ∨ c = b ∨ c = c ∨ c = d := .inr (.inr (.inl rfl))
  have id : d = a ∨ d = b ∨ d = c ∨ d = d := .inr (.inr (.inr rfl))
  refine meets_of_same (by rw [hm a b ia ib, hm c d ic id]) (fun h1 h2 => ?_) ?_
  · have h1' : may a b = true := by rw [← hm a b ia ib]; exact h1
    have h2' : may c d = true := by rw [← hm c d ic id]; exact h2
    have : (ends (f a) (f b) (f c) (f d)).length = ((ends a b c d).map f).length := by
      refine nodup_len_eq (nodup_ends _ _ _ _) ?_ fun x => ?_
      · refine List.Pairwise.map f (R := fun x y => x ≠ y) ?_ (nodup_ends a b c d)
        intro x y h e; exact h (hinj _ _ e)
      · rw [mem_ends h1 h2, List.mem_map]
        constructor
        · rintro ⟨h, j, k⟩
          rcases h with rfl | rfl | rfl | rfl
          · exact ⟨a, (mem_ends h1' h2').2 ⟨ia, by rw [← hon a a b ia ia ib]; exact j, by rw [← hon a c d ia ic id]; exact k⟩, rfl⟩
          · exact ⟨b, (mem_ends h1' h2').2 ⟨ib, by rw [← hon b a b ib ia ib]; exact j, by rw [← hon b c d ib ic id]; exact k⟩, rfl⟩
          · exact ⟨c, (mem_ends h1' h2').2 ⟨ic, by rw [← hon c a b ic ia ib]; exact j, by rw [← hon c c d ic ic id]; exact k⟩, rfl⟩
          · exact ⟨d, (mem_ends h1' h2').2 ⟨id, by rw [← hon d a b id ia ib]; exact j, by rw [← hon d c d id ic id]; exact k⟩, rfl⟩
        · rintro ⟨y, hy, rfl⟩
          obtain ⟨h, j, k⟩ := (mem_ends h1' h2').1 hy
          refine ⟨?_, by rw [hon y a b h ia ib]; exact j, by rw [hon y c d h ic id]; exact k⟩
          rcases h with rfl | rfl | rfl | rfl <;> simp
    rw [this, List.length_map]
  · unfold crossB
    rw [hturn a b c ia ib ic, hturn a b d ia ib id, hturn c d a ic id ia, hturn c d b ic id ib]
    rcases hs with rfl | rfl
    · simp only [Int.one_mul]
    · simp only [Int.neg_mul, Int.one_mul, Int.mul_neg, Int.neg_neg]

theorem meets_flip (a b c d : Pt) : meets (-a.1, a.2) (-b.1, b.2) (-c.1, c.2) (-d.1, d.2) = meets a b c d := by
  have k : ∀ p : Pt, okP (-p.1, p.2) = okP p := by intro p; simp only [okP, okB]; rw [Bool.eq_iff_iff]; simp; omega
  refine meets_map (fun p => (-p.1, p.2)) a b c d (-1) (.inr rfl) (fun p _ => k p) ?_ ?_ ?_
  · intro p q h
    have h1 := congrArg Prod.fst h; have h2 := congrArg Prod.snd h
    exact Prod.ext (by simp only at h1; omega) h2
  · intro p q r _ _ _
    rw [Bool.eq_iff_iff, onS_iff, onS_iff, k, k, k]
    have e : det (-q.1, q.2) (-r.1, r.2) (-p.1, p.2) = - det q r p := by unfold det; grind
    rw [e]; simp only [btw_iff]
    constructor
    · rintro ⟨h1, h2, h3, h4, h5, h6⟩; exact ⟨h1, h2, h3, by omega, h5, by omega⟩
    · rintro ⟨h1, h2, h3, h4, h5, h6⟩; exact ⟨h1, h2, h3, by omega, h5, by omega⟩
  · intro p q r _ _ _; rw [turn_flip]; omega
theorem meets_transp (a b c d : Pt) : meets (a.2, a.1) (b.2, b.1) (c.2, c.1) (d.2, d.1) = meets a b c d := by
  have k : ∀ p : Pt, okP (p.2, p.1) = okP p := by intro p; simp only [okP]; rw [Bool.and_comm]
  refine meets_map (fun p => (p.2, p.1)) a b c d (-1) (.inr rfl) (fun p _ => k p) ?_ ?_ ?_
  · intro p q h
    have h1 := congrArg Prod.fst h; have h2 := congrArg Prod.snd h
    exact Prod.ext h2 h1
  · intro p q r _ _ _
    rw [Bool.eq_iff_iff, onS_iff, onS_iff, k, k, k]
    have e : det (q.2, q.1) (r.2, r.1) (p.2, p.1) = - det q r p := by unfold det; grind
    rw [e]
    constructor
    · rintro ⟨h1, h2, h3, h4, h5, h6⟩; exact ⟨h1, h2, h3, h5, h4, by omega⟩
    · rintro ⟨h1, h2, h3, h4, h5, h6⟩; exact ⟨h1, h2, h3, h5, h4, by omega⟩
  · intro p q r _ _ _; rw [turn_transp]; omega
theorem meets_mv {a b c d m : Pt} (ha : okP a = true) (hb : okP b = true) (hc : okP c = true) (hd : okP d = true) (ha' : okP (mv a m) = true) (hb' : okP (mv b m) = true) (hc' : okP (mv c m) = true) (hd' : okP (mv d m) = true) :
    meets (mv a m) (mv b m) (mv c m) (mv d m) = meets a b c d := by
  have k : ∀ p, (p = a ∨ p = b ∨ p = c ∨ p = d) → okP (mv p m) = true ∧ okP p = true := by
    rintro p (rfl | rfl | rfl | rfl)
    · exact ⟨ha', ha⟩
    · exact ⟨hb', hb⟩
    · exact ⟨hc', hc⟩
    · exact ⟨hd', hd⟩
  refine meets_map (fun p => mv p m) a b c d 1 (.inl rfl) (fun p hp => by rw [(k p hp).1, (k p hp).2]) ?_ ?_ ?_
  · intro p q h
    have h1 := congrArg Prod.fst h; have h2 := congrArg Prod.snd h
    simp only [mv] at h1 h2
    exact Prod.ext (by omega) (by omega)
  · intro p q r hp hq hr; exact onS_mv (k p hp).2 (k q hq).2 (k r hr).2 (k p hp).1 (k q hq).1 (k r hr).1
  · intro p q r hp hq hr; rw [Int.one_mul]; exact turn_mv (k p hp).2 (k q hq).2 (k r hr).2 (k p hp).1 (k q hq).1 (k r hr).1
end Go.Proofs.Geo
