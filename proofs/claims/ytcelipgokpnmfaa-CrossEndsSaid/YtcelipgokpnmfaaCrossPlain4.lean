/- Plain geometry of two segments, last: a point that is no end cuts a segment in two. -/
import Derived.Test.YtcelipgokpnmfaaCrossPlain3
namespace Go.Proofs.Geo

/-- On a line whose ends differ in the first coordinate, being on the segment is being between in that coordinate. -/
theorem onS_x {a b p : Pt} (ha : okP a = true) (hb : okP b = true) (hp : okP p = true) (hx : a.1 ≠ b.1) : onS p a b = true ↔ det a b p = 0 ∧ btw p.1 a.1 b.1 = true := by
  rw [onS_iff]
  constructor
  · rintro ⟨_, _, _, h1, _, h2⟩; exact ⟨h2, h1⟩
  · rintro ⟨h1, h2⟩; exact ⟨hp, ha, hb, h2, between_x' h1 hx h2, h1⟩

/-- Three points on the line of a and b: no turn. -/
theorem det_line {a b p q r : Pt} (hab : a ≠ b) (hp : det a b p = 0) (hq : det a b q = 0) (hr : det a b r = 0) : det p q r = 0 := by
  have h1 : (b.1 - a.1) * det p q r = 0 := by unfold det at *; grind
  have h2 : (b.2 - a.2) * det p q r = 0 := by unfold det at *; grind
  rcases Int.mul_eq_zero.1 h1 with k1 | k1
  · rcases Int.mul_eq_zero.1 h2 with k2 | k2
    · exact absurd (Prod.ext (by omega) (by omega)) hab
    · exact k2
  · exact k1

/-- What is on a part is on the whole. -/
theorem onS_trans_x {a b p q : Pt} (hx : a.1 ≠ b.1) (hp : onS p a b = true) (hq : onS q a p = true) (hpa : p ≠ a) : onS q a b = true := by
  obtain ⟨kp, ka, kb, p1, p2, p3⟩ := onS_iff.1 hp
  obtain ⟨kq, _, _, q1, q2, q3⟩ := onS_iff.1 hq
  have hl := fst_ne hx p3 (det_aba a b) hpa
  have hq' : det a b q = 0 := det_line (a := a) (b := p) (fun e => hpa e.symm) (det_aba a p) (by rw [det_swap']; omega) q3
  rw [onS_x ka kb kq hx]
  refine ⟨hq', ?_⟩
  rw [btw_iff] at *; omega
theorem onS_trans {a b p q : Pt} (hab : a ≠ b) (hp : onS p a b = true) (hq : onS q a p = true) (hpa : p ≠ a) : onS q a b = true := by
  by_cases hx : a.1 = b.1
  · have hy : (tr a).1 ≠ (tr b).1 := fun e => hab (Prod.ext hx e)
    rw [← onS_tr]
    exact onS_trans_x hy (by rw [onS_tr]; exact hp) (by rw [onS_tr]; exact hq) (fun e => hpa (tr_inj e))
  · exact onS_trans_x hx hp hq hpa
/-- What is on the whole is on one of its parts. -/
theorem onS_part_x {a b p q : Pt} (hx : a.1 ≠ b.1) (hp : onS p a b = true) (hq : onS q a b = true) (hpa : p ≠ a) (hpb : p ≠ b) : onS q a p = true ∨ onS q p b = true := by
  obtain ⟨kp, ka, kb, p1, p2, p3⟩ := onS_iff.1 hp
  obtain ⟨kq, _, _, q1, q2, q3⟩ := onS_iff.1 hq
  have hne : a ≠ b := fun e => hx (by rw [e])
  have hl := fst_ne hx p3 (det_aba a b) hpa
  have hl2 := fst_ne hx p3 (det_abb a b) hpb
  have z1 : det a p q = 0 := det_line hne (det_aba a b) p3 q3
  have z2 : det p b q = 0 := det_line hne p3 (det_abb a b) q3
  have : btw q.1 a.1 p.1 = true ∨ btw q.1 p.1 b.1 = true := by rw [btw_iff] at *; rw [btw_iff]; omega
  rcases this with h | h
  · left; exact (onS_x ka kp kq (fun e => hl e.symm)).2 ⟨z1, h⟩
  · right; exact (onS_x kp kb kq hl2).2 ⟨z2, h⟩
theorem onS_part {a b p q : Pt} (hab : a ≠ b) (hp : onS p a b = true) (hq : onS q a b = true) (hpa : p ≠ a) (hpb : p ≠ b) : onS q a p = true ∨ onS q p b = true := by
  by_cases hx : a.1 = b.1
  · have hy : (tr a).1 ≠ (tr b).1 := fun e => hab (Prod.ext hx e)
    rw [← onS_tr q a p, ← onS_tr q p b]
    exact onS_part_x hy (by rw [onS_tr]; exact hp) (by rw [onS_tr]; exact hq) (fun e => hpa (tr_inj e)) (fun e => hpb (tr_inj e))
  · exact onS_part_x hx hp hq hpa hpb

/-- Two segments on one line that have a point in common hold an end of one another. -/
theorem line_common_x {a b c d p : Pt} (hx : a.1 ≠ b.1) (hcd : c ≠ d) (zc : det a b c = 0) (zd : det a b d = 0) (h1 : onS p a b = true) (h2 : onS p c d = true) :
    onS a c d = true ∨ onS b c d = true ∨ onS c a b = true ∨ onS d a b = true := by
  obtain ⟨kp, ka, kb, p1, p2, p3⟩ := onS_iff.1 h1
  obtain ⟨_, kc, kd, q1, q2, q3⟩ := onS_iff.1 h2
  have hx2 := fst_ne hx zc zd hcd
  have hne : a ≠ b := fun e => hx (by rw [e])
  have za : det c d a = 0 := det_line hne zc zd (det_aba a b)
  have zb : det c d b = 0 := det_line hne zc zd (det_abb a b)
  have : btw a.1 c.1 d.1 = true ∨ btw b.1 c.1 d.1 = true ∨ btw c.1 a.1 b.1 = true ∨ btw d.1 a.1 b.1 = true := by
    rw [btw_iff] at *; rw [btw_iff, btw_iff, btw_iff]; omega
  rcases this with h | h | h | h
  · exact .inl ((onS_x kc kd ka hx2).2 ⟨za, h⟩)
  · exact .inr (.inl ((onS_x kc kd kb hx2).2 ⟨zb, h⟩))
  · exact .inr (.inr (.inl ((onS_x ka kb kc hx).2 ⟨zc, h⟩)))
  · exact .inr (.inr (.inr ((onS_x ka kb kd hx).2 ⟨zd, h⟩)))
theorem line_common {a b c d p : Pt} (hab : a ≠ b) (hcd : c ≠ d) (zc : det a b c = 0) (zd : det a b d = 0) (h1 : onS p a b = true) (h2 : onS p c d = true) :
    onS a c d = true ∨ onS b c d = true ∨ onS c a b = true ∨ onS d a b = true := by
  by_cases hx : a.1 = b.1
  · have hy : (tr a).1 ≠ (tr b).1 := fun e => hab (Prod.ext hx e)
    have := line_common_x (c := tr c) (d := tr d) (p := tr p) hy (fun e => hcd (tr_inj e)) (by rw [det_tr]; omega) (by rw [det_tr]; omega) (by rw [onS_tr]; exact h1) (by rw [onS_tr]; exact h2)
    rw [onS_tr, onS_tr, onS_tr, onS_tr] at this
    exact this
  · exact line_common_x hx hcd zc zd h1 h2

/-- A common point makes them meet. -/
theorem Mt_of_common {a b c d p : Pt} (h1 : may a b = true) (h2 : may c d = true) (hp1 : onS p a b = true) (hp2 : onS p c d = true) : Mt a b c d := by
  obtain ⟨_, _, hab⟩ := may_iff.1 h1
  obtain ⟨_, _, hcd⟩ := may_iff.1 h2
  by_cases ea : p = a
  · subst ea; exact .inl hp2
  by_cases eb : p = b
  · subst eb; exact .inr (.inl hp2)
  by_cases ec : p = c
  · subst ec; exact .inr (.inr (.inl hp1))
  by_cases ed : p = d
  · subst ed; exact .inr (.inr (.inr (.inl hp1)))
  obtain ⟨D, k, hD, hk0, hk1, e1, e2⟩ := onS_param' hp1 hab ea eb
  obtain ⟨E, m, hE, hm0, hm1, f1, f2⟩ := onS_param' hp2 hcd ec ed
  have g1 := det_param e1 e2 c d
  have g2 := det_param f1 f2 a b
  have z1 : det a b p = 0 := (onS_iff.1 hp1).2.2.2.2.2
  have z2 : det c d p = 0 := (onS_iff.1 hp2).2.2.2.2.2
  rw [z2, Int.mul_zero] at g1
  rw [z1, Int.mul_zero] at g2
  -- of a sum of two in proportion that comes to nothing the parts are nothing, or of unlike signs
  have key : ∀ D k x y : Int, 0 < k → k < D → 0 = (D - k) * x + k * y → (x = 0 ∧ y = 0) ∨ (x < 0 ∧ 0 < y) ∨ (0 < x ∧ y < 0) := by
    intro D k x y h0 h1 h
    rcases Int.lt_trichotomy x 0 with hx | hx | hx
    · right; left; refine ⟨hx, ?_⟩
      have := Int.mul_neg_of_pos_of_neg (show 0 < D - k by omega) hx
      rcases Int.lt_or_le 0 y with hy | hy
      · exact hy
      · have := Int.mul_nonpos_of_nonneg_of_nonpos (Int.le_of_lt h0) hy; omega
    · subst hx
      rw [Int.mul_zero, Int.zero_add] at h
      left; exact ⟨rfl, (Int.mul_eq_zero.1 h.symm).resolve_left (by omega)⟩
    · right; right; refine ⟨hx, ?_⟩
      have := Int.mul_pos (show 0 < D - k by omega) hx
      rcases Int.lt_or_le y 0 with hy | hy
      · exact hy
      · have := Int.mul_nonneg (Int.le_of_lt h0) hy; omega
  rcases key D k _ _ hk0 hk1 g1 with ⟨u1, u2⟩ | hu
  · have w1 : det a b c = 0 := det_line hcd u1 u2 (det_aba c d)
    have w2 : det a b d = 0 := det_line hcd u1 u2 (det_abb c d)
    rcases line_common hab hcd w1 w2 hp1 hp2 with h | h | h | h
    · exact .inl h
    · exact .inr (.inl h)
    · exact .inr (.inr (.inl h))
    · exact .inr (.inr (.inr (.inl h)))
  · rcases key E m _ _ hm0 hm1 g2 with ⟨u1, u2⟩ | hv
    · have w1 : det c d a = 0 := det_line hab u1 u2 (det_aba a b)
      have w2 : det c d b = 0 := det_line hab u1 u2 (det_abb a b)
      omega
    · exact .inr (.inr (.inr (.inr ⟨hv, hu⟩)))

/-- Where the ends of ab lie on both sides of the line of c and d, a point on that line that is on the line of ab is between c and d, if those lie on both sides of ab. -/
theorem on_of_sides {a b c d p : Pt} (hc : okP c = true) (hd : okP d = true) (hp : okP p = true) (z1 : det a b p = 0) (z2 : det c d p = 0) (hg : (det a b c < 0 ∧ 0 < det a b d) ∨ (0 < det a b c ∧ det a b d < 0)) : onS p c d = true := by
  have hdet : (d.1 - c.1) * (p.2 - c.2) = (d.2 - c.2) * (p.1 - c.1) := by unfold det at z2; omega
  have i1 : (p.1 - c.1) * (det a b c - det a b d) = (d.1 - c.1) * det a b c := by unfold det at *; grind
  have i2 : (p.2 - c.2) * (det a b c - det a b d) = (d.2 - c.2) * det a b c := by unfold det at *; grind
  have b1 : btw p.1 c.1 d.1 = true := by
    rw [btw_iff]
    rcases hg with ⟨x, y⟩ | ⟨x, y⟩
    · have := prop_btw (D := det a b d - det a b c) (e := - det a b c) (f := p.1 - c.1) (g := d.1 - c.1) (by omega) (by omega) (by omega) (by grind)
      omega
    · have := prop_btw (D := det a b c - det a b d) (e := det a b c) (f := p.1 - c.1) (g := d.1 - c.1) (by omega) (by omega) (by omega) i1
      omega
  have b2 : btw p.2 c.2 d.2 = true := by
    rw [btw_iff]
    rcases hg with ⟨x, y⟩ | ⟨x, y⟩
    · have := prop_btw (D := det a b d - det a b c) (e := - det a b c) (f := p.2 - c.2) (g := d.2 - c.2) (by omega) (by omega) (by omega) (by grind)
      omega
    · have := prop_btw (D := det a b c - det a b d) (e := det a b c) (f := p.2 - c.2) (g := d.2 - c.2) (by omega) (by omega) (by omega) i2
      omega
  exact onS_iff.2 ⟨hp, hc, hd, b1, b2, z2⟩

/-- A point on a segment, that is no end, cuts it: what meets the whole meets a part, and the other way round. -/
theorem Mt_split {a b p c d : Pt} (h1 : may a b = true) (h2 : may c d = true) (hp : onS p a b = true) (hpa : p ≠ a) (hpb : p ≠ b) : Mt a b c d ↔ Mt a p c d ∨ Mt p b c d := by
  obtain ⟨ka, kb, hab⟩ := may_iff.1 h1
  obtain ⟨kc, kd, hcd⟩ := may_iff.1 h2
  have kp : okP p = true := (onS_iff.1 hp).1
  have zp : det a b p = 0 := (onS_iff.1 hp).2.2.2.2.2
  obtain ⟨D, k, hD, hk0, hk1, e1, e2⟩ := onS_param' hp hab hpa hpb
  have lf := det_param e1 e2 c d
  have sl : ∀ x, (det a p x).sign = (det a b x).sign := fun x => sign_scale hD hk0 (det_param_l e1 e2 x)
  have sr : ∀ x, (det p b x).sign = (det a b x).sign := fun x => sign_scale hD (show 0 < D - k by omega) (det_param_r e1 e2 x)
  have sg : ∀ x y : Int, x.sign = y.sign → ((x < 0 ↔ y < 0) ∧ (0 < x ↔ 0 < y)) := by
    intro x y h
    constructor
    · rw [← sign_neg', ← sign_neg', h]
    · rw [← sign_pos, ← sign_pos, h]
  have hp' : onS p b a = true := by rw [onS_comm]; exact hp
  constructor
  · rintro (h | h | h | h | ⟨hg, hf⟩)
    · exact .inl (.inl h)
    · exact .inr (.inr (.inl h))
    · rcases onS_part hab hp h hpa hpb with q | q
      · exact .inl (.inr (.inr (.inl q)))
      · exact .inr (.inr (.inr (.inl q)))
    · rcases onS_part hab hp h hpa hpb with q | q
      · exact .inl (.inr (.inr (.inr (.inl q))))
      · exact .inr (.inr (.inr (.inr (.inl q))))
    · have gl := sg _ _ (sl c)
      have gl' := sg _ _ (sl d)
      have gr := sg _ _ (sr c)
      have gr' := sg _ _ (sr d)
      by_cases z : det c d p = 0
      · exact .inl (.inr (.inl (on_of_sides kc kd kp zp z hg)))
      · by_cases hs : (det c d a < 0 ∧ 0 < det c d p) ∨ (0 < det c d a ∧ det c d p < 0)
        · left; right; right; right; right
          refine ⟨?_, hs⟩
          rcases hg with ⟨x, y⟩ | ⟨x, y⟩
          · exact .inl ⟨gl.1.2 x, gl'.2.2 y⟩
          · exact .inr ⟨gl.2.2 x, gl'.1.2 y⟩
        · right; right; right; right; right
          refine ⟨?_, by omega⟩
          rcases hg with ⟨x, y⟩ | ⟨x, y⟩
          · exact .inl ⟨gr.1.2 x, gr'.2.2 y⟩
          · exact .inr ⟨gr.2.2 x, gr'.1.2 y⟩
  · have tl : ∀ x, onS x a p = true → onS x a b = true := fun x hx => onS_trans hab hp hx hpa
    have trr : ∀ x, onS x p b = true → onS x a b = true := fun x hx => by
      rw [onS_comm]; exact onS_trans (fun e => hab e.symm) hp' (by rw [onS_comm]; exact hx) hpb
    have gl := sg _ _ (sl c)
    have gl' := sg _ _ (sl d)
    have gr := sg _ _ (sr c)
    have gr' := sg _ _ (sr d)
    have comm : onS p c d = true → Mt a b c d := fun h => Mt_of_common h1 h2 hp h
    -- ends of unlike sides of one part are ends of unlike sides of the whole, or one of its ends lies on the line
    rintro ((h | h | h | h | ⟨hg, hf⟩) | (h | h | h | h | ⟨hg, hf⟩))
    · exact .inl h
    · exact comm h
    · exact .inr (.inr (.inl (tl _ h)))
    · exact .inr (.inr (.inr (.inl (tl _ h))))
    · right; right; right; right
      refine ⟨?_, ?_⟩
      · rcases hg with ⟨x, y⟩ | ⟨x, y⟩
        · exact .inl ⟨gl.1.1 x, gl'.2.1 y⟩
        · exact .inr ⟨gl.2.1 x, gl'.1.1 y⟩
      · rcases hf with ⟨x, y⟩ | ⟨x, y⟩
        · left; refine ⟨x, ?_⟩
          rcases Int.lt_or_le 0 (det c d b) with q | q
          · exact q
          · have w1 := Int.mul_neg_of_pos_of_neg (show 0 < D - k by omega) x
            have w2 := Int.mul_nonpos_of_nonneg_of_nonpos (Int.le_of_lt hk0) q
            have w3 := Int.mul_pos hD y
            omega
        · right; refine ⟨x, ?_⟩
          rcases Int.lt_or_le (det c d b) 0 with q | q
          · exact q
          · have w1 := Int.mul_pos (show 0 < D - k by omega) x
            have w2 := Int.mul_nonneg (Int.le_of_lt hk0) q
            have w3 := Int.mul_neg_of_pos_of_neg hD y
            omega
    · exact comm h
    · exact .inr (.inl h)
    · exact .inr (.inr (.inl (trr _ h)))
    · exact .inr (.inr (.inr (.inl (trr _ h))))
    · right; right; right; right
      refine ⟨?_, ?_⟩
      · rcases hg with ⟨x, y⟩ | ⟨x, y⟩
        · exact .inl ⟨gr.1.1 x, gr'.2.1 y⟩
        · exact .inr ⟨gr.2.1 x, gr'.1.1 y⟩
      · rcases hf with ⟨x, y⟩ | ⟨x, y⟩
        · left; refine ⟨?_, y⟩
          rcases Int.lt_or_le (det c d a) 0 with q | q
          · exact q
          · have w1 := Int.mul_neg_of_pos_of_neg hD x
            have w2 := Int.mul_nonneg (show 0 ≤ D - k by omega) q
            have w3 := Int.mul_pos hk0 y
            omega
        · right; refine ⟨?_, y⟩
          rcases Int.lt_or_le 0 (det c d a) with q | q
          · exact q
          · have w1 := Int.mul_pos hD x
            have w2 := Int.mul_nonpos_of_nonneg_of_nonpos (show 0 ≤ D - k by omega) q
            have w3 := Int.mul_neg_of_pos_of_neg hk0 y
            omega
end Go.Proofs.Geo
