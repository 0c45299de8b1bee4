/- Plain geometry of two segments: the parts of a cut segment. -/
import Derived.Test.YtcelipgokpnmfaaCrossPlain4
namespace Go.Proofs.Geo
theorem len_one {l : List Pt} {p : Pt} (hn : l.Nodup) (h : ∀ x, x ∈ l ↔ x = p) : l.length = 1 := by
  have := nodup_len_eq (m := [p]) hn (by simp) (fun x => by rw [h]; simp)
  simpa using this
theorem len_two {l : List Pt} {p q : Pt} (hp : p ∈ l) (hq : q ∈ l) (h : p ≠ q) : 2 ≤ l.length := by
  have := nodup_len_le [p, q] l (by simp [h]) (by intro x hx; simp at hx; rcases hx with rfl | rfl <;> assumption)
  simpa using this
theorem meets_over {a b c d p q : Pt} (h1 : may a b = true) (h2 : may c d = true) (hp : p ∈ ends a b c d) (hq : q ∈ ends a b c d) (h : p ≠ q) : meets a b c d = 3 := by
  have := len_two hp hq h
  rw [meets_of_len h1 h2 _ rfl, if_neg (by omega), if_neg (by omega)]
/-- Two that are between one another's ends are the same. -/
theorem btw_anti {p q b : Int} (h1 : btw q p b = true) (h2 : btw p q b = true) : p = q := by rw [btw_iff] at *; omega
theorem meets_cut {a b p : Pt} (h1 : may a b = true) (hp : onS p a b = true) (hpa : p ≠ a) (hpb : p ≠ b) :
    meets a p p b = 1 ∧ meets a p a b = 3 ∧ meets p b a b = 3 := by
  obtain ⟨ka, kb, hab⟩ := may_iff.1 h1
  obtain ⟨kp, _, _, p1, p2, p3⟩ := onS_iff.1 hp
  have m1 : may a p = true := may_iff.2 ⟨ka, kp, fun e => hpa e.symm⟩
  have m2 : may p b = true := may_iff.2 ⟨kp, kb, hpb⟩
  refine ⟨?_, ?_, ?_⟩
  · have hl : (ends a p p b).length = 1 := by
      refine len_one (p := p) (nodup_ends _ _ _ _) fun x => ?_
      rw [mem_ends m1 m2]
      constructor
      · rintro ⟨h, j, k⟩
        rcases h with rfl | rfl | rfl | rfl
        · exfalso
          obtain ⟨_, _, _, q1, q2, _⟩ := onS_iff.1 k
          exact hpa (Prod.ext (btw_anti (b := b.1) q1 p1) (btw_anti (b := b.2) q2 p2))
        · rfl
        · rfl
        · exfalso
          obtain ⟨_, _, _, q1, q2, _⟩ := onS_iff.1 j
          exact hpb (Prod.ext (btw_anti (b := a.1) (by rw [btw_comm]; exact q1) (by rw [btw_comm]; exact p1)) (btw_anti (b := a.2) (by rw [btw_comm]; exact q2) (by rw [btw_comm]; exact p2)))
      · rintro rfl
        exact ⟨.inr (.inl rfl), onS_right ka kp, onS_left kp kb⟩
    rw [meets_of_len m1 m2 _ hl]; rfl
  · refine meets_over (p := a) (q := p) m1 h1 ?_ ?_ (fun e => hpa e.symm)
    · exact (mem_ends m1 h1).2 ⟨.inl rfl, onS_left ka kp, onS_left ka kb⟩
    · exact (mem_ends m1 h1).2 ⟨.inr (.inl rfl), onS_right ka kp, hp⟩
  · refine meets_over (p := p) (q := b) m2 h1 ?_ ?_ hpb
    · exact (mem_ends m2 h1).2 ⟨.inl rfl, onS_left kp kb, hp⟩
    · exact (mem_ends m2 h1).2 ⟨.inr (.inl rfl), onS_right kp kb, onS_right ka kb⟩
end Go.Proofs.Geo
