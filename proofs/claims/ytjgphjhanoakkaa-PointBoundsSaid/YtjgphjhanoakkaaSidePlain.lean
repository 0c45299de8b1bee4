/- Plain laws of a box and its sides; no program in sight. -/
import Derived.Test.YtjgphjhanoakkaaBndPlain
import Derived.Test.YtjgphjhanoakkaaInsidePlain2
namespace Go.Proofs.Geo

abbrev Bx := Int × Int × Int × Int
def inX (p : Pt) (b : Bx) : Bool := inBox p b.1 b.2.1 b.2.2.1 b.2.2.2
/-- A box that is less by a row or a column on one side. -/
def sideB (b : Bx) : Nat → Bx
  | 0 => (b.1 + 1, b.2.1, b.2.2.1, b.2.2.2)
  | 1 => (b.1, b.2.1 + 1, b.2.2.1, b.2.2.2)
  | 2 => (b.1, b.2.1, b.2.2.1 - 1, b.2.2.2)
  | _ => (b.1, b.2.1, b.2.2.1, b.2.2.2 - 1)
theorem mn_at (c : Pt → Int) (a : Pt) (m : List Pt) : ∃ p ∈ a :: m, mnC c (c a) (a :: m) = c p := by
  rcases mnC_mem c (c a) (a :: m) with h | h
  · exact ⟨a, by simp, h⟩
  · exact h
theorem mx_at (c : Pt → Int) (a : Pt) (m : List Pt) : ∃ p ∈ a :: m, mxC c (c a) (a :: m) = c p := by
  rcases mxC_mem c (c a) (a :: m) with h | h
  · exact ⟨a, by simp, h⟩
  · exact h
theorem bnd_sides {l : List Pt} {lx ly hx hy : Int} (hb : bndOk l = true) (e : bndB l = (lx, ly, hx, hy)) :
    (∀ p ∈ l, inBox p lx ly hx hy = true) ∧ (∀ n, n < 4 → ∃ p ∈ l, inX p (sideB (lx, ly, hx, hy) n) = false) ∧ (-1099511627775 ≤ lx ∧ lx < hx ∧ hx ≤ 1099511627776) ∧ -1099511627775 ≤ ly ∧ ly < hy ∧ hy ≤ 1099511627776 := by
  cases l with
  | nil => simp [bndOk] at hb
  | cons a m =>
    have hall : (a :: m).all okP = true := by simpa [bndOk] using hb
    rw [bndB_ok hall] at e
    simp only [Prod.mk.injEq] at e
    obtain ⟨e1, e2, e3, e4⟩ := e
    have g1 := (mnC_le Prod.fst a.1 (a :: m)).2
    have g2 := (mnC_le Prod.snd a.2 (a :: m)).2
    have g3 := (mxC_le Prod.fst a.1 (a :: m)).2
    have g4 := (mxC_le Prod.snd a.2 (a :: m)).2
    obtain ⟨p1, m1, q1⟩ := mn_at Prod.fst a m
    obtain ⟨p2, m2, q2⟩ := mn_at Prod.snd a m
    obtain ⟨p3, m3, q3⟩ := mx_at Prod.fst a m
    obtain ⟨p4, m4, q4⟩ := mx_at Prod.snd a m
    have r1 := bnd_ok_range hall m1
    have r2 := bnd_ok_range hall m2
    have r3 := bnd_ok_range hall m3
    have r4 := bnd_ok_range hall m4
    have s1 := g3 p1 m1
    have s2 := g4 p2 m2
    refine ⟨fun p hp => ?_, fun n hn => ?_, by omega, by omega⟩
    · have h1 := g1 p hp; have h2 := g2 p hp; have h3 := g3 p hp; have h4 := g4 p hp
      simp only [inBox, Bool.and_eq_true, decide_eq_true_eq]; omega
    · match n, hn with
      | 0, _ => exact ⟨p1, m1, by rw [← Bool.not_eq_true]; simp only [inX, sideB, inBox, Bool.and_eq_true, decide_eq_true_eq]; omega⟩
      | 1, _ => exact ⟨p2, m2, by rw [← Bool.not_eq_true]; simp only [inX, sideB, inBox, Bool.and_eq_true, decide_eq_true_eq]; omega⟩
      | 2, _ => exact ⟨p3, m3, by rw [← Bool.not_eq_true]; simp only [inX, sideB, inBox, Bool.and_eq_true, decide_eq_true_eq]; omega⟩
      | 3, _ => exact ⟨p4, m4, by rw [← Bool.not_eq_true]; simp only [inX, sideB, inBox, Bool.and_eq_true, decide_eq_true_eq]; omega⟩
/-- Is one of the first of them out of a box? -/
def lostB (b : Bx) (l : List Pt) (j : Nat) : Bool := (l.take j).any fun p => !inX p b
theorem lost_snoc (b : Bx) (l : List Pt) (j : Nat) (h : j < l.length) : lostB b l (j + 1) = (lostB b l j || !inX l[j] b) := by
  unfold lostB
  rw [List.take_succ_eq_append_getElem h, List.any_append]
  simp
theorem lost_all {b : Bx} {l : List Pt} (h : ∃ p ∈ l, inX p b = false) : lostB b l l.length = true := by
  obtain ⟨p, hp, he⟩ := h
  unfold lostB
  rw [List.take_length]
  exact List.any_eq_true.2 ⟨p, hp, by rw [he]; rfl⟩

end Go.Proofs.Geo
