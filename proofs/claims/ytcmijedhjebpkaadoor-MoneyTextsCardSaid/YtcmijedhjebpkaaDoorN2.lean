/- Contracts of numbers in digits: carried. -/
import Derived.Test.YtcmijedhjebpkaaDoorN1
import Derived.IntWalk
import Derived.BigRegion
import Derived.RegionTactic
import Derived.Deep.DeepCutAuto
namespace Go.Proofs.YtcmijedhjebpkaaDoor
open Go.RowKit Go.Proofs.Num
theorem hv_carry (E : List Int) (k : Nat) (h : k + 1 < E.length) : hv ((E.set (k + 1) (E[k + 1] + E[k] / 65536)).set k (E[k] % 65536)) = hv E := by
  induction E generalizing k with
  | nil => simp at h
  | cons d l ih =>
    cases k with
    | zero =>
      cases l with
      | nil => simp at h
      | cons e l =>
        simp only [Nat.zero_add, List.getElem_cons_succ, List.getElem_cons_zero, List.set_cons_succ, List.set_cons_zero, hv]
        omega
    | succ k =>
      simp only [List.getElem_cons_succ, List.set_cons_succ, hv]
      rw [ih k (by simpa using h)]

/-- The digits while the first k are carried. -/
def Carr (V : Int) (k : Nat) (E : List Int) : Prop :=
  E.length = 12 ∧ hv E = V ∧ ∀ j (h : j < E.length), 0 ≤ E[j] ∧ (j < k → E[j] < 65536) ∧ (j = k → E[j] ≤ 4398046511104) ∧ (k < j → E[j] ≤ 2199023255552)
theorem Carr.step {V : Int} {k : Nat} {E : List Int} (h : Carr V k E) (hk : k < 11) : Carr V (k + 1) ((E.set (k + 1) (E[k + 1]'(by have := h.1; omega) + E[k]'(by have := h.1; omega) / 65536)).set k (E[k]'(by have := h.1; omega) % 65536)) := by
  obtain ⟨hl, hh, hb⟩ := h
  refine ⟨by simp [hl], by rw [hv_carry E k (by omega), hh], fun j hj => ?_⟩
  have hj' : j < E.length := by simpa using hj
  rw [List.getElem_set, List.getElem_set]
  have b0 := hb k (by omega)
  have b1 := hb (k + 1) (by omega)
  have b2 := hb j hj'
  by_cases e1 : k = j
  · subst e1; rw [if_pos rfl]; omega
  · rw [if_neg e1]
    by_cases e2 : k + 1 = j
    · subst e2; rw [if_pos rfl]; omega
    · rw [if_neg e2]; omega
theorem twelve {E : List Int} (h : E.length = 12) : ∃ e0 e1 e2 e3 e4 e5 e6 e7 e8 e9 e10 e11, E = [e0, e1, e2, e3, e4, e5, e6, e7, e8, e9, e10, e11] := by
  match E, h with
  | [e0, e1, e2, e3, e4, e5, e6, e7, e8, e9, e10, e11], _ => exact ⟨e0, e1, e2, e3, e4, e5, e6, e7, e8, e9, e10, e11, rfl⟩

theorem Carr.done {V : Int} {E : List Int} (h : Carr V 11 E) (ht : V < top12) : E = d12 V := by
  obtain ⟨hl, hh, hb⟩ := h
  obtain ⟨e0, e1, e2, e3, e4, e5, e6, e7, e8, e9, e10, e11, rfl⟩ := twelve hl
  have hin : ∀ d ∈ [e0, e1, e2, e3, e4, e5, e6, e7, e8, e9, e10, e11], 0 ≤ d ∧ d < 65536 := by
    have b := fun j (hj : j < 12) => hb j (by simpa using hj)
    have b0 := b 0 (by omega)
    have b1 := b 1 (by omega)
    have b2 := b 2 (by omega)
    have b3 := b 3 (by omega)
    have b4 := b 4 (by omega)
    have b5 := b 5 (by omega)
    have b6 := b 6 (by omega)
    have b7 := b 7 (by omega)
    have b8 := b 8 (by omega)
    have b9 := b 9 (by omega)
    have b10 := b 10 (by omega)
    have b11 := b 11 (by omega)
    simp at b0 b1 b2 b3 b4 b5 b6 b7 b8 b9 b10 b11
    rw [hv12] at hh
    unfold top12 at ht
    intro d hd
    simp only [List.mem_cons, List.not_mem_nil, or_false] at hd
    omega
  have g := fun j (hj : j < 12) => dg_of _ hin j (by simpa using hj)
  rw [hh] at g
  have g0 := g 0 (by omega)
  have g1 := g 1 (by omega)
  have g2 := g 2 (by omega)
  have g3 := g 3 (by omega)
  have g4 := g 4 (by omega)
  have g5 := g 5 (by omega)
  have g6 := g 6 (by omega)
  have g7 := g 7 (by omega)
  have g8 := g 8 (by omega)
  have g9 := g 9 (by omega)
  have g10 := g 10 (by omega)
  have g11 := g 11 (by omega)
  simp at g0 g1 g2 g3 g4 g5 g6 g7 g8 g9 g10 g11
  show _ = [dg V 0, dg V 1, dg V 2, dg V 3, dg V 4, dg V 5, dg V 6, dg V 7, dg V 8, dg V 9, dg V 10, dg V 11]
  rw [← g0, ← g1, ← g2, ← g3, ← g4, ← g5, ← g6, ← g7, ← g8, ← g9, ← g10, ← g11]

def numZ : List Int := [0, 0, 0, 0, 0, 0, 0, 0, 0, 0, 0, 0]
theorem d12_length (V : Int) : (d12 V).length = 12 := by simp [d12]

end Go.Proofs.YtcmijedhjebpkaaDoor
