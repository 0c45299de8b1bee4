/- What a call keeps: facts on cells and sizes. -/
import Derived.Test.YtcelipgokpnmfaaW6
import Derived.Test.YtcelipgokpnmfaaK0
namespace Go.Proofs.Ytcelipgokpnmfaa
open Go.RowKit Go.Proofs.Geo

/-- A slice that reads as a list of points. -/
def Rd (w : World) (v : Value) (l : List Pt) : Prop := l.length ≤ 10000000000000 ∧ ((v = .slice none 0 0 ∧ l = []) ∨ ∃ b off cap, v = .slice (some ⟨b, off, none⟩) l.length cap ∧ PtsAt w b off l)
theorem Rd.kp {w w' : World} {v : Value} {l : List Pt} (h : Rd w v l) (k : Kp w w') : Rd w' v l := by
  obtain ⟨hl, h | ⟨b, off, cap, hv, h⟩⟩ := h
  · exact ⟨hl, .inl h⟩
  · exact ⟨hl, .inr ⟨b, off, cap, hv, h.kp k⟩⟩
theorem rd_lt {w : World} {v : Value} {l : List Pt} (h : Rd w v l) : v = .slice none 0 0 ∧ l = [] ∨ ∃ b off cap, v = .slice (some ⟨b, off, none⟩) l.length cap ∧ PtsAt w b off l := h.2
/-- A call hands back a slice that reads as these points; what was there is as it was. -/
def RetRd (w : World) (l : List Pt) (e : Ending) (w' : World) : Prop := ∃ v, e = .returned v ∧ Rd w' v l ∧ Kp w w'
theorem ptsAt_nil (w : World) (b off : Nat) : PtsAt w b off [] := fun i hi => by simp at hi
theorem PtsAt.cons {w : World} {b off : Nat} {x y : Int} {l : List Pt} (h0 : w.cell? ⟨b, off, none⟩ = some (.int .i64 x)) (h1 : w.cell? ⟨b, off + 1, none⟩ = some (.int .i64 y)) (h : PtsAt w b (off + 2) l) : PtsAt w b off ((x, y) :: l) := by
  intro i hi
  cases i with
  | zero => simp only [Nat.zero_mul, Nat.add_zero, List.getElem_cons_zero]; exact ⟨h0, h1⟩
  | succ i =>
    have := h i (by simpa using hi)
    rw [show off + (i + 1) * 2 = off + 2 + i * 2 by omega]
    exact this
theorem rd_of {w : World} {b off cap : Nat} {l : List Pt} (hl : l.length ≤ 10000000000000) (h : PtsAt w b off l) : Rd w (.slice (some ⟨b, off, none⟩) l.length cap) l := ⟨hl, .inr ⟨b, off, cap, rfl, h⟩⟩
end Go.Proofs.Ytcelipgokpnmfaa
