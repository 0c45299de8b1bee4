/- What a call keeps: facts on cells and sizes. -/
import Derived.Test.YtcmijedhjebpkaaW0
import Derived.WalkSmall
namespace Go.Proofs.Ytcmijedhjebpkaa
open Go.RowKit Go.Proofs.Geo

theorem kp_all {w w' : World} (h : Kp w w') : (∀ b o, b < w.heap.size → w'.cell? ⟨b, o, none⟩ = w.cell? ⟨b, o, none⟩) ∧ (∀ b o, b < w.heap.size → w'.frozen? ⟨b, o, none⟩ = w.frozen? ⟨b, o, none⟩) ∧ w.heap.size ≤ w'.heap.size :=
  ⟨fun b o k => Below.cell (p := ⟨b, o, none⟩) h k, fun b o k => Below.frozen (p := ⟨b, o, none⟩) h k, Below.size h⟩

/-- Old blocks lie below the new world's end. -/
theorem kp_lt2 {w W w' : World} (h : Kp W w') (hs : w.heap.size + 2 ≤ W.heap.size) : w.heap.size < w'.heap.size ∧ w.heap.size + 1 < w'.heap.size := by
  have := Below.size h; omega
theorem kp_lt3 {w W w' : World} (h : Kp W w') (hs : w.heap.size + 3 ≤ W.heap.size) : w.heap.size < w'.heap.size ∧ w.heap.size + 1 < w'.heap.size ∧ w.heap.size + 1 + 1 < w'.heap.size := by
  have := Below.size h; omega
theorem kp_lt4 {w W w' : World} (h : Kp W w') (hs : w.heap.size + 4 ≤ W.heap.size) : w.heap.size < w'.heap.size ∧ w.heap.size + 1 < w'.heap.size ∧ w.heap.size + 1 + 1 < w'.heap.size ∧ w.heap.size + 1 + 1 + 1 < w'.heap.size := by
  have := Below.size h; omega

theorem kp_drewN {W w : World} (h : Kp W w) (n : Nat) : Kp W (w.drewN n) := below_drewN h n
theorem kp_set {W w : World} (h : Kp W w) {a : Addr} (ha : W.heap.size ≤ a.block) (u : Value) : Kp W (w.setCell a u) := Below.setCell h ha u
theorem cell_a {w : World} {a : Addr} {v : Value} (h : w.cell? a = some v) (o : Obj) : (w.alloc o).cell? a = some v := kp_cell (kp_alloc (kp_refl w) o) h
theorem cell_lt {w : World} {a : Addr} {v : Value} (hc : w.cell? a = some v) : a.block < w.heap.size := by
  rcases Nat.lt_or_ge a.block w.heap.size with k | k
  · exact k
  · exfalso; unfold World.cell? at hc; rw [Array.getElem?_eq_none k] at hc; cases hc
/-- A cell that may be written stays one. -/
theorem kp_froz {W w : World} (h : Kp W w) {a : Addr} {v : Value} (hc : W.cell? a = some v) (hf : W.frozen? a = false) : w.frozen? a = false :=
  (Below.frozen h (cell_lt hc)).trans hf
theorem froz_a {w : World} {a : Addr} {v : Value} (hc : w.cell? a = some v) (hf : w.frozen? a = false) (o : Obj) : (w.alloc o).frozen? a = false := kp_froz (kp_alloc (kp_refl w) o) hc hf
end Go.Proofs.Ytcmijedhjebpkaa
