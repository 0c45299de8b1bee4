/- Rows of ints in blocks of their own, known whole. -/
import Derived.Test.YtcmijedhjebpkaaOI
import Derived.Test.YtcmijedhjebpkaaCellD0
import Derived.Laws.Rows
import Derived.Sort.Grow
namespace Go.Proofs.Ytcmijedhjebpkaa
open Go.RowKit
set_option linter.unusedVariables false

def rowV (k : IntKind) (L : List Int) : Array Value := (L.map fun x => Value.int k x).toArray
theorem rowV_get (k : IntKind) (L : List Int) {i : Nat} (h : i < L.length) : (rowV k L)[i]? = some (.int k (L.getD i 0)) := by
  simp [rowV, h]
theorem rowV_set (k : IntKind) (L : List Int) (i : Nat) (v : Int) : (rowV k L).setIfInBounds i (.int k v) = rowV k (L.set i v) := by
  unfold rowV; rw [List.setIfInBounds_toArray, List.map_set]
/-- Block g is the row L. -/
def RowB (k : IntKind) (t : TypeId) (g : Nat) (L : List Int) (w : World) : Prop := w.heap[g]? = some (.cells (rowV k L) t (0, 0))
section
variable {k : IntKind} {t : TypeId} {g : Nat} {L : List Int} {w w' : World}
theorem RowB.lt (h : RowB k t g L w) : g < w.heap.size := by
  rcases Nat.lt_or_ge g w.heap.size with h1 | h1
  · exact h1
  · unfold RowB at h; rw [Array.getElem?_eq_none h1] at h; cases h
theorem RowB.cell (h : RowB k t g L w) {i : Nat} (hi : i < L.length) : w.cell? ⟨g, i, none⟩ = some (.int k (L.getD i 0)) := by
  rw [cell_of_row w g i (rowV k L) t (0, 0) h, rowV_get k L hi]
theorem RowB.froz (h : RowB k t g L w) (o : Nat) : w.frozen? ⟨g, o, none⟩ = false := by
  unfold RowB at h
  simp [World.frozen?, h]
theorem RowB.kp (h : RowB k t g L w) (hk : Kp w w') : RowB k t g L w' := (hk.block g h.lt).trans h
theorem RowB.drew (h : RowB k t g L w) : RowB k t g L w.drew := h
theorem RowB.new (w : World) : RowB k t w.heap.size L (w.alloc (.cells (rowV k L) t)) := heap_alloc_new w _
theorem RowB.set (h : RowB k t g L w) (i : Nat) (v : Int) : RowB k t g (L.set i v) (w.setCell ⟨g, i, none⟩ (.int k v)) := by
  unfold RowB at *
  rw [← rowV_set]
  simp [World.setCell, Array.getElem?_modify, h]
theorem RowB.off (h : RowB k t g L w) {a : Addr} (hne : g ≠ a.block) (u : Value) : RowB k t g L (w.setCell a u) := (Below.heap_setCell w a u g hne).trans h
theorem RowB.row (h : RowB k t g L w) : w.heap[g]? = some (.cells (rowV k L) t (0, 0)) := h
end
theorem RowB.intsAt {g : Nat} {L : List Int} {w : World} {t : TypeId} (h : RowB .i64 t g L w) : IntsAt w g 0 L := fun i hi => by
  rw [Nat.zero_add, h.cell hi, List.getD_eq_getElem?_getD, List.getElem?_eq_getElem hi]; rfl
theorem RowB.rdI {g : Nat} {L : List Int} {w : World} {t : TypeId} (h : RowB .i64 t g L w) (hl : L.length ≤ 20000000000000) (hi : ∀ x ∈ L, I64 x) (cap : Nat) : RdI w (.slice (some ⟨g, 0, none⟩) L.length cap) L := rdI_of hl hi h.intsAt
theorem RowB.own {g B : Nat} {L : List Int} {w : World} (h : RowB .i64 3 g L w) (hB : B ≤ g) (hl : L.length ≤ 1000000) : OwnI w B (.slice (some ⟨g, 0, none⟩) L.length L.length) L := by
  refine ⟨by rw [intsV_len, Nat.mul_one], .inr ⟨g, L.length, rowV .i64 L, rfl, hB, h, Nat.le_refl _, by unfold maxLen; omega, ?_, ?_⟩⟩
  · simp [rowV]
  · rw [Nat.mul_one, List.take_of_length_le (by simp [rowV])]; simp [rowV, intsV]
/-- A made slice of ints, of uint64s: zeros. -/
theorem rowV_zero (k : IntKind) (n : Nat) : rowV k (List.replicate n 0) = Array.replicate n (.int k 0) := by
  unfold rowV; rw [List.map_replicate]; rfl
/-- The row behind a sort: the same block holds the new list. -/
theorem RowB.sorted {g : Nat} {L : List Int} {t : TypeId} {w : World} (h : RowB .i64 t g L w) (n : Nat) (d : Array Int) (hd : d.size = L.length) (os : Array Obj) :
    RowB .i64 t g d.toList (Sort.grow (Sort.putRow (Value.int .i64) (Sort.ahead w n) g 0 d) os) := by
  have hg := h.lt
  have h1 : (Sort.putRow (Value.int .i64) (Sort.ahead w n) g 0 d).heap[g]? = some (.cells (Sort.putCells (Value.int .i64) 0 d (rowV .i64 L)) t (0, 0)) := by
    unfold Sort.putRow Sort.mapBlock Sort.ahead
    simp only [Array.getElem?_modify, if_true]
    rw [show w.heap[g]? = some (.cells (rowV .i64 L) t (0, 0)) from h]
    rfl
  unfold RowB
  rw [Sort.heap_grow_old _ _ (by unfold Sort.putRow Sort.mapBlock Sort.ahead; simpa using hg), h1]
  congr 2
  apply Array.ext_getElem?
  intro j
  unfold Sort.putCells
  rw [Array.getElem?_mapIdx]
  by_cases hj : j < L.length
  · rw [rowV_get _ _ hj]
    simp only [Option.map_some, Nat.zero_le, Nat.zero_add, true_and, Nat.sub_zero]
    rw [if_pos (by omega), rowV_get _ _ (by simpa [hd] using hj), getElem!_pos d j (by omega), List.getD_eq_getElem?_getD, List.getElem?_eq_getElem (by simpa [hd] using hj)]
    simp
  · have e1 : (rowV .i64 L)[j]? = none := by simp [rowV]; omega
    have e2 : (rowV .i64 d.toList)[j]? = none := by simp [rowV]; omega
    rw [e1, e2]; rfl
end Go.Proofs.Ytcmijedhjebpkaa
