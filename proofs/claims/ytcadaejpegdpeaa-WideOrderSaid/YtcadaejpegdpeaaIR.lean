/- Rows of ints that a call writes. -/
import Derived.Test.YtcadaejpegdpeaaOI
namespace Go.Proofs.Ytcadaejpegdpeaa
open Go.RowKit Go.Proofs.Geo

theorem intsV_set (l : List Int) (i : Nat) (x : Int) : intsV (l.set i x) = (intsV l).set i (.int .i64 x) := by simp [intsV, List.map_set]
theorem add_cellI (b off j : Nat) : (⟨b, off, none⟩ : Addr).add j = ⟨b, off + j, none⟩ := by unfold Addr.add; split <;> simp_all
theorem row_setI {wr : World} {g o : Nat} {cur : Array Value} {t : TypeId} (u : Value) (h : wr.heap[g]? = some (.cells cur t (0, 0))) : (wr.setCell ⟨g, o, none⟩ u).heap[g]? = some (.cells (cur.setIfInBounds o u) t (0, 0)) := by
  simp [World.setCell, Array.getElem?_modify, h]
/-- A block of the call's own, that is being written, of which the first cells are these ints. -/
structure RowI (w : World) (g S : Nat) (L : List Int) (wr : World) : Prop where
  row : ∃ cur : Array Value, wr.heap[g]? = some (.cells cur 3 (0, 0)) ∧ cur.size = S ∧ cur.toList.take L.length = intsV L
  lo : w.heap.size ≤ g
  k : Kp w wr
theorem RowI.kp {w wr w' : World} {g S : Nat} {L : List Int} (h : RowI w g S L wr) (k : Kp wr w') : RowI w g S L w' := by
  obtain ⟨⟨cur, h1, h2, h3⟩, h4, h5⟩ := h
  exact ⟨⟨cur, (k.block g (Array.getElem?_eq_some_iff.1 h1).1).trans h1, h2, h3⟩, h4, kp_trans h5 k⟩
theorem RowI.lt {w wr : World} {g S : Nat} {L : List Int} (h : RowI w g S L wr) : g < wr.heap.size := by
  obtain ⟨⟨cur, h1, _⟩, _⟩ := h; exact (Array.getElem?_eq_some_iff.1 h1).1
theorem RowI.cells {w wr : World} {g S : Nat} {L : List Int} (h : RowI w g S L wr) : IntsAt wr g 0 L := by
  obtain ⟨⟨cur, h1, h2, h3⟩, _⟩ := h
  intro i hi
  have hj : (intsV L)[i]? = some (.int .i64 L[i]) := by simp [intsV, hi]
  rw [← h3, List.getElem?_take] at hj
  rw [if_pos hi] at hj
  rw [Nat.zero_add, cell_of_row wr g i cur _ (0, 0) h1, ← hj, Array.getElem?_toList]
theorem RowI.frozen {w wr : World} {g S : Nat} {L : List Int} (h : RowI w g S L wr) (o : Nat) : wr.frozen? ⟨g, o, none⟩ = false := by
  obtain ⟨⟨cur, h1, _⟩, _⟩ := h
  simp [World.frozen?, h1]
theorem RowI.set {w wr : World} {g S : Nat} {L : List Int} (h : RowI w g S L wr) (i : Nat) (x : Int) : RowI w g S (L.set i x) (wr.setCell ⟨g, i, none⟩ (.int .i64 x)) := by
  obtain ⟨⟨cur, h1, h2, h3⟩, h4, h5⟩ := h
  refine ⟨⟨cur.setIfInBounds i (.int .i64 x), row_setI _ h1, by simp [h2], ?_⟩, h4, kp_set h5 h4 _⟩
  rw [intsV_set, ← h3, List.length_set]
  simp [List.take_set]
theorem row_of_ownI {w wr : World} {v : Value} {l : List Int} (h : OwnI wr w.heap.size v l) (k : Kp w wr) : (v = .slice none 0 0 ∧ l = []) ∨ ∃ g cap S, v = .slice (some ⟨g, 0, none⟩) l.length cap ∧ RowI w g S l wr ∧ l.length ≤ cap ∧ cap ≤ maxLen ∧ S = cap * 1 := by
  obtain ⟨h1, ⟨hv, hn⟩ | ⟨g, cap, cur, hv, hb, hh, hc1, hc2, hs, ht⟩⟩ := h
  · exact .inl ⟨hv, List.eq_nil_of_length_eq_zero hn⟩
  · refine .inr ⟨g, cap, cap * 1, hv, ⟨⟨cur, hh, hs, by rwa [Nat.mul_one] at ht⟩, hb, k⟩, hc1, hc2, rfl⟩
theorem own_of_rowI {w wr : World} {g cap S : Nat} {l : List Int} (h : RowI w g S l wr) (h1 : l.length ≤ cap) (h2 : cap ≤ maxLen) (hs : S = cap * 1) : OwnI wr w.heap.size (.slice (some ⟨g, 0, none⟩) l.length cap) l := by
  obtain ⟨⟨cur, hh, hc, ht⟩, hB, _⟩ := h
  exact ⟨by rw [intsV_len, Nat.mul_one], .inr ⟨g, cap, cur, rfl, hB, hh, h1, h2, hc.trans hs, by rwa [Nat.mul_one]⟩⟩

/-- Two change places. -/
theorem sum_setI (l : List Int) (i : Nat) (h : i < l.length) (x : Int) : (l.set i x).sum = l.sum + x - l[i] := by
  induction l generalizing i with
  | nil => simp at h
  | cons a l ih =>
    cases i with
    | zero => simp; omega
    | succ i => have := ih i (by simpa using h); simp [this]; omega
theorem sum_swap (l : List Int) (p q : Nat) (hp : p < l.length) (hq : q < l.length) : ((l.set p l[q]).set q l[p]).sum = l.sum := by
  rw [sum_setI _ q (by simpa using hq), sum_setI _ p hp, List.getElem_set]
  split
  · rename_i e; subst e; omega
  · omega
theorem i64_set {l : List Int} (h : ∀ x ∈ l, I64 x) (i : Nat) {x : Int} (hx : I64 x) : ∀ y ∈ l.set i x, I64 y := by
  intro y hy
  rcases List.mem_or_eq_of_mem_set hy with k | k
  · exact h y k
  · exact k ▸ hx
end Go.Proofs.Ytcadaejpegdpeaa
