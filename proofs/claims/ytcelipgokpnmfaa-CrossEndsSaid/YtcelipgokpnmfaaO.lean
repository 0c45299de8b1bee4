/- Slices of points that a call owns. -/
import Derived.Test.YtcelipgokpnmfaaW8
import Derived.Maps.AppendAt
import Derived.Laws.OwnMore
import Derived.Laws.Rows
namespace Go.Proofs.Ytcelipgokpnmfaa
open Go.RowKit Go.Proofs.Geo

/-- The cells of points. -/
def flat (l : List Pt) : List Value := l.flatMap fun p => [.int .i64 p.1, .int .i64 p.2]
theorem flat_snoc (l : List Pt) (p : Pt) : flat (l ++ [p]) = flat l ++ [.int .i64 p.1, .int .i64 p.2] := by simp [flat]
theorem flat_len (l : List Pt) : (flat l).length = l.length * 2 := by
  induction l with
  | nil => rfl
  | cons p l ih => simp [flat] at ih ⊢; omega
theorem flat_get (l : List Pt) (i : Nat) (h : i < l.length) : (flat l)[i * 2]? = some (.int .i64 (l[i]'h).1) ∧ (flat l)[i * 2 + 1]? = some (.int .i64 (l[i]'h).2) := by
  induction l generalizing i with
  | nil => simp at h
  | cons p l ih =>
    cases i with
    | zero => simp [flat]
    | succ i =>
      have := ih i (by simpa using h)
      have e1 : (i + 1) * 2 = i * 2 + 1 + 1 := by omega
      rw [e1]
      simpa [flat] using this

/-- A slice of points in memory of the call's own, from block B on. -/
def OwnP (w : World) (B : Nat) (v : Value) (l : List Pt) : Prop := w.ownsRow B 23 2 v l.length (flat l)
theorem OwnP.nil (w : World) (B : Nat) : OwnP w B (.slice none 0 0) [] := World.ownsRow_nil _ _ _ _
theorem OwnP.grown {w w' : World} {B : Nat} {v : Value} {l : List Pt} {row : Option Nat} (h : OwnP w B v l) (hg : w.grownBy w' row) (hne : v.ownBlock = none ∨ v.ownBlock ≠ row) : OwnP w' B v l := World.ownsRow.kept h hg hne
theorem grown_of_kp {w w' : World} (h : Kp w w') (row : Option Nat) : w.grownBy w' row := ⟨h.os, h.tape, h.output, h.size, fun k hk _ => h.block k hk⟩
theorem OwnP.kp {w w' : World} {B : Nat} {v : Value} {l : List Pt} (h : OwnP w B v l) (k : Kp w w') : OwnP w' B v l := by
  refine h.grown (grown_of_kp k none) ?_
  cases v.ownBlock
  · exact .inl rfl
  · exact .inr (by simp)
theorem OwnP.mono {w : World} {B B' : Nat} {v : Value} {l : List Pt} (h : OwnP w B v l) (hB : B' ≤ B) : OwnP w B' v l := by
  obtain ⟨h1, h2⟩ := h
  refine ⟨h1, ?_⟩
  rcases h2 with h2 | ⟨g, cap, cur, a, b, c⟩
  · exact .inl h2
  · exact .inr ⟨g, cap, cur, a, Nat.le_trans hB b, c⟩
theorem OwnP.rd {w : World} {B : Nat} {v : Value} {l : List Pt} (h : OwnP w B v l) (hl : l.length ≤ 10000000000000) : Rd w v l := by
  refine ⟨hl, ?_⟩
  have h' := h
  obtain ⟨h1, h2⟩ := h'
  rcases h2 with ⟨hv, hn⟩ | ⟨g, cap, cur, hv, h2⟩
  · exact .inl ⟨hv, List.eq_nil_of_length_eq_zero hn⟩
  · refine .inr ⟨g, 0, cap, hv, fun i hi => ?_⟩
    subst hv
    have hc := World.ownsRow.cells (w := w) h (g := g) rfl
    have hf := flat_get l i hi
    have c1 := hc _ _ hf.1
    have c2 := hc _ _ hf.2
    have e : ∀ j, (⟨g, 0, none⟩ : Addr).add j = ⟨g, 0 + j, none⟩ := fun j => by unfold Addr.add; split <;> simp_all
    rw [e] at c1 c2
    exact ⟨c1, c2⟩

theorem OwnP.snoc {w : World} {B : Nat} {v : Value} {l : List Pt} {x y : Int} (h : w.ownsRow B 23 2 v (l.length + 1) (flat l ++ [.int .i64 x, .int .i64 y])) : OwnP w B v (l ++ [(x, y)]) := by
  unfold OwnP; rw [flat_snoc, List.length_append]; exact h

theorem infoPt : (Try.prog.info? 23).map (fun i => (i.zero, i.size, i.bytes)) = some (some (.agg #[.int .i64 0, .int .i64 0]), 2, 16) := by kernel_rfl

/-- The cells of one new point. -/
theorem cell_two_pt (w : World) (x y : Int) (t : TypeId) : ∀ j u, [Value.int .i64 x, .int .i64 y][j]? = some u → (w.alloc (.cells #[.int .i64 x, .int .i64 y] t)).cell? ((⟨w.heap.size, 0, none⟩ : Addr).add j) = some u := by
  intro j u hj
  match j, hj with
  | 0, hj => simp at hj; subst hj; simp [Addr.add]
  | 1, hj => simp at hj; subst hj; simp [Addr.add]

theorem kp_of_grown {W w w' : World} {v : Value} {l : List Pt} (h : Kp W w) (hg : w.grownBy w' v.ownBlock) (ho : OwnP w W.heap.size v l) : Kp W w' :=
  Below.grown h hg (Below.size h) fun k hk => (World.ownsRow.lt ho k hk).1

/-- A call has handed back a slice of its own. -/
def OwnEnd (w : World) (l : List Pt) (e : Ending) (w' : World) : Prop := ∃ v, e = .returned v ∧ OwnP w' w.heap.size v l ∧ Kp w w'


theorem flat_append (l m : List Pt) : flat (l ++ m) = flat l ++ flat m := by simp [flat]
theorem OwnP.append {w : World} {B : Nat} {v : Value} {l m : List Pt} (h : w.ownsRow B 23 2 v (l.length + m.length) (flat l ++ flat m)) : OwnP w B v (l ++ m) := by
  unfold OwnP; rw [flat_append, List.length_append]; exact h
theorem add_cell (b off j : Nat) : (⟨b, off, none⟩ : Addr).add j = ⟨b, off + j, none⟩ := by unfold Addr.add; split <;> simp_all
/-- The cells that lie there, one by one. -/
theorem pts_cells {w : World} {b off : Nat} {l : List Pt} (h : PtsAt w b off l) : ∀ j u, (flat l)[j]? = some u → w.cell? ((⟨b, off, none⟩ : Addr).add j) = some u := by
  intro j u hj
  have hl : j < l.length * 2 := by rw [← flat_len]; exact (List.getElem?_eq_some_iff.1 hj).1
  have hi : j / 2 < l.length := by omega
  have hf := flat_get l (j / 2) hi
  have hp := h (j / 2) hi
  rw [add_cell]
  rcases Nat.mod_two_eq_zero_or_one j with e | e
  · have ej : j / 2 * 2 = j := by omega
    rw [ej] at hf hp
    rw [hj] at hf
    rw [hp.1, ← hf.1]
  · have ej : j / 2 * 2 + 1 = j := by omega
    have e2 : off + j / 2 * 2 + 1 = off + j := by omega
    rw [ej] at hf
    rw [e2] at hp
    rw [hj] at hf
    rw [hp.2, ← hf.2]
theorem flat_one (l : List Pt) : ∀ u ∈ flat l, u.oneCell' = true := by
  intro u hu
  simp only [flat, List.mem_flatMap] at hu
  obtain ⟨p, _, hu⟩ := hu
  simp at hu
  rcases hu with rfl | rfl <;> rfl
theorem pts_of_flat {w : World} {b off : Nat} {l : List Pt} (h : ∀ j u, (flat l)[j]? = some u → w.cell? ⟨b, off + j, none⟩ = some u) : PtsAt w b off l := by
  intro i hi
  have hf := flat_get l i hi
  exact ⟨h _ _ hf.1, h _ _ hf.2⟩
/-- A literal in a new block. -/
theorem OwnP.lit (w : World) (l : List Pt) (cs : Array Value) (hc : cs.toList = flat l) (hl : l.length ≤ 1000000) : OwnP (w.alloc (.cells cs 23)) w.heap.size (.slice (some ⟨w.heap.size, 0, none⟩) l.length l.length) l := by
  refine ⟨flat_len l, .inr ⟨w.heap.size, l.length, cs, rfl, Nat.le_refl _, heap_alloc_new w _, Nat.le_refl _, by unfold maxLen; omega, ?_, ?_⟩⟩
  · rw [← Array.length_toList, hc, flat_len]
  · rw [hc, List.take_of_length_le (by rw [flat_len]; omega)]
theorem ret_own {w w' : World} {l : List Pt} {e : Ending} (h : OwnEnd w l e w') (hl : l.length ≤ 10000000000000) : RetRd w l e w' := by
  obtain ⟨v, he, ho, hk⟩ := h
  exact ⟨v, he, ho.rd hl, hk⟩

/-- A slice, at whatever address, that reads as these points. -/
def RdC (w : World) (v : Value) (l : List Pt) : Prop :=
  l.length ≤ 10000000000000 ∧ ((v = .slice none 0 0 ∧ l = []) ∨ ∃ (ad : Addr) (cap : Nat), v = .slice (some ad) l.length cap ∧ ∀ j u, (flat l)[j]? = some u → w.cell? (ad.add j) = some u)
theorem Rd.toC {w : World} {v : Value} {l : List Pt} (h : Rd w v l) : RdC w v l := by
  obtain ⟨hl, h | ⟨b, off, cap, hv, h⟩⟩ := h
  · exact ⟨hl, .inl h⟩
  · exact ⟨hl, .inr ⟨⟨b, off, none⟩, cap, hv, pts_cells h⟩⟩
theorem RdC.kp {w w' : World} {v : Value} {l : List Pt} (h : RdC w v l) (k : Kp w w') : RdC w' v l := by
  obtain ⟨hl, h | ⟨ad, cap, hv, h⟩⟩ := h
  · exact ⟨hl, .inl h⟩
  · exact ⟨hl, .inr ⟨ad, cap, hv, fun j u hj => kp_cell k (h j u hj)⟩⟩
/-- Where there is a point, its address is a plain one. -/
theorem RdC.rd {w : World} {v : Value} {l : List Pt} (h : RdC w v l) (hl : l ≠ []) : Rd w v l := by
  obtain ⟨hb, ⟨_, h⟩ | ⟨ad, cap, hv, h⟩⟩ := h
  · exact absurd h hl
  · have hpos : 0 < l.length := List.length_pos_iff.2 hl
    have h0 := h 0 _ (by have := (flat_get l 0 hpos).1; rwa [Nat.zero_mul] at this)
    obtain ⟨b, off, spot⟩ := ad
    have hs : spot = none := by simpa [Addr.add] using World.cell?_spot h0
    subst hs
    exact ⟨hb, .inr ⟨b, off, cap, hv, pts_of_flat fun j u hj => by have := h j u hj; rwa [add_cell] at this⟩⟩
end Go.Proofs.Ytcelipgokpnmfaa
