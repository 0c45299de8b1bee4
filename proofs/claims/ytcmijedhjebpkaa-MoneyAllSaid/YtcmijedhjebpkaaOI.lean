/- Slices of ints that a call owns. -/
import Derived.Test.YtcmijedhjebpkaaAI
import Derived.Maps.AppendAt
import Derived.Laws.OwnMore
import Derived.Laws.AppendOwnNone
import Derived.Laws.Rows
namespace Go.Proofs.Ytcmijedhjebpkaa
open Go.RowKit Go.Proofs.Geo

theorem infoInt8 : (Try.prog.info? 3).map (fun i => (i.zero, i.size, i.bytes)) = some (some (.int .i64 0), 1, 8) := by kernel_rfl
def intsV (l : List Int) : List Value := l.map (Value.int .i64)
theorem intsV_len (l : List Int) : (intsV l).length = l.length := by simp [intsV]
theorem intsV_one (l : List Int) : ∀ u ∈ intsV l, u.oneCell' = true := by
  intro u hu; obtain ⟨x, _, rfl⟩ := List.mem_map.1 hu; rfl
/-- A slice of ints in memory of the call's own, from block B on. -/
def OwnI (w : World) (B : Nat) (v : Value) (l : List Int) : Prop := w.ownsRow B 3 1 v l.length (intsV l)
theorem OwnI.kp {w w' : World} {B : Nat} {v : Value} {l : List Int} (h : OwnI w B v l) (k : Kp w w') : OwnI w' B v l := by
  refine World.ownsRow.kept h (row := none) ⟨k.os, k.tape, k.output, k.size, fun i hi _ => k.block i hi⟩ ?_
  cases v.ownBlock
  · exact .inl rfl
  · exact .inr (by simp)
theorem OwnI.rd {w : World} {B : Nat} {v : Value} {l : List Int} (h : OwnI w B v l) (hl : l.length ≤ 20000000000000) (hi : ∀ x ∈ l, I64 x) : RdI w v l := by
  have h' := h
  obtain ⟨h1, h2⟩ := h'
  rcases h2 with ⟨hv, hn⟩ | ⟨g, cap, cur, hv, h2⟩
  · exact ⟨hl, hi, .inl ⟨hv, List.eq_nil_of_length_eq_zero hn⟩⟩
  · subst hv
    have hc := World.ownsRow.cells (w := w) h (g := g) rfl
    refine rdI_of hl hi fun i h => ?_
    have e : (⟨g, 0, none⟩ : Addr).add i = ⟨g, 0 + i, none⟩ := by unfold Addr.add; split <;> simp_all
    have := hc i (.int .i64 l[i]) (by simp [intsV, h])
    rwa [e] at this
theorem OwnI.append {w : World} {B : Nat} {v : Value} {l m : List Int} (h : w.ownsRow B 3 1 v (l.length + m.length) (intsV l ++ intsV m)) : OwnI w B v (l ++ m) := by
  unfold OwnI; rw [List.length_append]; simpa [intsV] using h
theorem kp_grown_ownI {W w w' : World} {v : Value} {n : Nat} {xs : List Value} (h : Kp W w) (hg : w.grownBy w' v.ownBlock) (ho : w.ownsRow W.heap.size 3 1 v n xs) : Kp W w' :=
  Below.grown h hg (Below.size h) fun k hk => (World.ownsRow.lt ho k hk).1
theorem cells_kpI {w w' : World} {ad : Addr} {l : List Int} (h : ∀ i, i < l.length → w.cell? (ad.add i) = some (.int .i64 (l.getD i 0))) (k : Kp w w') : ∀ j u, (intsV l)[j]? = some u → w'.cell? (ad.add j) = some u := fun j u hj => by
  have hl : j < l.length := by have := (List.getElem?_eq_some_iff.1 hj).1; rwa [intsV_len] at this
  have := kp_cell k (h j hl)
  rw [this, ← hj]; simp [intsV, hl]
theorem OwnI.lit (w : World) (l : List Int) (cs : Array Value) (hc : cs.toList = intsV l) (hl : l.length ≤ 1000000) : OwnI (w.alloc (.cells cs 3)) w.heap.size (.slice (some ⟨w.heap.size, 0, none⟩) l.length l.length) l := by
  refine ⟨by rw [intsV_len, Nat.mul_one], .inr ⟨w.heap.size, l.length, cs, rfl, Nat.le_refl _, heap_alloc_new w _, Nat.le_refl _, by unfold maxLen; omega, ?_, ?_⟩⟩
  · rw [← Array.length_toList, hc, intsV_len, Nat.mul_one]
  · rw [hc, List.take_of_length_le (by rw [intsV_len]; omega)]
end Go.Proofs.Ytcmijedhjebpkaa
