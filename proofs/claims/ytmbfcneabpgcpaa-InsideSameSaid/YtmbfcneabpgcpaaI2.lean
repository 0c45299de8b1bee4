/- A range over a function whose iterator keeps state of its own in cells, and whose body never leaves: one law. -/
import Derived.Test.YtmbfcneabpgcpaaProg
import Derived.RangeFuncNested
import Derived.RangeFuncBound
import Derived.RangeFuncCalls
import Derived.RangeFuncLeaves
import Derived.RangeFuncBox
import Derived.Shelf.Abstract
import Derived.WalkKit
import Derived.OwnWalkIn
import Derived.TacticsInMore
import Derived.LoopNIn
import Derived.LoopIn
namespace Go.Proofs.Ytmbfcneabpgcpaa
open Go.RowKit

/-- All that lay there lies as it lay, but for block r. -/
structure KeepBut (r : Nat) (A B : World) : Prop where
  size : A.heap.size ≤ B.heap.size
  same : ∀ k, k < A.heap.size → k ≠ r → B.heap[k]? = A.heap[k]?
/-- All cells that lay there, but for block r. -/
structure KeepCells (r : Nat) (A B : World) : Prop where
  size : A.heap.size ≤ B.heap.size
  same : ∀ k o, k ≠ r → A.heap[k]? = some o → o.isCells = true → B.heap[k]? = some o
theorem KeepBut.refl (r : Nat) (A : World) : KeepBut r A A := ⟨Nat.le_refl _, fun _ _ _ => rfl⟩
theorem KeepBut.trans {r : Nat} {A B C : World} (h : KeepBut r A B) (k : KeepBut r B C) : KeepBut r A C :=
  ⟨Nat.le_trans h.size k.size, fun i hi hr => (k.same i (Nat.lt_of_lt_of_le hi h.size) hr).trans (h.same i hi hr)⟩
theorem KeepBut.of_below {r : Nat} {A B : World} (h : Below A.heap.size A B) : KeepBut r A B := ⟨h.size, fun k hk _ => h.block k hk⟩
theorem KeepBut.setCell (r : Nat) (A : World) (u : Value) : KeepBut r A (A.setCell ⟨r, 0, none⟩ u) :=
  ⟨by simp, fun k _ hr => Below.heap_setCell _ _ _ _ hr⟩
theorem KeepBut.cells {r : Nat} {A B : World} (h : KeepBut r A B) : KeepCells r A B :=
  ⟨h.size, fun k _ hr ho _ => (h.same k (Array.getElem?_eq_some_iff.1 ho).1 hr).trans ho⟩
theorem KeepCells.trans {r : Nat} {A B C : World} (h : KeepCells r A B) (k : KeepCells r B C) : KeepCells r A C :=
  ⟨Nat.le_trans h.size k.size, fun i o hr ho hc => k.same i o hr (h.same i o hr ho hc) hc⟩
theorem KeepCells.putObj {r : Nat} (A : World) {l : Nat} {o : Obj} (o' : Obj) (hl : A.heap[l]? = some o) (ho : o.isCells = false) : KeepCells r A (A.putObj l o') :=
  ⟨by simp, fun k p _ hp hc => (World.putObj_heap_other (fun e => by subst e; rw [hl] at hp; cases hp; rw [ho] at hc; cases hc)).trans hp⟩
theorem cells_of_cell {A : World} {a : Addr} {v : Value} (h : A.cell? a = some v) : ∃ o, A.heap[a.block]? = some o ∧ o.isCells = true := by
  unfold World.cell? at h
  split at h
  · rename_i o e; exact ⟨_, e, rfl⟩
  · cases h
theorem KeepCells.cell {r : Nat} {A B : World} (h : KeepCells r A B) {a : Addr} {v : Value} (hr : a.block ≠ r) (hc : A.cell? a = some v) : B.cell? a = some v := by
  obtain ⟨o, ho, hi⟩ := cells_of_cell hc
  rw [World.cell?_of_block (w := A) ((h.same _ _ hr ho hi).trans ho.symm)]; exact hc
theorem KeepCells.frozen {r : Nat} {A B : World} (h : KeepCells r A B) {a : Addr} {v : Value} (hr : a.block ≠ r) (hc : A.cell? a = some v) : B.frozen? a = A.frozen? a := by
  obtain ⟨o, ho, hi⟩ := cells_of_cell hc
  exact World.frozen?_of_block (w := A) ((h.same _ _ hr ho hi).trans ho.symm)

/-- An iterator that goes through xs, whatever the rounds do that keep all cells but those of block r. -/
def SeqAll {α : Type} (F : Fence) (n : Nat) (P : Program) (g : Nat) (lb : Array Value) (encs : α → Array Value) (r : Nat) (xs : List α) (w : World) : Prop :=
  ∀ (l : Nat) (J : List α → World → Prop) (W : World), Below w.heap.size w W → (∀ pre A B, J pre A → W.heap.size ≤ A.heap.size → Below W.heap.size A B → J pre B) →
    (∀ pre x W1, J pre W1 → pre.length < xs.length → YieldAt F (n - 1) P l (encs x) W1 fun e W' => e = .returned (.bool true) ∧ J (pre ++ [x]) W' ∧ KeepCells r W1 W') →
    J [] W →
    CallsIn F n P g (#[.func (.yield l) #[] #[]] ++ lb) W fun e W' => (∃ v, e = .returned v) ∧ J xs W'

variable {F : Fence} {n : Nat} {P : Program}
theorem range_all {α : Type} {g : Operand} {ps : Array Tmp} {assign body : Code} {Q : Exit → Act → World → Prop} {a : Act} {w : World}
    (hro : F.round = none) (h1 : 1 ≤ n) {gf : Nat} {lb : Array Value} (hg : a.eval g = .func (.func gf) #[] lb) (hFg : F.fn gf) (eg : ∀ args w, (callFunc gf args).run P w = .ok (.enter gf args) w)
    {encs : α → Array Value} {r : Nat} {xs : List α} (hseq : SeqAll F (n - 1) P gf lb encs r xs w) (hr : r < w.heap.size) (hps : ∀ x, (encs x).size = ps.size)
    (I : List α → World → Prop) (hI : ∀ pre A B, I pre A → w.heap.size ≤ A.heap.size → Below w.heap.size A B → I pre B) (h0 : I [] w)
    (Ax : α → Act → World → Prop) (hAx : ∀ x a' A B, Ax x a' A → KeepCells A.heap.size A B → Ax x a' B)
    (hassign : ∀ (l : Nat) (x : α) (W : World) (K : Act → World → Prop), w.heap.size ≤ W.heap.size → (∀ a' W', Below W.heap.size W W' → Ax x a' W' → K a' W') →
      assign.wpIn (F.inRound l) (n - 1 - 1) P (Exit.then K (fun _ _ _ => False)) { tmps := (ps.zip (encs x)).foldl (fun t (p, v) => t.setIfInBounds p v) a.tmps, defers := [] } W)
    (hbody : ∀ (l : Nat) (pre : List α) (x : α) (a' : Act) (W : World), w.heap.size ≤ W.heap.size → I pre W → Ax x a' W → pre.length < xs.length →
      body.wpIn (F.inRound l) (n - 1 - 1) P (fun e _ W' => e = .normal ∧ KeepBut r W W' ∧ I (pre ++ [x]) W') a' W)
    (hdone : ∀ (D : Nat) (W : World), w.heap.size ≤ D → I xs W → W.heap[D]? = some (.deferred (some [])) → Q .normal { a with defers := { target := .collected D, args := #[] } :: a.defers } W) :
    (Code.rangeFunc g ps assign body).wpIn F n P Q a w := by
  refine wpIn_rangeFunc fun fn hfn => ?_
  rw [hro]
  obtain ⟨rec, hrec⟩ : ∃ rec : LoopState → Loop, rec = fun st => { state := st, pending := none, fn, tmps := a.tmps, params := ps, assign, body, defers := w.heap.size } := ⟨_, rfl⟩
  obtain ⟨W1, hW1⟩ : ∃ W1, (w.alloc (.deferred (some []))).alloc (.loop (rec .ready)) = W1 := ⟨_, rfl⟩
  have b1 : Below w.heap.size w W1 := by rw [← hW1]; exact ((Below.refl _ w).alloc (Nat.le_refl _) _).alloc (by simp) _
  have s1 : W1.heap.size = w.heap.size + 2 := by rw [← hW1]; simp
  have l1 : W1.heap[w.heap.size + 1]? = some (.loop (rec .ready)) := by
    rw [← hW1]; have := World.alloc_heap_new (w.alloc (.deferred (some []))) (.loop (rec .ready)); rwa [World.size_alloc] at this
  have d1 : W1.heap[w.heap.size]? = some (.deferred (some [])) := by
    rw [← hW1]; exact (Below.heap_alloc _ _ _ (by simp)).trans (World.alloc_heap_new w _)
  refine ⟨w.heap.size + 1, [{ target := .collected w.heap.size, args := #[] }], W1, { target := .fn (.func gf) lb, args := #[.func (.yield (w.heap.size + 1)) #[] #[]] }, W1, gf,
    #[.func (.yield (w.heap.size + 1)) #[] #[]] ++ lb, W1, ?_, ?_, ?_, ?_, fun _ => h1, ?_⟩
  · rw [← hW1, hrec]; exact run_enterLoop_outer _ _ _ _ _
  · simp only [resolve, hg]; simp [go_sem]
  · intro f' hf'; simp [Target.leads] at hf'; subst hf'; exact hFg
  · simp [invoke, go_sem, eg]
  refine (hseq (w.heap.size + 1) (fun pre W => I pre W ∧ w.heap.size + 2 ≤ W.heap.size ∧ W.heap[w.heap.size + 1]? = some (.loop (rec .ready)) ∧ W.heap[w.heap.size]? = some (.deferred (some []))) W1 b1
    ?_ ?_ ⟨hI _ _ _ h0 (Nat.le_refl _) b1, by omega, l1, d1⟩).mono ?_
  · rintro pre A B ⟨i, sz, hl, hd⟩ hsz hb
    exact ⟨hI _ _ _ i (by omega) (hb.mono (by omega)), Nat.le_trans sz hb.size, (hb.block _ (by omega)).trans hl, (hb.block _ (by omega)).trans hd⟩
  · rintro pre x W ⟨i, sz, hl, hd⟩ hlen
    have hy := run_yield (P := P) (args := encs x) hl (by rw [hrec]; exact hps x)
    rw [hrec] at hy
    refine ⟨fn, _, assign, body, hy, roundIn_of_wpIn hfn (hassign _ x W _ (by omega) ?_)⟩
    intro a' W2 b2 ax2
    have hl2 : W2.heap[w.heap.size + 1]? = some (.loop (rec .ready)) := (b2.block _ (by omega)).trans hl
    have hd2 : W2.heap[w.heap.size]? = some (.deferred (some [])) := (b2.block _ (by omega)).trans hd
    have k3 : KeepCells W2.heap.size W2 (W2.putObj (w.heap.size + 1) (.loop (rec .busy))) := KeepCells.putObj _ _ hl2 rfl
    have k3' : KeepCells r W2 (W2.putObj (w.heap.size + 1) (.loop (rec .busy))) := KeepCells.putObj _ _ hl2 rfl
    have b3 : Below w.heap.size W2 (W2.putObj (w.heap.size + 1) (.loop (rec .busy))) := (Below.refl _ W2).grown (grownBy_putObj' W2 _ _) (by have := b2.size; omega) (fun k e => by cases e; omega)
    have hl3 : (W2.putObj (w.heap.size + 1) (.loop (rec .busy))).heap[w.heap.size + 1]? = some (.loop (rec .busy)) := World.putObj_heap_same (by have := b2.size; omega)
    have hd3 : (W2.putObj (w.heap.size + 1) (.loop (rec .busy))).heap[w.heap.size]? = some (.deferred (some [])) := (World.putObj_heap_other (by omega)).trans hd2
    have s3 : (W2.putObj (w.heap.size + 1) (.loop (rec .busy))).heap.size = W2.heap.size := by simp
    have eb : ({ rec .ready with state := .busy } : Loop) = rec .busy := by rw [hrec]
    have hb := run_beginRound (P := P) hl2 (by rw [hrec])
    rw [eb] at hb
    refine ⟨_, hb, ?_⟩
    have i2 : I pre W2 := hI _ _ _ i (by omega) (b2.mono (by omega))
    refine wpIn_mono (hbody _ pre x a' _ (by have := b2.size; omega) (hI _ _ _ i2 (by have := b2.size; omega) b3) (hAx _ _ _ _ ax2 k3) hlen) ?_
    rintro e a4 W4 ⟨rfl, k4, i4⟩
    have hl4 : W4.heap[w.heap.size + 1]? = some (.loop (rec .busy)) := (k4.same _ (by have := b2.size; omega) (by omega)).trans hl3
    have hd4 : W4.heap[w.heap.size]? = some (.deferred (some [])) := (k4.same _ (by have := b2.size; omega) (by omega)).trans hd3
    have s4 := k4.size
    have b5 : Below w.heap.size W4 (W4.putObj (w.heap.size + 1) (.loop (rec .ready))) := (Below.refl _ W4).grown (grownBy_putObj' W4 _ _) (by have := b2.size; omega) (fun k e => by cases e; omega)
    have ee : ({ rec .busy with state := if (none : Option Code).isNone then .ready else .done, pending := none } : Loop) = rec .ready := by rw [hrec]; rfl
    have he := run_endRound (P := P) none hl4
    rw [ee] at he
    refine ⟨.bool true, W4.putObj (w.heap.size + 1) (.loop (rec .ready)), he, rfl, ⟨?_, ?_, ?_, ?_⟩, ?_⟩
    · exact hI _ _ _ i4 (by have := b2.size; omega) b5
    · have := b2.size; have := b5.size; omega
    · exact World.putObj_heap_same (by have := b2.size; omega)
    · exact (World.putObj_heap_other (by omega)).trans hd4
    · have k2 : KeepCells r W W2 := (KeepBut.of_below b2).cells
      exact ((k2.trans k3').trans k4.cells).trans (KeepCells.putObj _ _ hl4 rfl)
  · rintro e W2 ⟨⟨v, rfl⟩, i, sz, hl, hd⟩
    have he := run_endLoop (P := P) hl (by rw [hrec]; simp)
    rw [show (rec .ready).pending = none by rw [hrec]] at he
    refine ⟨none, _, he, ?_⟩
    refine hdone _ _ (Nat.le_refl _) (hI _ _ _ i (by omega) ((Below.refl _ W2).grown (grownBy_putObj' W2 _ _) (by omega) (fun k e => by cases e; omega))) ((World.putObj_heap_other (by omega)).trans hd)
end Go.Proofs.Ytmbfcneabpgcpaa
