/- Numbers in digits, in blocks of their own; contracts: zero. -/
import Derived.Test.YtcmijedhjebpkaaDoorW0
import Derived.Test.YtcmijedhjebpkaaDoorK0
import Derived.Test.YtcmijedhjebpkaaDoorNumPlain
import Derived.ChangeKeysEq
import Derived.Laws.Rows
import Derived.Deep.MidRow
namespace Go.Proofs.YtcmijedhjebpkaaDoor
open Go.RowKit Go.Proofs.Num

/-- The cells of a number: its sign and its digits. -/
def numC (neg : Bool) (E : List Int) : Array Value := (Value.bool neg :: E.map (Value.int .i64)).toArray
theorem numC_size {neg : Bool} {E : List Int} (h : E.length = 12) : (numC neg E).size = 13 := by simp [numC, h]
theorem numC_one (neg : Bool) (E : List Int) : (numC neg E).all (·.oneCell') = true := by simp [numC]; exact ⟨rfl, fun _ _ => rfl⟩
/-- The operation that writes a slot; a store of a type. -/
theorem at_slot (n : Nat) {P : Program} {ops : Array Oper} {Q : Exit → Act → World → Prop} {rest : List Oper} {a : Act} {w : World} {op : Op} {x1 x2 x3 x4} (h : wpList P ops Q (⟨some n, op, x1, x2, x3, x4⟩ :: rest) a w) : wpList P ops Q (⟨some n, op, x1, x2, x3, x4⟩ :: rest) a w := h
theorem at_store (t : TypeId) {P : Program} {ops : Array Oper} {Q : Exit → Act → World → Prop} {rest : List Oper} {a : Act} {w : World} {y z} {x1 x2 x3 x4} (h : wpList P ops Q (⟨none, .store t y z, x1, x2, x3, x4⟩ :: rest) a w) : wpList P ops Q (⟨none, .store t y z, x1, x2, x3, x4⟩ :: rest) a w := h

theorem numC_set (neg : Bool) (E : List Int) (i : Nat) (x : Int) : (numC neg E).setIfInBounds (1 + i) (.int .i64 x) = numC neg (E.set i x) := by
  rw [Nat.add_comm]; simp [numC, List.map_set]
theorem numC_sgn (neg x : Bool) (E : List Int) : (numC neg E).setIfInBounds 0 (.bool x) = numC x E := by simp [numC]
theorem kp_row {W w : World} (h : Kp W w) {g : Nat} (hg : W.heap.size ≤ g) (cs : Array Value) : Kp W (w.setRow g cs) :=
  ⟨h.os, h.tape, h.output, by have := h.size; simpa using this, fun k hk => (setRow_other w g k cs (by omega)).trans (h.block k hk)⟩

/-- Are all digits nothing? -/
def allZ (E : List Int) : Bool := E.all (· == 0)
theorem eqItems_ints (d : Nat) (xs ys : Array Value) (a b : Nat → Int) (is : List Nat) (hx : ∀ i ∈ is, xs[i]? = some (.int .i64 (a i))) (hy : ∀ i ∈ is, ys[i]? = some (.int .i64 (b i))) (w : World) :
    (Op.eqItems (d + 1) 3 1 xs ys is).run Tryd.prog w = .ok (is.all fun i => a i == b i) w := by
  have hc : Tryd.prog.cellsOf 3 = 1 := by kernel_rfl
  induction is with
  | nil => rfl
  | cons i is ih =>
    have h1 := hx i (by simp)
    have h2 := hy i (by simp)
    have h3 := ih (fun j hj => hx j (by simp [hj])) (fun j hj => hy j (by simp [hj]))
    simp only [Op.eqItems, Nat.mul_one, Sem.run_bind]
    have p1 : (part 3 xs i).run Tryd.prog w = .ok (.int .i64 (a i)) w := by simp [go_sem, part, h1]
    have p2 : (part 3 ys i).run Tryd.prog w = .ok (.int .i64 (b i)) w := by simp [go_sem, part, h2]
    rw [p1, Result.andThen_ok, p2, Result.andThen_ok, run_equalIn_int w d _ _ _ _ _ Tryd.underlying3, Result.andThen_ok]
    cases h : (a i == b i)
    · simp [h]
    · simpa [h] using h3
theorem all_range (E : List Int) : ((List.range E.length).all fun i => E.getD i 0 == 0) = allZ E := by
  rw [Bool.eq_iff_iff, allZ, List.all_eq_true, List.all_eq_true]
  constructor
  · intro h x hx
    obtain ⟨i, hi, rfl⟩ := List.getElem_of_mem hx
    have := h i (List.mem_range.2 hi)
    simpa [List.getD_eq_getElem?_getD, hi] using this
  · intro h i hi
    have hi' := List.mem_range.1 hi
    simpa [List.getD_eq_getElem?_getD, hi'] using h _ (List.getElem_mem hi')
end Go.Proofs.YtcmijedhjebpkaaDoor
