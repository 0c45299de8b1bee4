/- Numbers in digits, in blocks of their own; contracts: zero. -/
import Derived.Test.YtcmijedhjebpkaaW0
import Derived.Test.YtcmijedhjebpkaaK0
import Derived.Test.YtcmijedhjebpkaaNumPlain
import Derived.ChangeKeysEq
import Derived.Laws.Rows
import Derived.Deep.MidRow
namespace Go.Proofs.Ytcmijedhjebpkaa
open Go.RowKit Go.Proofs.Num

/-- The cells of a number: its sign and its digits. -/
def numC (neg : Bool) (E : List Int) : Array Value := (Value.bool neg :: E.map (Value.int .i64)).toArray
theorem numC_size {neg : Bool} {E : List Int} (h : E.length = 12) : (numC neg E).size = 13 := by simp [numC, h]
theorem numC_one (neg : Bool) (E : List Int) : (numC neg E).all (·.oneCell') = true := by simp [numC]; exact ⟨rfl, fun _ _ => rfl⟩
theorem info_num : (Try.prog.info? 69).map (·.size) = some 13 := by kernel_rfl
theorem info_num' {neg : Bool} {E : List Int} (h : E.length = 12) : (Try.prog.info? 69).map (·.size) = some (numC neg E).size := by rw [numC_size h]; exact info_num
theorem info_digs : (Try.prog.info? 67).map (·.size) = some 12 := by kernel_rfl
theorem info_digs' {E : List Int} (h : E.length = 12) : (Try.prog.info? 67).map (·.size) = some (E.map (Value.int .i64)).length := by rw [List.length_map, h]; exact info_digs
/-- The operation that writes a slot; a store of a type. -/
theorem at_slot (n : Nat) {P : Program} {ops : Array Oper} {Q : Exit → Act → World → Prop} {rest : List Oper} {a : Act} {w : World} {op : Op} {x1 x2 x3 x4} (h : wpList P ops Q (⟨some n, op, x1, x2, x3, x4⟩ :: rest) a w) : wpList P ops Q (⟨some n, op, x1, x2, x3, x4⟩ :: rest) a w := h
theorem at_store (t : TypeId) {P : Program} {ops : Array Oper} {Q : Exit → Act → World → Prop} {rest : List Oper} {a : Act} {w : World} {y z} {x1 x2 x3 x4} (h : wpList P ops Q (⟨none, .store t y z, x1, x2, x3, x4⟩ :: rest) a w) : wpList P ops Q (⟨none, .store t y z, x1, x2, x3, x4⟩ :: rest) a w := h

/-- A number lies in a block, whole. -/
def NumB (w : World) (B : Nat) (neg : Bool) (E : List Int) : Prop := w.heap[B]? = some (.cells (numC neg E) 69 (0, 0)) ∧ E.length = 12
theorem NumB.digs {w : World} {B : Nat} {neg : Bool} {E : List Int} (h : NumB w B neg E) : w.rangeAt B 1 (E.map (Value.int .i64)) := fun j v hv => by
  rw [Nat.add_comm, cell_of_row w B (j + 1) _ _ _ h.1]; simpa [numC] using hv
theorem NumB.cell {w : World} {B : Nat} {neg : Bool} {E : List Int} (h : NumB w B neg E) (i : Nat) (hi : i < E.length) : w.cell? ⟨B, 1 + i, none⟩ = some (.int .i64 E[i]) :=
  h.digs i _ (by simp [hi])
theorem NumB.sgn {w : World} {B : Nat} {neg : Bool} {E : List Int} (h : NumB w B neg E) : w.cell? ⟨B, 0, none⟩ = some (.bool neg) := by
  rw [cell_of_row w B 0 _ _ _ h.1]; rfl
theorem NumB.froz {w : World} {B : Nat} {neg : Bool} {E : List Int} (h : NumB w B neg E) (o : Nat) : w.frozen? ⟨B, o, none⟩ = false := frozen_of_row w B o _ _ h.1
theorem NumB.lt {w : World} {B : Nat} {neg : Bool} {E : List Int} (h : NumB w B neg E) : B < w.heap.size := (Array.getElem?_eq_some_iff.1 h.1).1
theorem NumB.kp {w w' : World} {B : Nat} {neg : Bool} {E : List Int} (h : NumB w B neg E) (k : Kp w w') : NumB w' B neg E := ⟨(Below.block k B h.lt).trans h.1, h.2⟩
theorem NumB.drew {w : World} {B : Nat} {neg : Bool} {E : List Int} (h : NumB w B neg E) : NumB w.drew B neg E := h
theorem NumB.new (w : World) (neg : Bool) (E : List Int) (h : E.length = 12) : NumB (w.alloc (.cells (numC neg E) 69)) w.heap.size neg E := ⟨heap_alloc_new w _, h⟩
theorem NumB.a {w : World} {B : Nat} {neg : Bool} {E : List Int} (h : NumB w B neg E) (o : Obj) : NumB (w.alloc o) B neg E := h.kp (kp_alloc (kp_refl w) o)
theorem numC_set (neg : Bool) (E : List Int) (i : Nat) (x : Int) : (numC neg E).setIfInBounds (1 + i) (.int .i64 x) = numC neg (E.set i x) := by
  rw [Nat.add_comm]; simp [numC, List.map_set]
theorem numC_sgn (neg x : Bool) (E : List Int) : (numC neg E).setIfInBounds 0 (.bool x) = numC x E := by simp [numC]
theorem NumB.set {w : World} {B : Nat} {neg : Bool} {E : List Int} (h : NumB w B neg E) (i : Nat) (x : Int) : NumB (w.setCell ⟨B, 1 + i, none⟩ (.int .i64 x)) B neg (E.set i x) :=
  ⟨by rw [heap_setCell_same w B _ _ _ _ h.1, numC_set], by simp [h.2]⟩
theorem NumB.setSgn {w : World} {B : Nat} {neg : Bool} {E : List Int} (h : NumB w B neg E) (x : Bool) : NumB (w.setCell ⟨B, 0, none⟩ (.bool x)) B x E :=
  ⟨by rw [heap_setCell_same w B _ _ _ _ h.1, numC_sgn], h.2⟩
theorem NumB.row {w : World} {B : Nat} {neg neg' : Bool} {E E' : List Int} (h : NumB w B neg E) (h' : E'.length = 12) : NumB (w.setRow B (numC neg' E')) B neg' E' := ⟨setRow_heap w B _ _ _ _ h.1, h'⟩
/-- What is stored elsewhere does not matter. -/
theorem NumB.off {w : World} {B : Nat} {neg : Bool} {E : List Int} (h : NumB w B neg E) {a : Addr} (u : Value) (hne : B ≠ a.block) : NumB (w.setCell a u) B neg E := ⟨by rw [heap_setCell_other w a B u hne]; exact h.1, h.2⟩
theorem NumB.offRow {w : World} {B : Nat} {neg : Bool} {E : List Int} (h : NumB w B neg E) {g : Nat} (cs : Array Value) (hne : B ≠ g) : NumB (w.setRow g cs) B neg E := ⟨by rw [setRow_other w g B cs hne]; exact h.1, h.2⟩
theorem kp_row {W w : World} (h : Kp W w) {g : Nat} (hg : W.heap.size ≤ g) (cs : Array Value) : Kp W (w.setRow g cs) :=
  ⟨h.os, h.tape, h.output, by have := h.size; simpa using this, fun k hk => (setRow_other w g k cs (by omega)).trans (h.block k hk)⟩

/-- Are all digits nothing? -/
def allZ (E : List Int) : Bool := E.all (· == 0)
theorem eqItems_ints (d : Nat) (xs ys : Array Value) (a b : Nat → Int) (is : List Nat) (hx : ∀ i ∈ is, xs[i]? = some (.int .i64 (a i))) (hy : ∀ i ∈ is, ys[i]? = some (.int .i64 (b i))) (w : World) :
    (Op.eqItems (d + 1) 3 1 xs ys is).run Try.prog w = .ok (is.all fun i => a i == b i) w := by
  have hc : Try.prog.cellsOf 3 = 1 := by kernel_rfl
  induction is with
  | nil => rfl
  | cons i is ih =>
    have h1 := hx i (by simp)
    have h2 := hy i (by simp)
    have h3 := ih (fun j hj => hx j (by simp [hj])) (fun j hj => hy j (by simp [hj]))
    simp only [Op.eqItems, Nat.mul_one, Sem.run_bind]
    have p1 : (part 3 xs i).run Try.prog w = .ok (.int .i64 (a i)) w := by simp [go_sem, part, h1]
    have p2 : (part 3 ys i).run Try.prog w = .ok (.int .i64 (b i)) w := by simp [go_sem, part, h2]
    rw [p1, Result.andThen_ok, p2, Result.andThen_ok, run_equalIn_int w d _ _ _ _ _ Try.underlying3, Result.andThen_ok]
    cases h : (a i == b i)
    · simp [h]
    · simpa [h] using h3
theorem all_range (E : List Int) : ((List.range E.length).all fun i => E.getD i 0 == 0) = allZ E := by
  rw [Bool.eq_iff_iff, allZ, List.all_eq_true, List.all_eq_true]
  constructor
  · intro h x hx
    obtain ⟨i, hi, rfl⟩ := List.getElem_of_mem hx
    have := h i (List.mem_range.2 hi)
    simpa [List.getD_eq_getElem?_getD, hi] using this
  · intro h i hi
    have hi' := List.mem_range.1 hi
    simpa [List.getD_eq_getElem?_getD, hi'] using h _ (List.getElem_mem hi')
theorem run_eq12 (E : List Int) (h : E.length = 12) (w : World) : (Op.equalIn 10000 67 (.agg (E.map (Value.int .i64)).toArray) (.agg #[.int .i64 0, .int .i64 0, .int .i64 0, .int .i64 0, .int .i64 0, .int .i64 0, .int .i64 0, .int .i64 0, .int .i64 0, .int .i64 0, .int .i64 0, .int .i64 0])).run Try.prog w = .ok (allZ E) w := by
  have hc : Try.prog.cellsOf 3 = 1 := by kernel_rfl
  obtain ⟨i, hi⟩ : ∃ i, Try.prog.info? 3 = some i := ⟨_, rfl⟩
  rw [run_equalIn_array w 9999 _ _ Try.underlying67 hi, hc]
  rw [eqItems_ints 9998 _ _ (fun i => E.getD i 0) (fun _ => 0) _ ?_ ?_]
  · rw [← h, all_range]
  · intro i hi
    have := List.mem_range.1 hi
    simp [h, this]
  · intro i hi
    have := List.mem_range.1 hi
    match i, this with
    | 0, _ => rfl
    | 1, _ => rfl
    | 2, _ => rfl
    | 3, _ => rfl
    | 4, _ => rfl
    | 5, _ => rfl
    | 6, _ => rfl
    | 7, _ => rfl
    | 8, _ => rfl
    | 9, _ => rfl
    | 10, _ => rfl
    | 11, _ => rfl
theorem zero_any (neg : Bool) (E : List Int) (h : E.length = 12) (w : World) : Calls Try.prog 63 #[.agg (numC neg E)] w fun e w' => e = .returned (.bool (allZ E)) ∧ Kp w w' := by
  have he := run_eq12 E h
  have hb := NumB.new w neg E h
  have H := Lib.hid h
  have HB := Lib.hid hb
  clear hb h
  go_enter Try.func63, Try.ntmps63
  go_wp2_with ((with_reducible refine at_slot 4 ?_); refine wpList_load_mid rfl 67 _ rfl w.heap.size 1 rfl _ _ HB.out.digs Try.underlying67 rfl (info_digs' H.out) ?_)
  go_ret
  exact ⟨rfl, kp_alloc (kp_refl _) _⟩

end Go.Proofs.Ytcmijedhjebpkaa
