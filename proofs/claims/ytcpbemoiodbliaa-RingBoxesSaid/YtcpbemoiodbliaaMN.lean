import Derived.Test.YtcpbemoiodbliaaMW
import Derived.Test.YtcpbemoiodbliaaMP
import Derived.ChangeKeysEq
import Derived.Laws.Rows
import Derived.Deep.MidRow
import Derived.IntWalk
import Derived.BigRegion
import Derived.RegionTactic
import Derived.Deep.DeepCutAuto
import Derived.Laws.Bits64
import Derived.Laws.BitsLemmas
/- Numbers in digits, in blocks of their own; contracts: zero. -/
namespace Go.Proofs.Ytcpbemoiodbliaa
open Go.RowKit Go.Proofs.Num

/-- The cells of a number: its sign and its digits. -/
def numC (neg : Bool) (E : List Int) : Array Value := (Value.bool neg :: E.map (Value.int .i64)).toArray
theorem numC_size {neg : Bool} {E : List Int} (h : E.length = 12) : (numC neg E).size = 13 := by simp [numC, h]
theorem numC_one (neg : Bool) (E : List Int) : (numC neg E).all (·.oneCell') = true := by simp [numC]; exact ⟨rfl, fun _ _ => rfl⟩
theorem info_num : (Try.prog.info? 84).map (·.size) = some 13 := by kernel_rfl
theorem info_num' {neg : Bool} {E : List Int} (h : E.length = 12) : (Try.prog.info? 84).map (·.size) = some (numC neg E).size := by rw [numC_size h]; exact info_num
theorem info_digs : (Try.prog.info? 82).map (·.size) = some 12 := by kernel_rfl
theorem info_digs' {E : List Int} (h : E.length = 12) : (Try.prog.info? 82).map (·.size) = some (E.map (Value.int .i64)).length := by rw [List.length_map, h]; exact info_digs
/-- The operation that writes a slot; a store of a type. -/
theorem at_slot (n : Nat) {P : Program} {ops : Array Oper} {Q : Exit → Act → World → Prop} {rest : List Oper} {a : Act} {w : World} {op : Op} {x1 x2 x3 x4} (h : wpList P ops Q (⟨some n, op, x1, x2, x3, x4⟩ :: rest) a w) : wpList P ops Q (⟨some n, op, x1, x2, x3, x4⟩ :: rest) a w := h
theorem at_store (t : TypeId) {P : Program} {ops : Array Oper} {Q : Exit → Act → World → Prop} {rest : List Oper} {a : Act} {w : World} {y z} {x1 x2 x3 x4} (h : wpList P ops Q (⟨none, .store t y z, x1, x2, x3, x4⟩ :: rest) a w) : wpList P ops Q (⟨none, .store t y z, x1, x2, x3, x4⟩ :: rest) a w := h

/-- A number lies in a block, whole. -/
def NumB (w : World) (B : Nat) (neg : Bool) (E : List Int) : Prop := w.heap[B]? = some (.cells (numC neg E) 84 (0, 0)) ∧ E.length = 12
theorem NumB.digs {w : World} {B : Nat} {neg : Bool} {E : List Int} (h : NumB w B neg E) : w.rangeAt B 1 (E.map (Value.int .i64)) := fun j v hv => by
  rw [Nat.add_comm, cell_of_row w B (j + 1) _ _ _ h.1]; simpa [numC] using hv
theorem NumB.cell {w : World} {B : Nat} {neg : Bool} {E : List Int} (h : NumB w B neg E) (i : Nat) (hi : i < E.length) : w.cell? ⟨B, 1 + i, none⟩ = some (.int .i64 E[i]) :=
  h.digs i _ (by simp [hi])
theorem NumB.sgn {w : World} {B : Nat} {neg : Bool} {E : List Int} (h : NumB w B neg E) : w.cell? ⟨B, 0, none⟩ = some (.bool neg) := by
  rw [cell_of_row w B 0 _ _ _ h.1]; rfl
theorem NumB.froz {w : World} {B : Nat} {neg : Bool} {E : List Int} (h : NumB w B neg E) (o : Nat) : w.frozen? ⟨B, o, none⟩ = false := frozen_of_row w B o _ _ h.1
theorem NumB.lt {w : World} {B : Nat} {neg : Bool} {E : List Int} (h : NumB w B neg E) : B < w.heap.size := (Array.getElem?_eq_some_iff.1 h.1).1
theorem NumB.kp {w w' : World} {B : Nat} {neg : Bool} {E : List Int} (h : NumB w B neg E) (k : Kp w w') : NumB w' B neg E := ⟨(Below.block k B h.lt).trans h.1, h.2⟩
theorem NumB.drew {w : World} {B : Nat} {neg : Bool} {E : List Int} (h : NumB w B neg E) : NumB w.drew B neg E := h
theorem NumB.new (w : World) (neg : Bool) (E : List Int) (h : E.length = 12) : NumB (w.alloc (.cells (numC neg E) 84)) w.heap.size neg E := ⟨heap_alloc_new w _, h⟩
theorem NumB.a {w : World} {B : Nat} {neg : Bool} {E : List Int} (h : NumB w B neg E) (o : Obj) : NumB (w.alloc o) B neg E := h.kp (kp_alloc (kp_refl w) o)
theorem numC_set (neg : Bool) (E : List Int) (i : Nat) (x : Int) : (numC neg E).setIfInBounds (1 + i) (.int .i64 x) = numC neg (E.set i x) := by
  rw [Nat.add_comm]; simp [numC, List.map_set]
theorem numC_sgn (neg x : Bool) (E : List Int) : (numC neg E).setIfInBounds 0 (.bool x) = numC x E := by simp [numC]
theorem NumB.set {w : World} {B : Nat} {neg : Bool} {E : List Int} (h : NumB w B neg E) (i : Nat) (x : Int) : NumB (w.setCell ⟨B, 1 + i, none⟩ (.int .i64 x)) B neg (E.set i x) :=
  ⟨by rw [heap_setCell_same w B _ _ _ _ h.1, numC_set], by simp [h.2]⟩
theorem NumB.setSgn {w : World} {B : Nat} {neg : Bool} {E : List Int} (h : NumB w B neg E) (x : Bool) : NumB (w.setCell ⟨B, 0, none⟩ (.bool x)) B x E :=
  ⟨by rw [heap_setCell_same w B _ _ _ _ h.1, numC_sgn], h.2⟩
theorem NumB.row {w : World} {B : Nat} {neg neg' : Bool} {E E' : List Int} (h : NumB w B neg E) (h' : E'.length = 12) : NumB (w.setRow B (numC neg' E')) B neg' E' := ⟨setRow_heap w B _ _ _ _ h.1, h'⟩
/-- What is stored elsewhere does not matter. -/
theorem NumB.off {w : World} {B : Nat} {neg : Bool} {E : List Int} (h : NumB w B neg E) {a : Addr} (u : Value) (hne : B ≠ a.block) : NumB (w.setCell a u) B neg E := ⟨by rw [heap_setCell_other w a B u hne]; exact h.1, h.2⟩
theorem NumB.offRow {w : World} {B : Nat} {neg : Bool} {E : List Int} (h : NumB w B neg E) {g : Nat} (cs : Array Value) (hne : B ≠ g) : NumB (w.setRow g cs) B neg E := ⟨by rw [setRow_other w g B cs hne]; exact h.1, h.2⟩
theorem kp_row {W w : World} (h : Kp W w) {g : Nat} (hg : W.heap.size ≤ g) (cs : Array Value) : Kp W (w.setRow g cs) :=
  ⟨h.os, h.tape, h.output, by have := h.size; simpa using this, fun k hk => (setRow_other w g k cs (by omega)).trans (h.block k hk)⟩

/-- Are all digits nothing? -/
def allZ (E : List Int) : Bool := E.all (· == 0)
theorem eqItems_ints (d : Nat) (xs ys : Array Value) (a b : Nat → Int) (is : List Nat) (hx : ∀ i ∈ is, xs[i]? = some (.int .i64 (a i))) (hy : ∀ i ∈ is, ys[i]? = some (.int .i64 (b i))) (w : World) :
    (Op.eqItems (d + 1) 3 1 xs ys is).run Try.prog w = .ok (is.all fun i => a i == b i) w := by
  have hc : Try.prog.cellsOf 3 = 1 := by kernel_rfl
  induction is with
  | nil => rfl
  | cons i is ih =>
    have h1 := hx i (by simp)
    have h2 := hy i (by simp)
    have h3 := ih (fun j hj => hx j (by simp [hj])) (fun j hj => hy j (by simp [hj]))
    simp only [Op.eqItems, Nat.mul_one, Sem.run_bind]
    have p1 : (part 3 xs i).run Try.prog w = .ok (.int .i64 (a i)) w := by simp [go_sem, part, h1]
    have p2 : (part 3 ys i).run Try.prog w = .ok (.int .i64 (b i)) w := by simp [go_sem, part, h2]
    rw [p1, Result.andThen_ok, p2, Result.andThen_ok, run_equalIn_int w d _ _ _ _ _ Try.underlying3, Result.andThen_ok]
    cases h : (a i == b i)
    · simp [h]
    · simpa [h] using h3
theorem all_range (E : List Int) : ((List.range E.length).all fun i => E.getD i 0 == 0) = allZ E := by
  rw [Bool.eq_iff_iff, allZ, List.all_eq_true, List.all_eq_true]
  constructor
  · intro h x hx
    obtain ⟨i, hi, rfl⟩ := List.getElem_of_mem hx
    have := h i (List.mem_range.2 hi)
    simpa [List.getD_eq_getElem?_getD, hi] using this
  · intro h i hi
    have hi' := List.mem_range.1 hi
    simpa [List.getD_eq_getElem?_getD, hi'] using h _ (List.getElem_mem hi')
theorem run_eq12 (E : List Int) (h : E.length = 12) (w : World) : (Op.equalIn 10000 82 (.agg (E.map (Value.int .i64)).toArray) (.agg #[.int .i64 0, .int .i64 0, .int .i64 0, .int .i64 0, .int .i64 0, .int .i64 0, .int .i64 0, .int .i64 0, .int .i64 0, .int .i64 0, .int .i64 0, .int .i64 0])).run Try.prog w = .ok (allZ E) w := by
  have hc : Try.prog.cellsOf 3 = 1 := by kernel_rfl
  obtain ⟨i, hi⟩ : ∃ i, Try.prog.info? 3 = some i := ⟨_, rfl⟩
  rw [run_equalIn_array w 9999 _ _ Try.underlying82 hi, hc]
  rw [eqItems_ints 9998 _ _ (fun i => E.getD i 0) (fun _ => 0) _ ?_ ?_]
  · rw [← h, all_range]
  · intro i hi
    have := List.mem_range.1 hi
    simp [h, this]
  · intro i hi
    have := List.mem_range.1 hi
    match i, this with
    | 0, _ => rfl
    | 1, _ => rfl
    | 2, _ => rfl
    | 3, _ => rfl
    | 4, _ => rfl
    | 5, _ => rfl
    | 6, _ => rfl
    | 7, _ => rfl
    | 8, _ => rfl
    | 9, _ => rfl
    | 10, _ => rfl
    | 11, _ => rfl
theorem zero_any (neg : Bool) (E : List Int) (h : E.length = 12) (w : World) : Calls Try.prog 94 #[.agg (numC neg E)] w fun e w' => e = .returned (.bool (allZ E)) ∧ Kp w w' := by
  have he := run_eq12 E h
  have hb := NumB.new w neg E h
  have H := Lib.hid h
  have HB := Lib.hid hb
  clear hb h
  go_enter Try.func94, Try.ntmps94
  go_wp2_with ((with_reducible refine at_slot 4 ?_); refine wpList_load_mid rfl 82 _ rfl w.heap.size 1 rfl _ _ HB.out.digs Try.underlying82 rfl (info_digs' H.out) ?_)
  go_ret
  exact ⟨rfl, kp_alloc (kp_refl _) _⟩

end Go.Proofs.Ytcpbemoiodbliaa

/- Contracts of numbers in digits: carried. -/
namespace Go.Proofs.Ytcpbemoiodbliaa
open Go.RowKit Go.Proofs.Num
theorem hv_carry (E : List Int) (k : Nat) (h : k + 1 < E.length) : hv ((E.set (k + 1) (E[k + 1] + E[k] / 65536)).set k (E[k] % 65536)) = hv E := by
  induction E generalizing k with
  | nil => simp at h
  | cons d l ih =>
    cases k with
    | zero =>
      cases l with
      | nil => simp at h
      | cons e l =>
        simp only [Nat.zero_add, List.getElem_cons_succ, List.getElem_cons_zero, List.set_cons_succ, List.set_cons_zero, hv]
        omega
    | succ k =>
      simp only [List.getElem_cons_succ, List.set_cons_succ, hv]
      rw [ih k (by simpa using h)]

/-- The digits while the first k are carried. -/
def Carr (V : Int) (k : Nat) (E : List Int) : Prop :=
  E.length = 12 ∧ hv E = V ∧ ∀ j (h : j < E.length), 0 ≤ E[j] ∧ (j < k → E[j] < 65536) ∧ (j = k → E[j] ≤ 4398046511104) ∧ (k < j → E[j] ≤ 2199023255552)
theorem Carr.step {V : Int} {k : Nat} {E : List Int} (h : Carr V k E) (hk : k < 11) : Carr V (k + 1) ((E.set (k + 1) (E[k + 1]'(by have := h.1; omega) + E[k]'(by have := h.1; omega) / 65536)).set k (E[k]'(by have := h.1; omega) % 65536)) := by
  obtain ⟨hl, hh, hb⟩ := h
  refine ⟨by simp [hl], by rw [hv_carry E k (by omega), hh], fun j hj => ?_⟩
  have hj' : j < E.length := by simpa using hj
  rw [List.getElem_set, List.getElem_set]
  have b0 := hb k (by omega)
  have b1 := hb (k + 1) (by omega)
  have b2 := hb j hj'
  by_cases e1 : k = j
  · subst e1; rw [if_pos rfl]; omega
  · rw [if_neg e1]
    by_cases e2 : k + 1 = j
    · subst e2; rw [if_pos rfl]; omega
    · rw [if_neg e2]; omega
theorem twelve {E : List Int} (h : E.length = 12) : ∃ e0 e1 e2 e3 e4 e5 e6 e7 e8 e9 e10 e11, E = [e0, e1, e2, e3, e4, e5, e6, e7, e8, e9, e10, e11] := by
  match E, h with
  | [e0, e1, e2, e3, e4, e5, e6, e7, e8, e9, e10, e11], _ => exact ⟨e0, e1, e2, e3, e4, e5, e6, e7, e8, e9, e10, e11, rfl⟩

theorem Carr.done {V : Int} {E : List Int} (h : Carr V 11 E) (ht : V < top12) : E = d12 V := by
  obtain ⟨hl, hh, hb⟩ := h
  obtain ⟨e0, e1, e2, e3, e4, e5, e6, e7, e8, e9, e10, e11, rfl⟩ := twelve hl
  have hin : ∀ d ∈ [e0, e1, e2, e3, e4, e5, e6, e7, e8, e9, e10, e11], 0 ≤ d ∧ d < 65536 := by
    have b := fun j (hj : j < 12) => hb j (by simpa using hj)
    have b0 := b 0 (by omega)
    have b1 := b 1 (by omega)
    have b2 := b 2 (by omega)
    have b3 := b 3 (by omega)
    have b4 := b 4 (by omega)
    have b5 := b 5 (by omega)
    have b6 := b 6 (by omega)
    have b7 := b 7 (by omega)
    have b8 := b 8 (by omega)
    have b9 := b 9 (by omega)
    have b10 := b 10 (by omega)
    have b11 := b 11 (by omega)
    simp at b0 b1 b2 b3 b4 b5 b6 b7 b8 b9 b10 b11
    rw [hv12] at hh
    unfold top12 at ht
    intro d hd
    simp only [List.mem_cons, List.not_mem_nil, or_false] at hd
    omega
  have g := fun j (hj : j < 12) => dg_of _ hin j (by simpa using hj)
  rw [hh] at g
  have g0 := g 0 (by omega)
  have g1 := g 1 (by omega)
  have g2 := g 2 (by omega)
  have g3 := g 3 (by omega)
  have g4 := g 4 (by omega)
  have g5 := g 5 (by omega)
  have g6 := g 6 (by omega)
  have g7 := g 7 (by omega)
  have g8 := g 8 (by omega)
  have g9 := g 9 (by omega)
  have g10 := g 10 (by omega)
  have g11 := g 11 (by omega)
  simp at g0 g1 g2 g3 g4 g5 g6 g7 g8 g9 g10 g11
  show _ = [dg V 0, dg V 1, dg V 2, dg V 3, dg V 4, dg V 5, dg V 6, dg V 7, dg V 8, dg V 9, dg V 10, dg V 11]
  rw [← g0, ← g1, ← g2, ← g3, ← g4, ← g5, ← g6, ← g7, ← g8, ← g9, ← g10, ← g11]

def numZ : List Int := [0, 0, 0, 0, 0, 0, 0, 0, 0, 0, 0, 0]
theorem d12_length (V : Int) : (d12 V).length = 12 := by simp [d12]

set_option maxHeartbeats 8000000 in
set_option maxRecDepth 100000 in
theorem carried_any (neg : Bool) (D : List Int) (V : Int) (hl : D.length = 12) (hv0 : hv D = V) (hb : ∀ d ∈ D, 0 ≤ d ∧ d ≤ 2199023255552) (ht : V < top12) (w : World) :
    Calls Try.prog 92 #[.agg (numC neg D)] w fun e w' => e = .returned (.agg (numC (neg && !allZ (d12 V)) (d12 V))) ∧ Kp w w' := by
  have H0 : Carr V 0 D := by
    refine ⟨hl, hv0, fun j hj => ?_⟩
    have := hb _ (List.getElem_mem hj)
    omega
  have HC := Lib.hid H0
  have HT := Lib.hid ht
  have HL := Lib.hid hl
  clear H0 hv0 hb ht hl
  go_enter Try.func92, Try.ntmps92
  go_upto_region 1 with fail
  obtain ⟨W, hW⟩ : ∃ W, (w.alloc (.cells (numC neg D) 84)).alloc (.cells #[.bool false, .int .i64 0, .int .i64 0, .int .i64 0, .int .i64 0, .int .i64 0, .int .i64 0, .int .i64 0, .int .i64 0, .int .i64 0, .int .i64 0, .int .i64 0, .int .i64 0] 84) = W := ⟨_, rfl⟩
  have HN : NumB W w.heap.size neg D := by rw [← hW]; exact (NumB.new w neg D HL.out).a _
  have HR : NumB W (w.heap.size + 1) false numZ := by
    rw [← hW]
    have h := NumB.new (w.alloc (.cells (numC neg D) 84)) false numZ rfl
    rwa [World.size_alloc] at h
  have HK : Kp w W := by rw [← hW]; exact kp_alloc (kp_alloc (kp_refl _) _) _
  rw [hW]; clear hW
  have HN := Lib.hid HN
  have HR := Lib.hid HR
  have HK := Lib.hid HK
  go_wp2_with fail
  go_loopw [3] (fun i wr => ∃ k : Nat, k ≤ 11 ∧ i = .int .i64 k ∧ ∃ E, Carr V k E ∧ NumB wr w.heap.size neg E ∧ NumB wr (w.heap.size + 1) false numZ ∧ Kp w wr) (fun i _ => 11 - (intOf i).toNat)
  case atStart => exact ⟨0, by omega, rfl, _, HC.out, HN.out, HR.out, HK.out⟩
  case round =>
    obtain ⟨k, hk, rfl, E, hc, hn, hr, hkp⟩ := hrel
    by_cases hlt : k < 11
    · have hl := hc.1
      have b0 := hc.2.2 k (by omega)
      have b1 := hc.2.2 (k + 1) (by omega)
      have x0 := hn.cell k (by omega)
      have x1 := hn.cell (k + 1) (by omega)
      have y0 := hn.froz (1 + k)
      have y1 := hn.froz (1 + (k + 1))
      have wk : IntKind.i64.wrap ((k : Int) + 1) = (k : Int) + 1 := IntWalk.i64_in _ (by omega)
      have wt : ((k : Int) + 1).toNat = k + 1 := by omega
      have wb : 0 ≤ (k : Int) + 1 ∧ (k : Int) + 1 < 12 := by omega
      have hst := hc.step hlt
      have hns := (hn.set (k + 1) (E[k + 1]'(by omega) + E[k]'(by omega) / 65536)).set k (E[k]'(by omega) % 65536)
      have hrs := (hr.off (a := ⟨w.heap.size, 1 + (k + 1), none⟩) (.int .i64 (E[k + 1]'(by omega) + E[k]'(by omega) / 65536)) (by simp)).off (a := ⟨w.heap.size, 1 + k, none⟩) (.int .i64 (E[k]'(by omega) % 65536)) (by simp)
      have hks := kp_set (kp_set hkp (a := ⟨w.heap.size, 1 + (k + 1), none⟩) (by simp) (.int .i64 (E[k + 1]'(by omega) + E[k]'(by omega) / 65536))) (a := ⟨w.heap.size, 1 + k, none⟩) (by simp) (.int .i64 (E[k]'(by omega) % 65536))
      generalize E[k]'(by omega) = p at *
      generalize E[k + 1]'(by omega) = q at *
      have HS := Lib.hid hst
      have HN2 := Lib.hid hns
      have HR2 := Lib.hid hrs
      have HK2 := Lib.hid hks
      obtain ⟨b01, b02, b03, b04⟩ := b0
      obtain ⟨b11, b12, b13, b14⟩ := b1
      have p2 : p ≤ 4398046511104 := b03 rfl
      have q2 : q ≤ 2199023255552 := b14 (by omega)
      clear hst hns hn hr hrs hks hkp hc b02 b03 b04 b12 b13 b14 hl
      have wq : p.tdiv 65536 = p / 65536 := Int.tdiv_eq_ediv_of_nonneg b01
      have wr1 : p.tmod 65536 = p % 65536 := Int.tmod_eq_emod_of_nonneg b01
      have wp : IntKind.i64.wrap (q + p / 65536) = q + p / 65536 := IntWalk.i64_in _ (by omega)
      have wp2 : wrap64 (q + p / 65536) = q + p / 65536 := by rw [← IntWalk.i64_left]; exact wp
      go_wp2_with fail
      go_region
      go_wp2_with fail
      exact ⟨⟨k + 1, by omega, by go_num, _, HS.out, HN2.out.drew, HR2.out.drew, kp_drew HK2.out⟩, by simp [intOf]; omega⟩
    · obtain rfl : k = 11 := by omega
      have hE := hc.done HT.out
      subst hE
      have hN := Lib.hid hn
      have hR := Lib.hid hr
      have hK := Lib.hid hkp
      clear HN HR HK HC hc hn hr hkp
      cases hz : allZ (d12 V)
      · go_wp2_with (first
          | ((with_reducible refine at_slot 31 ?_); refine wpList_load_row rfl 84 _ rfl (w.heap.size) rfl 84 _ (0, 0) _ hN.out.1 Try.underlying84 rfl (info_num' (d12_length V)) ?_)
          | (go_at_call 94; refine (zero_any _ _ (d12_length V) _).mono ?_; rintro e w2 ⟨rfl, hk⟩; have n2 := Lib.hid (hN.out.kp hk); have r2 := Lib.hid (hR.out.kp hk); have k2 := Lib.hid (kp_trans hK.out hk); clear hk; rw [hz])
          | ((with_reducible refine at_slot 34 ?_); refine wpList_load_row rfl 84 _ rfl (w.heap.size) rfl 84 _ (0, 0) _ n2.out.1 Try.underlying84 rfl (info_num' (d12_length V)) ?_)
          | ((with_reducible refine at_store 84 ?_); refine wpList_store_row rfl 84 _ _ rfl (w.heap.size + 1) (numC neg (d12 V)) rfl rfl 84 _ r2.out.1 (info_num' (d12_length V)) (by rw [numC_size r2.out.2, numC_size (d12_length V)]) (numC_one _ _) ?_))
        refine bodyPost_ret (v := .agg (numC neg (d12 V))) (results_cell_row rfl _ _ (w.heap.size + 1) 84 _ (0, 0) _ rfl (r2.out.row (neg' := neg) (d12_length V)).1 Try.underlying84 rfl (info_num' (d12_length V))) rfl ?_
        exact ⟨by simp [hz], kp_row k2.out (by simp) _⟩
      · go_wp2_with (first
          | ((with_reducible refine at_slot 31 ?_); refine wpList_load_row rfl 84 _ rfl (w.heap.size) rfl 84 _ (0, 0) _ hN.out.1 Try.underlying84 rfl (info_num' (d12_length V)) ?_)
          | (go_at_call 94; refine (zero_any _ _ (d12_length V) _).mono ?_; rintro e w2 ⟨rfl, hk⟩; have s0 := (hN.out.kp hk).sgn; have t0 := (hN.out.kp hk).froz 0; have n2 := Lib.hid ((hN.out.kp hk).setSgn false); have r2 := Lib.hid ((hR.out.kp hk).off (a := ⟨w.heap.size, 0, none⟩) (.bool false) (by simp)); have k2 := Lib.hid (kp_set (kp_trans hK.out hk) (a := ⟨w.heap.size, 0, none⟩) (by simp) (.bool false)); clear hk; rw [hz])
          | ((with_reducible refine at_slot 34 ?_); refine wpList_load_row rfl 84 _ rfl (w.heap.size) rfl 84 _ (0, 0) _ n2.out.1 Try.underlying84 rfl (info_num' (d12_length V)) ?_)
          | ((with_reducible refine at_store 84 ?_); refine wpList_store_row rfl 84 _ _ rfl (w.heap.size + 1) (numC false (d12 V)) rfl rfl 84 _ r2.out.1 (info_num' (d12_length V)) (by rw [numC_size r2.out.2, numC_size (d12_length V)]) (numC_one _ _) ?_))
        refine bodyPost_ret (v := .agg (numC false (d12 V))) (results_cell_row rfl _ _ (w.heap.size + 1) 84 _ (0, 0) _ rfl (r2.out.row (neg' := false) (d12_length V)).1 Try.underlying84 rfl (info_num' (d12_length V))) rfl ?_
        exact ⟨by simp [hz], kp_row k2.out (by simp) _⟩
end Go.Proofs.Ytcpbemoiodbliaa

/- Contracts of numbers in digits: Less, Sgn, size. -/
namespace Go.Proofs.Ytcpbemoiodbliaa
open Go.RowKit Go.Proofs.Num

/-- The number V as a Num. -/
def numI (V : Int) : Array Value := numC (decide (V < 0)) (d12 V.natAbs)
/-- Small enough. -/
def Sm (V : Int) : Prop := (V.natAbs : Int) < top12
theorem allZ_d12 {X : Int} (h0 : 0 ≤ X) (h : X < top12) : allZ (d12 X) = decide (X = 0) := by
  rw [Bool.eq_iff_iff, decide_eq_true_iff, allZ, List.all_eq_true]
  constructor
  · intro k
    refine zero_of_dg h0 h fun j hj => ?_
    have := k (dg X j) (List.mem_map.2 ⟨j, List.mem_range.2 hj, rfl⟩)
    simpa using this
  · rintro rfl x hx
    obtain ⟨j, _, rfl⟩ := List.mem_map.1 hx
    simp [dg_zero]
theorem numC_numI {neg : Bool} {X : Int} (h0 : 0 ≤ X) (h : X < top12) : numC (neg && !allZ (d12 X)) (d12 X) = numI (if neg then -X else X) := by
  rw [allZ_d12 h0 h]
  unfold numI
  cases neg
  · simp only [Bool.false_and, Bool.false_eq_true, if_false]
    congr 1
    · simp; omega
    · congr 1; omega
  · simp only [Bool.true_and, if_true]
    congr 1
    · rw [Bool.eq_iff_iff]; simp; omega
    · congr 1; omega
theorem allZ_num {V : Int} (h : Sm V) : allZ (d12 V.natAbs) = decide (V = 0) := by
  rw [allZ_d12 (by omega) h, Bool.eq_iff_iff, decide_eq_true_iff, decide_eq_true_iff]; omega
theorem d12_bd {X : Int} : ∀ d ∈ d12 X, 0 ≤ d ∧ d ≤ 2199023255552 := by
  intro d hd
  obtain ⟨j, _, rfl⟩ := List.mem_map.1 hd
  have := dg_bd X j
  omega
/-- carried at digits of a number: the number. -/
theorem carried_num (neg : Bool) (D : List Int) (X : Int) (hl : D.length = 12) (hv0 : hv D = X) (hb : ∀ d ∈ D, 0 ≤ d ∧ d ≤ 2199023255552) (ht : X < top12) (w : World) :
    Calls Try.prog 92 #[.agg (numC neg D)] w fun e w' => e = .returned (.agg (numI (if neg then -X else X))) ∧ Kp w w' :=
  (carried_any neg D X hl hv0 hb ht w).mono fun e w' ⟨h1, h2⟩ => ⟨by rw [h1, numC_numI (by rw [← hv0]; exact hv_nonneg fun d hd => (hb d hd).1) ht], h2⟩
theorem carried_less (V : Int) (h : Sm V) (w : World) :
    Calls Try.prog 92 #[.agg (numC (!decide (V < 0)) (d12 V.natAbs))] w fun e w' => e = .returned (.agg (numI (-V))) ∧ Kp w w' :=
  (carried_num _ _ V.natAbs (d12_length _) (hv_d12 (sh12_zero (by omega) h)) d12_bd h w).mono fun e w' ⟨h1, h2⟩ => ⟨by
    rw [h1]; congr 3
    by_cases k : V < 0 <;> simp [k] <;> omega, h2⟩
theorem ret_agg {a b : Array Value} (h : a = b) : Ending.returned (.agg a) = .returned (.agg b) := by rw [h]
theorem numI_len (V : Int) : (d12 (V.natAbs : Int)).length = 12 := d12_length _

theorem info_numI (V : Int) : (Try.prog.info? 84).map (·.size) = some (numI V).size := info_num' (d12_length _)
set_option maxHeartbeats 8000000 in
set_option maxRecDepth 100000 in
theorem less_core (p : Bool) (X Y : Int) (h0 : 0 ≤ X) (h : X < top12) (hy : (if !p then -X else X) = Y) (w : World) : Calls Try.prog 85 #[.agg (numC p (d12 X))] w fun e w' => e = .returned (.agg (numI Y)) ∧ Kp w w' := by
  have hc := fun (w : World) => carried_num (!p) (d12 X) X (d12_length _) (hv_d12 (sh12_zero h0 h)) d12_bd h w
  rw [hy] at hc
  have HC := Lib.hid hc
  clear h0 h hc hy
  go_enter Try.func85, Try.ntmps85
  go_upto_region 1 with fail
  obtain ⟨W, hW⟩ : ∃ W, (w.alloc (.cells (numC p (d12 X)) 84)).alloc (.cells #[.bool false, .int .i64 0, .int .i64 0, .int .i64 0, .int .i64 0, .int .i64 0, .int .i64 0, .int .i64 0, .int .i64 0, .int .i64 0, .int .i64 0, .int .i64 0, .int .i64 0] 84) = W := ⟨_, rfl⟩
  have hn : NumB W w.heap.size p (d12 X) := by rw [← hW]; exact (NumB.new w _ _ (d12_length _)).a _
  have hr : NumB W (w.heap.size + 1) false numZ := by
    rw [← hW]
    have h := NumB.new (w.alloc (.cells (numC p (d12 X)) 84)) false numZ rfl
    rwa [World.size_alloc] at h
  have hk : Kp w W := by rw [← hW]; exact kp_alloc (kp_alloc (kp_refl _) _) _
  rw [hW]; clear hW
  have s0 := hn.sgn
  have t0 := hn.froz 0
  have hN := Lib.hid (hn.setSgn (!p))
  have hR := Lib.hid (hr.off (a := ⟨w.heap.size, 0, none⟩) (.bool (!p)) (by simp))
  have hK := Lib.hid (kp_set hk (a := ⟨w.heap.size, 0, none⟩) (by simp) (.bool (!p)))
  clear hn hr hk
  go_wp2_with (first
    | ((with_reducible refine at_slot 7 ?_); refine wpList_load_row rfl 84 _ rfl (w.heap.size) rfl 84 _ (0, 0) _ hN.out.1 Try.underlying84 rfl (info_num' (d12_length _)) ?_)
    | (go_at_call 92; refine (HC.out _).mono ?_; rintro e w2 ⟨rfl, hk⟩; have r2 := Lib.hid (hR.out.kp hk); have k2 := Lib.hid (kp_trans hK.out hk); clear hk)
    | ((with_reducible refine at_store 84 ?_); refine wpList_store_row rfl 84 _ _ rfl (w.heap.size + 1) (numI (Y)) rfl rfl 84 _ r2.out.1 (info_numI _) (by rw [numC_size r2.out.2]; exact (numC_size (d12_length _)).symm) (numC_one _ _) ?_))
  refine bodyPost_ret (v := .agg (numI (Y))) (results_cell_row rfl _ _ (w.heap.size + 1) 84 _ (0, 0) _ rfl (setRow_heap _ _ _ _ _ _ r2.out.1) Try.underlying84 rfl (info_numI _)) rfl ?_
  exact ⟨rfl, kp_row k2.out (by simp) _⟩
theorem less_any (V : Int) (h : Sm V) (w : World) : Calls Try.prog 85 #[.agg (numI V)] w fun e w' => e = .returned (.agg (numI (-V))) ∧ Kp w w' :=
  less_core _ V.natAbs _ (by omega) h (by by_cases k : V < 0 <;> simp [k] <;> omega) w
set_option maxHeartbeats 8000000 in
set_option maxRecDepth 100000 in
theorem sgn_core (p : Bool) (X : Int) (b : Bool) (hb : allZ (d12 X) = b) (w : World) : Calls Try.prog 86 #[.agg (numC p (d12 X))] w fun e w' => e = .returned (.int .i64 (if b then 0 else if p then -1 else 1)) ∧ Kp w w' := by
  have hn : NumB (w.alloc (.cells (numC p (d12 X)) 84)) w.heap.size p (d12 X) := NumB.new w _ _ (d12_length _)
  have HN := Lib.hid hn
  have HB := Lib.hid hb
  clear hn hb
  go_enter Try.func86, Try.ntmps86
  cases b
  · cases p
    all_goals
      go_wp2_with (first
        | ((with_reducible refine at_slot 3 ?_); refine wpList_load_row rfl 84 _ rfl (w.heap.size) rfl 84 _ (0, 0) _ HN.out.1 Try.underlying84 rfl (info_num' (d12_length _)) ?_)
        | (go_at_call 94; refine (zero_any _ _ (d12_length _) _).mono ?_; rintro e w2 ⟨rfl, hk⟩; rw [HB.out]; have s0 := (HN.out.kp hk).sgn; have k2 := Lib.hid (kp_trans (kp_alloc (kp_refl _) _) hk); clear hk))
      go_ret
      exact ⟨rfl, k2.out⟩
  · go_wp2_with (first
      | ((with_reducible refine at_slot 3 ?_); refine wpList_load_row rfl 84 _ rfl (w.heap.size) rfl 84 _ (0, 0) _ HN.out.1 Try.underlying84 rfl (info_num' (d12_length _)) ?_)
      | (go_at_call 94; refine (zero_any _ _ (d12_length _) _).mono ?_; rintro e w2 ⟨rfl, hk⟩; rw [HB.out]; have k2 := Lib.hid (kp_trans (kp_alloc (kp_refl _) _) hk); clear hk))
    go_ret
    exact ⟨rfl, k2.out⟩
theorem sgn_any (V : Int) (h : Sm V) (w : World) : Calls Try.prog 86 #[.agg (numI V)] w fun e w' => e = .returned (.int .i64 V.sign) ∧ Kp w w' :=
  (sgn_core _ V.natAbs _ (allZ_num h) w).mono fun e w' ⟨h1, h2⟩ => ⟨by
    rw [h1]; congr 2
    rcases Int.lt_trichotomy V 0 with k | k | k
    · rw [Int.sign_eq_neg_one_of_neg k]; simp [k]; omega
    · subst k; rfl
    · rw [Int.sign_eq_one_of_pos k]; simp; omega, h2⟩
end Go.Proofs.Ytcpbemoiodbliaa

/- Contracts of numbers in digits: size. -/
namespace Go.Proofs.Ytcpbemoiodbliaa
open Go.RowKit Go.Proofs.Num

theorem d12_get (X : Int) (j : Nat) (h : j < (d12 X).length) : (d12 X)[j] = dg X j := by simp [d12]
theorem cmp_sh_lt {X Y : Int} {j : Nat} (h : sh X (j + 1) = sh Y (j + 1)) (hd : dg X j < dg Y j) : -1 = cmpI X Y := (cmpI_lt (lt_of_dg h hd)).symm
theorem cmp_sh_gt {X Y : Int} {j : Nat} (h : sh X (j + 1) = sh Y (j + 1)) (hd : dg Y j < dg X j) : 1 = cmpI X Y := (cmpI_gt (lt_of_dg h.symm hd)).symm
set_option maxHeartbeats 8000000 in
set_option maxRecDepth 100000 in
theorem size_num (p q : Bool) (X Y : Int) (hx : sh X 12 = 0) (hy : sh Y 12 = 0) (w : World) : Calls Try.prog 93 #[.agg (numC p (d12 X)), .agg (numC q (d12 Y))] w fun e w' => e = .returned (.int .i64 (cmpI X Y)) ∧ Kp w w' := by
  have H0 := Lib.hid (hx.trans hy.symm)
  clear hx hy
  go_enter Try.func93, Try.ntmps93
  go_upto_region 1 with fail
  obtain ⟨W, hW⟩ : ∃ W, (w.alloc (.cells (numC p (d12 X)) 84)).alloc (.cells (numC q (d12 Y)) 84) = W := ⟨_, rfl⟩
  have hn : NumB W w.heap.size p (d12 X) := by rw [← hW]; exact (NumB.new w _ _ (d12_length _)).a _
  have hr : NumB W (w.heap.size + 1) q (d12 Y) := by
    rw [← hW]
    have h := NumB.new (w.alloc (.cells (numC p (d12 X)) 84)) q (d12 Y) (d12_length _)
    rwa [World.size_alloc] at h
  have hk : Kp w W := by rw [← hW]; exact kp_alloc (kp_alloc (kp_refl _) _) _
  rw [hW]; clear hW
  have hN := Lib.hid hn
  have hR := Lib.hid hr
  have hK := Lib.hid hk
  clear hn hr hk
  go_wp2_with fail
  go_loopw [5] (fun i wr => ∃ k : Nat, k ≤ 12 ∧ i = .int .i64 ((k : Int) - 1) ∧ sh X k = sh Y k ∧ NumB wr w.heap.size p (d12 X) ∧ NumB wr (w.heap.size + 1) q (d12 Y) ∧ Kp w wr) (fun i _ => (intOf i + 1).toNat)
  case atStart => exact ⟨12, by omega, rfl, H0.out, hN.out, hR.out, hK.out⟩
  case round =>
    obtain ⟨k, hk, rfl, hs, hn, hr, hkp⟩ := hrel
    clear hN hR hK H0
    cases k with
    | zero =>
      have hs' : X = Y := hs
      have he := Lib.hid (cmpI_eq hs')
      clear hs hs'
      have hK := Lib.hid hkp
      clear hn hr hkp
      go_wp2
      go_ret
      exact ⟨ret_int he.out.symm, hK.out⟩
    | succ j =>
      have e : ((j + 1 : Nat) : Int) - 1 = (j : Int) := by omega
      rw [e]
      have b1 : 0 ≤ (j : Int) := by omega
      have b2 : (j : Int) < 12 := by omega
      have x0 := hn.cell j (by rw [d12_length]; omega)
      have x1 := hr.cell j (by rw [d12_length]; omega)
      rw [d12_get] at x0 x1
      have hN := Lib.hid hn
      have hR := Lib.hid hr
      have hK := Lib.hid hkp
      clear hn hr hkp e
      rcases Int.lt_trichotomy (dg X j) (dg Y j) with h | h | h
      · have he := Lib.hid (cmp_sh_lt hs h)
        clear hs
        generalize dg X j = a at *
        generalize dg Y j = b at *
        have n1 : (a == b) = false := by simp; omega
        have n2 : (a != b) = true := by simp; omega
        go_wp2_with fail
        go_quiet (fail)
        go_wp2_with fail
        go_quiet (fail)
        go_wp2_with fail
        go_ret
        exact ⟨ret_int he.out, kp_drewN (kp_drewN hK.out _) _⟩
      · have he := Lib.hid (eq_of_dg hs h)
        clear hs
        generalize dg X j = a at *
        generalize dg Y j = b at *
        subst h
        go_wp2_with fail
        go_quiet (fail)
        go_wp2_with fail
        exact ⟨⟨j, by omega, by go_num, he.out, hN.out, hR.out, kp_drewN hK.out _⟩, by simp [intOf]⟩
      · have he := Lib.hid (cmp_sh_gt hs h)
        clear hs
        generalize dg X j = a at *
        generalize dg Y j = b at *
        have n1 : (a == b) = false := by simp; omega
        have n2 : (a != b) = true := by simp; omega
        go_wp2_with fail
        go_quiet (fail)
        go_wp2_with fail
        go_quiet (fail)
        go_wp2_with fail
        go_ret
        exact ⟨ret_int he.out, kp_drewN (kp_drewN hK.out _) _⟩
end Go.Proofs.Ytcpbemoiodbliaa

/- Contracts of numbers in digits: Of. -/
namespace Go.Proofs.Ytcpbemoiodbliaa
open Go.RowKit Go.Proofs.Num Go.Proofs.Geo

/-- The digits while the first k of U are laid. -/
def ofE (U : Int) (k : Nat) : List Int := (List.range 12).map fun j => if j < k then dg U j else 0
theorem ofE_len (U : Int) (k : Nat) : (ofE U k).length = 12 := by simp [ofE]
theorem ofE_zero (U : Int) : ofE U 0 = numZ := rfl
theorem ofE_set (U : Int) (k : Nat) : (ofE U k).set k (dg U k) = ofE U (k + 1) := by
  apply List.ext_getElem
  · simp [ofE]
  · intro i h1 h2
    rw [List.getElem_set]
    simp only [ofE, List.getElem_map, List.getElem_range]
    by_cases e : k = i
    · subst e; simp
    · rw [if_neg e]
      by_cases e2 : i < k
      · rw [if_pos e2, if_pos (by omega)]
      · rw [if_neg e2, if_neg (by omega)]
theorem sh_zero (j : Nat) : sh 0 j = 0 := by
  induction j with
  | zero => rfl
  | succ j ih => rw [sh_succ, ih]; rfl
theorem dg_high {U : Int} (h0 : 0 ≤ U) (h : U < 18446744073709551616) (j : Nat) (hj : 4 ≤ j) : dg U j = 0 := by
  obtain ⟨i, rfl⟩ : ∃ i, j = i + 4 := ⟨j - 4, by omega⟩
  have e : ∀ i, sh U (i + 4) = 0 := by
    intro i
    induction i with
    | zero => show U / 65536 / 65536 / 65536 / 65536 = 0; omega
    | succ i ih => rw [show i + 1 + 4 = (i + 4) + 1 from rfl, sh_succ, ih]; rfl
  unfold dg; rw [e]; rfl
theorem ofE_four {U : Int} (h0 : 0 ≤ U) (h : U < 18446744073709551616) : ofE U 4 = d12 U := by
  unfold ofE d12
  apply List.map_congr_left
  intro j _
  by_cases e : j < 4
  · rw [if_pos e]
  · rw [if_neg e, dg_high h0 h j (by omega)]
theorem mask16 {Y : Int} (h0 : 0 ≤ Y) (h : Y < 18446744073709551616) : wrap64 (bits BinOp.and IntKind.u64 Y 65535) = Y % 65536 := by
  have k := bits_mask .u64 64 (by decide) (fun n a b => by rw [IntKind.wrap_u64]; omega) 16 (by decide) Y h0 (by omega)
  have e : ((2 : Int) ^ 16 - 1) = 65535 := by decide
  have e2 : ((2 : Int) ^ 16) = 65536 := by decide
  rw [e, e2] at k
  rw [k, ← IntWalk.i64_left]
  exact IntWalk.i64_in _ (by omega)
theorem mask_0 {U : Int} (h0 : 0 ≤ U) (h : U < 18446744073709551616) : wrap64 (bits BinOp.and IntKind.u64 U 65535) = dg U 0 := mask16 h0 h
theorem mask_1 {U : Int} (h0 : 0 ≤ U) (h : U < 18446744073709551616) : wrap64 (bits BinOp.and IntKind.u64 (U / 65536) 65535) = dg U 1 := mask16 (by omega) (by omega)
theorem mask_2 {U : Int} (h0 : 0 ≤ U) (h : U < 18446744073709551616) : wrap64 (bits BinOp.and IntKind.u64 (U / 4294967296) 65535) = dg U 2 := by
  rw [mask16 (by omega) (by omega)]; show _ = U / 65536 / 65536 % 65536; omega
theorem mask_3 {U : Int} (h0 : 0 ≤ U) (h : U < 18446744073709551616) : wrap64 (bits BinOp.and IntKind.u64 (U / 281474976710656) 65535) = dg U 3 := by
  rw [mask16 (by omega) (by omega)]; show _ = U / 65536 / 65536 / 65536 % 65536; omega

set_option maxHeartbeats 8000000 in
set_option maxRecDepth 100000 in
theorem of_core (n U : Int) (b : Bool) (hb : decide (n < 0) = b) (hU : 0 ≤ U ∧ U < 18446744073709551616) (hn : (if b then IntKind.u64.wrap (-IntKind.u64.wrap n) else IntKind.u64.wrap n) = U) (w : World) :
    Calls Try.prog 82 #[.int .i64 n] w fun e w' => e = .returned (.agg (numC b (d12 U))) ∧ Kp w w' := by
  have H4 := Lib.hid (ofE_four hU.1 hU.2)
  have m0 := mask_0 hU.1 hU.2
  have m1 := mask_1 hU.1 hU.2
  have m2 := mask_2 hU.1 hU.2
  have m3 := mask_3 hU.1 hU.2
  cases b
  · have hn' : IntKind.u64.wrap n = U := hn
    have hb' : ¬ n < 0 := by simpa using hb
    clear hn
    go_enter Try.func82, Try.ntmps82
    go_wp2_with fail
    obtain ⟨W, hW⟩ : ∃ W, (w.alloc (.cells #[.bool false, .int .i64 0, .int .i64 0, .int .i64 0, .int .i64 0, .int .i64 0, .int .i64 0, .int .i64 0, .int .i64 0, .int .i64 0, .int .i64 0, .int .i64 0, .int .i64 0] 84)).alloc (.cells #[.bool false, .int .i64 0, .int .i64 0, .int .i64 0, .int .i64 0, .int .i64 0, .int .i64 0, .int .i64 0, .int .i64 0, .int .i64 0, .int .i64 0, .int .i64 0, .int .i64 0] 84) = W := ⟨_, rfl⟩
    have hr : NumB W w.heap.size false numZ := by rw [← hW]; exact (NumB.new w false numZ rfl).a _
    have hx : NumB W (w.heap.size + 1) false (ofE U 0) := by
      rw [← hW]
      have h := NumB.new (w.alloc (.cells #[.bool false, .int .i64 0, .int .i64 0, .int .i64 0, .int .i64 0, .int .i64 0, .int .i64 0, .int .i64 0, .int .i64 0, .int .i64 0, .int .i64 0, .int .i64 0, .int .i64 0] 84)) false numZ rfl
      rwa [World.size_alloc] at h
    have hk : Kp w W := by rw [← hW]; exact kp_alloc (kp_alloc (kp_refl _) _) _
    rw [hW]; clear hW
    go_loopw [5] (fun i wr => ∃ (k : Nat) (v : Int), (k, v) ∈ [(0, 0), (1, 1), (2, 2), (3, 3), (4, 4)] ∧ i = .int .i64 v ∧ NumB wr w.heap.size false numZ ∧ NumB wr (w.heap.size + 1) false (ofE U k) ∧ Kp w wr) (fun i _ => (4 - intOf i).toNat)
    case atStart => exact ⟨0, 0, by simp, rfl, hr, hx, hk⟩
    case round =>
      obtain ⟨k, v, hm, rfl, hr, hx, hk⟩ := hrel
      simp only [List.mem_cons, Prod.mk.injEq, List.not_mem_nil, or_false] at hm
      rcases hm with ⟨rfl, rfl⟩ | ⟨rfl, rfl⟩ | ⟨rfl, rfl⟩ | ⟨rfl, rfl⟩ | ⟨rfl, rfl⟩
      · have x0 := hx.cell 0 (by rw [ofE_len]; omega)
        have y0 : wr.frozen? ⟨w.heap.size + 1, 1, none⟩ = false := hx.froz 1
        have hX := Lib.hid (hx.set 0 (dg U 0))
        have hR := Lib.hid (hr.off (a := ⟨w.heap.size + 1, 1, none⟩) (.int .i64 (dg U 0)) (by simp))
        have hK := Lib.hid (kp_set hk (a := ⟨w.heap.size + 1, 1, none⟩) (by simp) (.int .i64 (dg U 0)))
        clear hx hr hk
        go_wp2_with fail
        exact ⟨⟨1, 1, by simp, rfl, hR.out, by rw [← ofE_set]; exact hX.out, hK.out⟩, by simp [intOf]⟩
      · have x0 := hx.cell 1 (by rw [ofE_len]; omega)
        have y0 : wr.frozen? ⟨w.heap.size + 1, 2, none⟩ = false := hx.froz 2
        have hX := Lib.hid (hx.set 1 (dg U 1))
        have hR := Lib.hid (hr.off (a := ⟨w.heap.size + 1, 2, none⟩) (.int .i64 (dg U 1)) (by simp))
        have hK := Lib.hid (kp_set hk (a := ⟨w.heap.size + 1, 2, none⟩) (by simp) (.int .i64 (dg U 1)))
        clear hx hr hk
        go_wp2_with fail
        exact ⟨⟨2, 2, by simp, rfl, hR.out, by rw [← ofE_set]; exact hX.out, hK.out⟩, by simp [intOf]⟩
      · have x0 := hx.cell 2 (by rw [ofE_len]; omega)
        have y0 : wr.frozen? ⟨w.heap.size + 1, 3, none⟩ = false := hx.froz 3
        have hX := Lib.hid (hx.set 2 (dg U 2))
        have hR := Lib.hid (hr.off (a := ⟨w.heap.size + 1, 3, none⟩) (.int .i64 (dg U 2)) (by simp))
        have hK := Lib.hid (kp_set hk (a := ⟨w.heap.size + 1, 3, none⟩) (by simp) (.int .i64 (dg U 2)))
        clear hx hr hk
        go_wp2_with fail
        exact ⟨⟨3, 3, by simp, rfl, hR.out, by rw [← ofE_set]; exact hX.out, hK.out⟩, by simp [intOf]⟩
      · have x0 := hx.cell 3 (by rw [ofE_len]; omega)
        have y0 : wr.frozen? ⟨w.heap.size + 1, 4, none⟩ = false := hx.froz 4
        have hX := Lib.hid (hx.set 3 (dg U 3))
        have hR := Lib.hid (hr.off (a := ⟨w.heap.size + 1, 4, none⟩) (.int .i64 (dg U 3)) (by simp))
        have hK := Lib.hid (kp_set hk (a := ⟨w.heap.size + 1, 4, none⟩) (by simp) (.int .i64 (dg U 3)))
        clear hx hr hk
        go_wp2_with fail
        exact ⟨⟨4, 4, by simp, rfl, hR.out, by rw [← ofE_set]; exact hX.out, hK.out⟩, by simp [intOf]⟩
      · have hR := Lib.hid hr
        have hX := Lib.hid hx
        have hK := Lib.hid hk
        clear hr hx hk
        go_wp2_with (first
          | ((with_reducible refine at_slot 28 ?_); refine wpList_load_row rfl 84 _ rfl (w.heap.size + 1) rfl 84 _ (0, 0) _ hX.out.1 Try.underlying84 rfl (info_num' (ofE_len U 4)) ?_)
          | ((with_reducible refine at_store 84 ?_); refine wpList_store_row rfl 84 _ _ rfl (w.heap.size) (numC false (ofE U 4)) rfl rfl 84 _ hR.out.1 (info_num' (ofE_len U 4)) (by rw [numC_size hR.out.2, numC_size (ofE_len U 4)]) (numC_one _ _) ?_))
        refine bodyPost_ret (v := .agg (numC false (ofE U 4))) (results_cell_row rfl _ _ (w.heap.size) 84 _ (0, 0) _ rfl (setRow_heap _ _ _ _ _ _ hR.out.1) Try.underlying84 rfl (info_num' (ofE_len U 4))) rfl ?_
        exact ⟨ret_agg (by rw [H4.out]), kp_row hK.out (by simp) _⟩
  · have hn' : IntKind.u64.wrap (-IntKind.u64.wrap n) = U := hn
    have hb' : n < 0 := by simpa using hb
    clear hn
    go_enter Try.func82, Try.ntmps82
    go_wp2_with fail
    obtain ⟨W, hW⟩ : ∃ W, (w.alloc (.cells #[.bool false, .int .i64 0, .int .i64 0, .int .i64 0, .int .i64 0, .int .i64 0, .int .i64 0, .int .i64 0, .int .i64 0, .int .i64 0, .int .i64 0, .int .i64 0, .int .i64 0] 84)).alloc (.cells #[.bool true, .int .i64 0, .int .i64 0, .int .i64 0, .int .i64 0, .int .i64 0, .int .i64 0, .int .i64 0, .int .i64 0, .int .i64 0, .int .i64 0, .int .i64 0, .int .i64 0] 84) = W := ⟨_, rfl⟩
    have hr : NumB W w.heap.size false numZ := by rw [← hW]; exact (NumB.new w false numZ rfl).a _
    have hx : NumB W (w.heap.size + 1) true (ofE U 0) := by
      rw [← hW]
      have h := NumB.new (w.alloc (.cells #[.bool false, .int .i64 0, .int .i64 0, .int .i64 0, .int .i64 0, .int .i64 0, .int .i64 0, .int .i64 0, .int .i64 0, .int .i64 0, .int .i64 0, .int .i64 0, .int .i64 0] 84)) true numZ rfl
      rwa [World.size_alloc] at h
    have hk : Kp w W := by rw [← hW]; exact kp_alloc (kp_alloc (kp_refl _) _) _
    rw [hW]; clear hW
    go_loopw [5] (fun i wr => ∃ (k : Nat) (v : Int), (k, v) ∈ [(0, 0), (1, 1), (2, 2), (3, 3), (4, 4)] ∧ i = .int .i64 v ∧ NumB wr w.heap.size false numZ ∧ NumB wr (w.heap.size + 1) true (ofE U k) ∧ Kp w wr) (fun i _ => (4 - intOf i).toNat)
    case atStart => exact ⟨0, 0, by simp, rfl, hr, hx, hk⟩
    case round =>
      obtain ⟨k, v, hm, rfl, hr, hx, hk⟩ := hrel
      simp only [List.mem_cons, Prod.mk.injEq, List.not_mem_nil, or_false] at hm
      rcases hm with ⟨rfl, rfl⟩ | ⟨rfl, rfl⟩ | ⟨rfl, rfl⟩ | ⟨rfl, rfl⟩ | ⟨rfl, rfl⟩
      · have x0 := hx.cell 0 (by rw [ofE_len]; omega)
        have y0 : wr.frozen? ⟨w.heap.size + 1, 1, none⟩ = false := hx.froz 1
        have hX := Lib.hid (hx.set 0 (dg U 0))
        have hR := Lib.hid (hr.off (a := ⟨w.heap.size + 1, 1, none⟩) (.int .i64 (dg U 0)) (by simp))
        have hK := Lib.hid (kp_set hk (a := ⟨w.heap.size + 1, 1, none⟩) (by simp) (.int .i64 (dg U 0)))
        clear hx hr hk
        go_wp2_with fail
        exact ⟨⟨1, 1, by simp, rfl, hR.out, by rw [← ofE_set]; exact hX.out, hK.out⟩, by simp [intOf]⟩
      · have x0 := hx.cell 1 (by rw [ofE_len]; omega)
        have y0 : wr.frozen? ⟨w.heap.size + 1, 2, none⟩ = false := hx.froz 2
        have hX := Lib.hid (hx.set 1 (dg U 1))
        have hR := Lib.hid (hr.off (a := ⟨w.heap.size + 1, 2, none⟩) (.int .i64 (dg U 1)) (by simp))
        have hK := Lib.hid (kp_set hk (a := ⟨w.heap.size + 1, 2, none⟩) (by simp) (.int .i64 (dg U 1)))
        clear hx hr hk
        go_wp2_with fail
        exact ⟨⟨2, 2, by simp, rfl, hR.out, by rw [← ofE_set]; exact hX.out, hK.out⟩, by simp [intOf]⟩
      · have x0 := hx.cell 2 (by rw [ofE_len]; omega)
        have y0 : wr.frozen? ⟨w.heap.size + 1, 3, none⟩ = false := hx.froz 3
        have hX := Lib.hid (hx.set 2 (dg U 2))
        have hR := Lib.hid (hr.off (a := ⟨w.heap.size + 1, 3, none⟩) (.int .i64 (dg U 2)) (by simp))
        have hK := Lib.hid (kp_set hk (a := ⟨w.heap.size + 1, 3, none⟩) (by simp) (.int .i64 (dg U 2)))
        clear hx hr hk
        go_wp2_with fail
        exact ⟨⟨3, 3, by simp, rfl, hR.out, by rw [← ofE_set]; exact hX.out, hK.out⟩, by simp [intOf]⟩
      · have x0 := hx.cell 3 (by rw [ofE_len]; omega)
        have y0 : wr.frozen? ⟨w.heap.size + 1, 4, none⟩ = false := hx.froz 4
        have hX := Lib.hid (hx.set 3 (dg U 3))
        have hR := Lib.hid (hr.off (a := ⟨w.heap.size + 1, 4, none⟩) (.int .i64 (dg U 3)) (by simp))
        have hK := Lib.hid (kp_set hk (a := ⟨w.heap.size + 1, 4, none⟩) (by simp) (.int .i64 (dg U 3)))
        clear hx hr hk
        go_wp2_with fail
        exact ⟨⟨4, 4, by simp, rfl, hR.out, by rw [← ofE_set]; exact hX.out, hK.out⟩, by simp [intOf]⟩
      · have hR := Lib.hid hr
        have hX := Lib.hid hx
        have hK := Lib.hid hk
        clear hr hx hk
        go_wp2_with (first
          | ((with_reducible refine at_slot 28 ?_); refine wpList_load_row rfl 84 _ rfl (w.heap.size + 1) rfl 84 _ (0, 0) _ hX.out.1 Try.underlying84 rfl (info_num' (ofE_len U 4)) ?_)
          | ((with_reducible refine at_store 84 ?_); refine wpList_store_row rfl 84 _ _ rfl (w.heap.size) (numC true (ofE U 4)) rfl rfl 84 _ hR.out.1 (info_num' (ofE_len U 4)) (by rw [numC_size hR.out.2, numC_size (ofE_len U 4)]) (numC_one _ _) ?_))
        refine bodyPost_ret (v := .agg (numC true (ofE U 4))) (results_cell_row rfl _ _ (w.heap.size) 84 _ (0, 0) _ rfl (setRow_heap _ _ _ _ _ _ hR.out.1) Try.underlying84 rfl (info_num' (ofE_len U 4))) rfl ?_
        exact ⟨ret_agg (by rw [H4.out]), kp_row hK.out (by simp) _⟩

theorem of_any (n : Int) (h : I64 n) (w : World) : Calls Try.prog 82 #[.int .i64 n] w fun e w' => e = .returned (.agg (numI n)) ∧ Kp w w' :=
  of_core n n.natAbs _ rfl (by unfold I64 at h; omega) (by
    by_cases k : n < 0
    · simp only [k, decide_true, if_true]; exact size_neg h k
    · simp only [k, decide_false, Bool.false_eq_true, if_false]; exact size_pos h k) w
end Go.Proofs.Ytcpbemoiodbliaa

/- Contracts of numbers in digits: Plus. -/
namespace Go.Proofs.Ytcpbemoiodbliaa
open Go.RowKit Go.Proofs.Num Go.Proofs.Geo

theorem map_set {f g : Nat → Int} (n k : Nat) (v : Int) (hv : k < n → g k = v) (h : ∀ j, j ≠ k → g j = f j) : ((List.range n).map f).set k v = (List.range n).map g := by
  apply List.ext_getElem
  · simp
  · intro i h1 h2
    rw [List.getElem_set]
    simp only [List.getElem_map, List.getElem_range]
    by_cases e : k = i
    · subst e; rw [if_pos rfl, hv (by simpa using h2)]
    · rw [if_neg e, h i (fun e2 => e e2.symm)]
theorem hv_map_add (f g : Nat → Int) (l : List Nat) : hv (l.map fun j => f j + g j) = hv (l.map f) + hv (l.map g) := by
  induction l with
  | nil => rfl
  | cons a l ih => simp only [List.map_cons, hv, ih]; omega
def addE (X Y : Int) (k : Nat) : List Int := (List.range 12).map fun j => if j < k then dg X j + dg Y j else dg X j
theorem addE_len (X Y : Int) (k : Nat) : (addE X Y k).length = 12 := by simp [addE]
theorem addE_zero (X Y : Int) : addE X Y 0 = d12 X := by simp [addE, d12]
theorem addE_get (X Y : Int) (k : Nat) (h : k < (addE X Y k).length) : (addE X Y k)[k] = dg X k := by simp [addE]
theorem addE_set (X Y : Int) (k : Nat) : (addE X Y k).set k (dg X k + dg Y k) = addE X Y (k + 1) := by
  unfold addE
  refine map_set _ _ _ (fun _ => by simp) fun j hj => ?_
  by_cases e : j < k
  · rw [if_pos e, if_pos (by omega)]
  · rw [if_neg e, if_neg (by omega)]
theorem addE_all (X Y : Int) : addE X Y 12 = (List.range 12).map fun j => dg X j + dg Y j := by
  unfold addE
  apply List.map_congr_left
  intro j hj
  rw [if_pos (List.mem_range.1 hj)]
theorem addE_hv {X Y : Int} (hx : sh X 12 = 0) (hy : sh Y 12 = 0) : hv (addE X Y 12) = X + Y := by
  rw [addE_all, hv_map_add]
  have e1 := hv_d12 hx
  have e2 := hv_d12 hy
  unfold d12 at e1 e2
  rw [e1, e2]
theorem addE_bd (X Y : Int) : ∀ d ∈ addE X Y 12, 0 ≤ d ∧ d ≤ 2199023255552 := by
  intro d hd
  rw [addE_all] at hd
  obtain ⟨j, _, rfl⟩ := List.mem_map.1 hd
  have := dg_bd X j
  have := dg_bd Y j
  omega

/-- What is borrowed from the digits from k on. -/
def bo (X Y : Int) (k : Nat) : Int := sh X k - sh Y k - sh (X - Y) k
theorem bo_step (X Y : Int) (k : Nat) : dg X k - bo X Y k - dg Y k = dg (X - Y) k - 65536 * bo X Y (k + 1) := by
  unfold bo
  have e1 := sh_split X k
  have e2 := sh_split Y k
  have e3 := sh_split (X - Y) k
  omega
theorem bo_zero (X Y : Int) : bo X Y 0 = 0 := by simp [bo, sh]
theorem bo_bd (X Y : Int) (k : Nat) : bo X Y k = 0 ∨ bo X Y k = 1 := by
  induction k with
  | zero => left; exact bo_zero X Y
  | succ k ih =>
    have h := bo_step X Y k
    have b1 := dg_bd X k
    have b2 := dg_bd Y k
    have b3 := dg_bd (X - Y) k
    omega
theorem bo_top {X Y : Int} (hx : sh X 12 = 0) (hy : sh Y 12 = 0) (hz : sh (X - Y) 12 = 0) : bo X Y 12 = 0 := by unfold bo; rw [hx, hy, hz]; rfl
def subE (X Y : Int) (k : Nat) : List Int := (List.range 12).map fun j => if j < k then dg (X - Y) j else if j = k then dg X j - bo X Y k else dg X j
theorem subE_len (X Y : Int) (k : Nat) : (subE X Y k).length = 12 := by simp [subE]
theorem subE_zero (X Y : Int) : subE X Y 0 = d12 X := by
  unfold subE d12
  apply List.map_congr_left
  intro j _
  rw [if_neg (by omega)]
  by_cases e : j = 0
  · rw [if_pos e, bo_zero]; omega
  · rw [if_neg e]
theorem subE_all (X Y : Int) : subE X Y 12 = d12 (X - Y) := by
  unfold subE d12
  apply List.map_congr_left
  intro j hj
  rw [if_pos (List.mem_range.1 hj)]
theorem subE_get (X Y : Int) (k : Nat) (h : k < (subE X Y k).length) : (subE X Y k)[k] = dg X k - bo X Y k := by simp [subE]
theorem subE_get1 (X Y : Int) (k : Nat) (h : k + 1 < (subE X Y k).length) : (subE X Y k)[k + 1] = dg X (k + 1) := by simp [subE]; omega
theorem subE_next0 {X Y : Int} {k : Nat} (h : bo X Y (k + 1) = 0) : (subE X Y k).set k (dg X k - bo X Y k - dg Y k) = subE X Y (k + 1) := by
  have hs := bo_step X Y k
  unfold subE
  refine map_set _ _ _ (fun _ => by rw [if_pos (by omega)]; omega) fun j hj => ?_
  by_cases e : j < k
  · rw [if_pos e, if_pos (by omega)]
  · rw [if_neg e, if_neg (by omega), if_neg hj]
    by_cases e2 : j = k + 1
    · rw [if_pos e2, h]; omega
    · rw [if_neg e2]
theorem subE_next1 {X Y : Int} {k : Nat} (h : bo X Y (k + 1) = 1) : (((subE X Y k).set k (dg X k - bo X Y k - dg Y k)).set k (dg X k - bo X Y k - dg Y k + 65536)).set (k + 1) (dg X (k + 1) - 1) = subE X Y (k + 1) := by
  have hs := bo_step X Y k
  rw [List.set_set]
  unfold subE
  rw [map_set (g := fun j => if j < k + 1 then dg (X - Y) j else dg X j) _ _ _ (fun _ => by rw [if_pos (by omega)]; omega) fun j hj => ?_]
  · refine map_set _ _ _ (fun _ => by rw [if_neg (by omega), if_pos rfl, h]) fun j hj => ?_
    by_cases e : j < k + 1
    · rw [if_pos e, if_pos e]
    · rw [if_neg e, if_neg e, if_neg hj]
  · by_cases e : j < k
    · rw [if_pos e, if_pos (by omega)]
    · rw [if_neg e, if_neg (by omega), if_neg hj]

set_option maxHeartbeats 8000000 in
set_option maxRecDepth 100000 in
theorem plus_same (p : Bool) (X Y V : Int) (hx : sh X 12 = 0) (hy : sh Y 12 = 0) (ht : X + Y < top12) (hV : (if p then -(X + Y) else X + Y) = V) (w : World) :
    Calls Try.prog 84 #[.agg (numC p (d12 X)), .agg (numC p (d12 Y))] w fun e w' => e = .returned (.agg (numI V)) ∧ Kp w w' := by
  have hc := fun (w : World) => carried_num p (addE X Y 12) (X + Y) (addE_len X Y 12) (addE_hv hx hy) (addE_bd X Y) ht w
  rw [hV] at hc
  have HC := Lib.hid hc
  clear hc hx hy ht hV
  have hpp : (p == p) = true := by simp
  go_enter Try.func84, Try.ntmps84
  go_upto_region 1 with fail
  obtain ⟨W, hW⟩ : ∃ W, ((w.alloc (.cells (numC p (d12 X)) 84)).alloc (.cells (numC p (d12 Y)) 84)).alloc (.cells #[.bool false, .int .i64 0, .int .i64 0, .int .i64 0, .int .i64 0, .int .i64 0, .int .i64 0, .int .i64 0, .int .i64 0, .int .i64 0, .int .i64 0, .int .i64 0, .int .i64 0] 84) = W := ⟨_, rfl⟩
  have hx : NumB W w.heap.size p (d12 X) := by rw [← hW]; exact ((NumB.new w _ _ (d12_length _)).a _).a _
  have hy : NumB W (w.heap.size + 1) p (d12 Y) := by
    rw [← hW]
    have h := (NumB.new (w.alloc (.cells (numC p (d12 X)) 84)) p (d12 Y) (d12_length _)).a (.cells #[.bool false, .int .i64 0, .int .i64 0, .int .i64 0, .int .i64 0, .int .i64 0, .int .i64 0, .int .i64 0, .int .i64 0, .int .i64 0, .int .i64 0, .int .i64 0, .int .i64 0] 84)
    rwa [World.size_alloc] at h
  have hr : NumB W (w.heap.size + 1 + 1) false numZ := by
    rw [← hW]
    have h := NumB.new ((w.alloc (.cells (numC p (d12 X)) 84)).alloc (.cells (numC p (d12 Y)) 84)) false numZ rfl
    rwa [World.size_alloc, World.size_alloc] at h
  have hk : Kp w W := by rw [← hW]; exact kp_alloc (kp_alloc (kp_alloc (kp_refl _) _) _) _
  rw [hW]; clear hW
  have s0 := hx.sgn
  have s1 := hy.sgn
  rw [← addE_zero X Y] at hx
  have HX := Lib.hid hx
  have HY := Lib.hid hy
  have HR := Lib.hid hr
  have HK := Lib.hid hk
  clear hx hy hr hk
  go_wp2_with fail
  go_loopw [5] (fun i wr => ∃ k : Nat, k ≤ 12 ∧ i = .int .i64 k ∧ NumB wr w.heap.size p (addE X Y k) ∧ NumB wr (w.heap.size + 1) p (d12 Y) ∧ NumB wr (w.heap.size + 1 + 1) false numZ ∧ Kp w wr) (fun i _ => 12 - (intOf i).toNat)
  case atStart => exact ⟨0, by omega, rfl, HX.out, HY.out, HR.out, HK.out⟩
  case round =>
    obtain ⟨k, hk, rfl, hx, hy, hr, hkp⟩ := hrel
    clear HX HY HR HK
    by_cases hlt : k < 12
    · have b1 : 0 ≤ (k : Int) := by omega
      have b2 : (k : Int) < 12 := by omega
      have x0 := hx.cell k (by rw [addE_len]; omega)
      have x1 := hy.cell k (by rw [d12_length]; omega)
      rw [addE_get] at x0
      rw [d12_get] at x1
      have y0 := hx.froz (1 + k)
      have hx2 := hx.set k (dg X k + dg Y k)
      rw [addE_set] at hx2
      have bx := dg_bd X k
      have bY := dg_bd Y k
      have hX := Lib.hid hx2
      have hY := Lib.hid (hy.off (a := ⟨w.heap.size, 1 + k, none⟩) (.int .i64 (dg X k + dg Y k)) (by simp))
      have hR := Lib.hid (hr.off (a := ⟨w.heap.size, 1 + k, none⟩) (.int .i64 (dg X k + dg Y k)) (by simp; omega))
      have hK := Lib.hid (kp_set hkp (a := ⟨w.heap.size, 1 + k, none⟩) (by simp) (.int .i64 (dg X k + dg Y k)))
      clear hx hy hr hkp hx2
      generalize dg X k = a at *
      generalize dg Y k = b at *
      go_wp2_with fail
      go_region
      go_wp2_with fail
      exact ⟨⟨k + 1, by omega, by go_num, hX.out.drew, hY.out.drew, hR.out.drew, kp_drew hK.out⟩, by simp [intOf]; omega⟩
    · obtain rfl : k = 12 := by omega
      have hX := Lib.hid hx
      have hR := Lib.hid hr
      have hK := Lib.hid hkp
      clear hx hy hr hkp
      go_wp2_with (first
        | ((with_reducible refine at_slot 28 ?_); refine wpList_load_row rfl 84 _ rfl (w.heap.size) rfl 84 _ (0, 0) _ hX.out.1 Try.underlying84 rfl (info_num' (addE_len X Y 12)) ?_)
        | (go_at_call 92; refine (HC.out _).mono ?_; rintro e w2 ⟨rfl, hk⟩; have r2 := Lib.hid (hR.out.kp hk); have k2 := Lib.hid (kp_trans hK.out hk); clear hk)
        | ((with_reducible refine at_store 84 ?_); refine wpList_store_row rfl 84 _ _ rfl (w.heap.size + 1 + 1) (numI (V)) rfl rfl 84 _ r2.out.1 (info_numI _) (by rw [numC_size r2.out.2]; exact (numC_size (d12_length _)).symm) (numC_one _ _) ?_))
      refine bodyPost_ret (v := .agg (numI (V))) (results_cell_row rfl _ _ (w.heap.size + 1 + 1) 84 _ (0, 0) _ rfl (setRow_heap _ _ _ _ _ _ r2.out.1) Try.underlying84 rfl (info_numI _)) rfl ?_
      exact ⟨rfl, kp_row k2.out (by omega) _⟩
set_option maxHeartbeats 8000000 in
set_option maxRecDepth 100000 in
theorem plus_ge (p q : Bool) (X Y V : Int) (hpq : (p == q) = false) (hx : sh X 12 = 0) (hy : sh Y 12 = 0) (hge : Y ≤ X) (h0 : 0 ≤ Y) (ht : X < top12) (hV : (if p then -(X - Y) else X - Y) = V) (w : World) :
    Calls Try.prog 84 #[.agg (numC p (d12 X)), .agg (numC q (d12 Y))] w fun e w' => e = .returned (.agg (numI V)) ∧ Kp w w' := by
  have hz : sh (X - Y) 12 = 0 := sh12_zero (by omega) (by omega)
  have hc := fun (w : World) => carried_num p (subE X Y 12) (X - Y) (subE_len X Y 12) (by rw [subE_all, hv_d12 hz]) (by rw [subE_all]; exact d12_bd) (by omega) w
  rw [hV] at hc
  have HC := Lib.hid hc
  have hs := fun (w : World) => size_num p q X Y hx hy w
  have hcp : 0 ≤ cmpI X Y := by unfold cmpI; rw [if_neg (by omega)]; split <;> omega
  generalize cmpI X Y = c at *
  have HS := Lib.hid hs
  have HB := Lib.hid (bo_top hx hy hz)
  clear hc hx hy ht hV hs hz hge h0
  go_enter Try.func84, Try.ntmps84
  go_upto_region 1 with fail
  obtain ⟨W, hW⟩ : ∃ W, ((w.alloc (.cells (numC p (d12 X)) 84)).alloc (.cells (numC q (d12 Y)) 84)).alloc (.cells #[.bool false, .int .i64 0, .int .i64 0, .int .i64 0, .int .i64 0, .int .i64 0, .int .i64 0, .int .i64 0, .int .i64 0, .int .i64 0, .int .i64 0, .int .i64 0, .int .i64 0] 84) = W := ⟨_, rfl⟩
  have hx : NumB W w.heap.size p (d12 X) := by rw [← hW]; exact ((NumB.new w _ _ (d12_length _)).a _).a _
  have hy : NumB W (w.heap.size + 1) q (d12 Y) := by
    rw [← hW]
    have h := (NumB.new (w.alloc (.cells (numC p (d12 X)) 84)) q (d12 Y) (d12_length _)).a (.cells #[.bool false, .int .i64 0, .int .i64 0, .int .i64 0, .int .i64 0, .int .i64 0, .int .i64 0, .int .i64 0, .int .i64 0, .int .i64 0, .int .i64 0, .int .i64 0, .int .i64 0] 84)
    rwa [World.size_alloc] at h
  have hr : NumB W (w.heap.size + 1 + 1) false numZ := by
    rw [← hW]
    have h := NumB.new ((w.alloc (.cells (numC p (d12 X)) 84)).alloc (.cells (numC q (d12 Y)) 84)) false numZ rfl
    rwa [World.size_alloc, World.size_alloc] at h
  have hk : Kp w W := by rw [← hW]; exact kp_alloc (kp_alloc (kp_alloc (kp_refl _) _) _) _
  rw [hW]; clear hW
  have s0 := hx.sgn
  have s1 := hy.sgn
  have HX := Lib.hid hx
  have HY := Lib.hid hy
  have HR := Lib.hid hr
  have HK := Lib.hid hk
  clear hx hy hr hk
  go_wp2_with (first
    | ((with_reducible refine at_slot 30 ?_); refine wpList_load_row rfl 84 _ rfl (w.heap.size) rfl 84 _ (0, 0) _ HX.out.1 Try.underlying84 rfl (info_num' (d12_length X)) ?_)
    | ((with_reducible refine at_slot 31 ?_); refine wpList_load_row rfl 84 _ rfl (w.heap.size + 1) rfl 84 _ (0, 0) _ HY.out.1 Try.underlying84 rfl (info_num' (d12_length Y)) ?_)
    | (go_at_call 93; refine (HS.out _).mono ?_; rintro e w2 ⟨rfl, hk⟩; have x2 := HX.out.kp hk; rw [← subE_zero X Y] at x2; have X2 := Lib.hid x2; have Y2 := Lib.hid (HY.out.kp hk); have R2 := Lib.hid (HR.out.kp hk); have K2 := Lib.hid (kp_trans HK.out hk); clear hk x2))
  go_loopw [6] (fun i wr => ∃ k : Nat, k ≤ 12 ∧ i = .int .i64 k ∧ NumB wr w.heap.size p (subE X Y k) ∧ NumB wr (w.heap.size + 1) q (d12 Y) ∧ NumB wr (w.heap.size + 1 + 1) false numZ ∧ Kp w wr) (fun i _ => 12 - (intOf i).toNat)
  case atStart => exact ⟨0, by omega, rfl, X2.out, Y2.out, R2.out, K2.out⟩
  case round =>
    obtain ⟨k, hk, rfl, hx, hy, hr, hkp⟩ := hrel
    clear HX HY HR HK X2 Y2 R2 K2
    by_cases hlt : k < 12
    · have b1 : 0 ≤ (k : Int) := by omega
      have b2 : (k : Int) < 12 := by omega
      have x0 := hx.cell k (by rw [subE_len]; omega)
      have x1 := hy.cell k (by rw [d12_length]; omega)
      rw [subE_get] at x0
      rw [d12_get] at x1
      have y0 := hx.froz (1 + k)
      have bx := dg_bd X k
      have bY := dg_bd Y k
      have bz := dg_bd (X - Y) k
      have bb := bo_bd X Y k
      have bs := bo_step X Y k
      by_cases hb : bo X Y (k + 1) = 0
      · have hpos : 0 ≤ dg X k - bo X Y k - dg Y k := by omega
        have hx2 := hx.set k (dg X k - bo X Y k - dg Y k)
        rw [subE_next0 hb] at hx2
        have hX := Lib.hid hx2
        have hY := Lib.hid (hy.off (a := ⟨w.heap.size, 1 + k, none⟩) (.int .i64 (dg X k - bo X Y k - dg Y k)) (by simp))
        have hR := Lib.hid (hr.off (a := ⟨w.heap.size, 1 + k, none⟩) (.int .i64 (dg X k - bo X Y k - dg Y k)) (by simp; omega))
        have hK := Lib.hid (kp_set hkp (a := ⟨w.heap.size, 1 + k, none⟩) (by simp) (.int .i64 (dg X k - bo X Y k - dg Y k)))
        have ba : -1 ≤ dg X k - bo X Y k ∧ dg X k - bo X Y k < 65536 := by omega
        clear hx hy hr hkp hx2 bs bz bb hb bx
        generalize dg X k - bo X Y k = a at *
        generalize dg Y k = b at *
        go_wp2_with fail
        go_region
        go_wp2_with fail
        exact ⟨⟨k + 1, by omega, by go_num, hX.out.drew, hY.out.drew, hR.out.drew, kp_drew hK.out⟩, by simp [intOf]; omega⟩
      · have hb1 : bo X Y (k + 1) = 1 := by have := bo_bd X Y (k + 1); omega
        have hk11 : k < 11 := by
          rcases Nat.lt_or_ge k 11 with h | h
          · exact h
          · exfalso
            obtain rfl : k = 11 := by omega
            have h2 : bo X Y (11 + 1) = 0 := HB.out
            omega
        have b3 : (k : Int) < 11 := by omega
        have b4 : 0 ≤ (k : Int) + 1 ∧ (k : Int) + 1 < 12 := by omega
        have wt : ((k : Int) + 1).toNat = k + 1 := by omega
        have hneg : dg X k - bo X Y k - dg Y k < 0 := by omega
        have x2 := hx.cell (k + 1) (by rw [subE_len]; omega)
        rw [subE_get1] at x2
        have y1 := hx.froz (1 + (k + 1))
        have bx2 := dg_bd X (k + 1)
        have hx2 := ((hx.set k (dg X k - bo X Y k - dg Y k)).set k (dg X k - bo X Y k - dg Y k + 65536)).set (k + 1) (dg X (k + 1) - 1)
        rw [subE_next1 hb1] at hx2
        have hX := Lib.hid hx2
        have hY := Lib.hid (((hy.off (a := ⟨w.heap.size, 1 + k, none⟩) (.int .i64 (dg X k - bo X Y k - dg Y k)) (by simp)).off (a := ⟨w.heap.size, 1 + k, none⟩) (.int .i64 (dg X k - bo X Y k - dg Y k + 65536)) (by simp)).off (a := ⟨w.heap.size, 1 + (k + 1), none⟩) (.int .i64 (dg X (k + 1) - 1)) (by simp))
        have hR := Lib.hid (((hr.off (a := ⟨w.heap.size, 1 + k, none⟩) (.int .i64 (dg X k - bo X Y k - dg Y k)) (by simp; omega)).off (a := ⟨w.heap.size, 1 + k, none⟩) (.int .i64 (dg X k - bo X Y k - dg Y k + 65536)) (by simp; omega)).off (a := ⟨w.heap.size, 1 + (k + 1), none⟩) (.int .i64 (dg X (k + 1) - 1)) (by simp; omega))
        have hK := Lib.hid (kp_set (kp_set (kp_set hkp (a := ⟨w.heap.size, 1 + k, none⟩) (by simp) (.int .i64 (dg X k - bo X Y k - dg Y k))) (a := ⟨w.heap.size, 1 + k, none⟩) (by simp) (.int .i64 (dg X k - bo X Y k - dg Y k + 65536))) (a := ⟨w.heap.size, 1 + (k + 1), none⟩) (by simp) (.int .i64 (dg X (k + 1) - 1)))
        have ba : -1 ≤ dg X k - bo X Y k ∧ dg X k - bo X Y k < 65536 := by omega
        clear hx hy hr hkp hx2 bs bz bb hb hb1 bx
        generalize dg X k - bo X Y k = a at *
        generalize dg Y k = b at *
        generalize dg X (k + 1) = d at *
        go_wp2_with fail
        go_region
        go_wp2_with fail
        exact ⟨⟨k + 1, by omega, by go_num, hX.out.drew, hY.out.drew, hR.out.drew, kp_drew hK.out⟩, by simp [intOf]; omega⟩
    · obtain rfl : k = 12 := by omega
      have hX := Lib.hid hx
      have hR := Lib.hid hr
      have hK := Lib.hid hkp
      clear hx hy hr hkp
      go_wp2_with (first
        | ((with_reducible refine at_slot 80 ?_); refine wpList_load_row rfl 84 _ rfl (w.heap.size) rfl 84 _ (0, 0) _ hX.out.1 Try.underlying84 rfl (info_num' (subE_len X Y 12)) ?_)
        | (go_at_call 92; refine (HC.out _).mono ?_; rintro e w2 ⟨rfl, hk⟩; have r2 := Lib.hid (hR.out.kp hk); have k2 := Lib.hid (kp_trans hK.out hk); clear hk)
        | ((with_reducible refine at_store 84 ?_); refine wpList_store_row rfl 84 _ _ rfl (w.heap.size + 1 + 1) (numI (V)) rfl rfl 84 _ r2.out.1 (info_numI _) (by rw [numC_size r2.out.2]; exact (numC_size (d12_length _)).symm) (numC_one _ _) ?_))
      refine bodyPost_ret (v := .agg (numI (V))) (results_cell_row rfl _ _ (w.heap.size + 1 + 1) 84 _ (0, 0) _ rfl (setRow_heap _ _ _ _ _ _ r2.out.1) Try.underlying84 rfl (info_numI _)) rfl ?_
      exact ⟨rfl, kp_row k2.out (by omega) _⟩
set_option maxHeartbeats 8000000 in
set_option maxRecDepth 100000 in
theorem plus_lt (p q : Bool) (X Y V : Int) (hpq : (p == q) = false) (hx : sh X 12 = 0) (hy : sh Y 12 = 0) (hlt : X < Y) (h0 : 0 ≤ X) (ht : Y < top12) (hV : (if q then -(Y - X) else Y - X) = V) (w : World) :
    Calls Try.prog 84 #[.agg (numC p (d12 X)), .agg (numC q (d12 Y))] w fun e w' => e = .returned (.agg (numI V)) ∧ Kp w w' := by
  have hc := fun (w : World) => plus_ge q p Y X V (by rw [← hpq]; cases p <;> cases q <;> rfl) hy hx (by omega) h0 ht hV w
  have HC := Lib.hid hc
  have hs := fun (w : World) => size_num p q X Y hx hy w
  rw [cmpI_lt hlt] at hs
  have HS := Lib.hid hs
  clear hc hx hy ht hV hs hlt h0
  go_enter Try.func84, Try.ntmps84
  go_upto_region 1 with fail
  obtain ⟨W, hW⟩ : ∃ W, ((w.alloc (.cells (numC p (d12 X)) 84)).alloc (.cells (numC q (d12 Y)) 84)).alloc (.cells #[.bool false, .int .i64 0, .int .i64 0, .int .i64 0, .int .i64 0, .int .i64 0, .int .i64 0, .int .i64 0, .int .i64 0, .int .i64 0, .int .i64 0, .int .i64 0, .int .i64 0] 84) = W := ⟨_, rfl⟩
  have hx : NumB W w.heap.size p (d12 X) := by rw [← hW]; exact ((NumB.new w _ _ (d12_length _)).a _).a _
  have hy : NumB W (w.heap.size + 1) q (d12 Y) := by
    rw [← hW]
    have h := (NumB.new (w.alloc (.cells (numC p (d12 X)) 84)) q (d12 Y) (d12_length _)).a (.cells #[.bool false, .int .i64 0, .int .i64 0, .int .i64 0, .int .i64 0, .int .i64 0, .int .i64 0, .int .i64 0, .int .i64 0, .int .i64 0, .int .i64 0, .int .i64 0, .int .i64 0] 84)
    rwa [World.size_alloc] at h
  have hr : NumB W (w.heap.size + 1 + 1) false numZ := by
    rw [← hW]
    have h := NumB.new ((w.alloc (.cells (numC p (d12 X)) 84)).alloc (.cells (numC q (d12 Y)) 84)) false numZ rfl
    rwa [World.size_alloc, World.size_alloc] at h
  have hk : Kp w W := by rw [← hW]; exact kp_alloc (kp_alloc (kp_alloc (kp_refl _) _) _) _
  rw [hW]; clear hW
  have s0 := hx.sgn
  have s1 := hy.sgn
  have HX := Lib.hid hx
  have HY := Lib.hid hy
  have HR := Lib.hid hr
  have HK := Lib.hid hk
  clear hx hy hr hk
  go_wp2_with (first
    | ((with_reducible refine at_slot 30 ?_); refine wpList_load_row rfl 84 _ rfl (w.heap.size) rfl 84 _ (0, 0) _ HX.out.1 Try.underlying84 rfl (info_num' (d12_length X)) ?_)
    | ((with_reducible refine at_slot 31 ?_); refine wpList_load_row rfl 84 _ rfl (w.heap.size + 1) rfl 84 _ (0, 0) _ HY.out.1 Try.underlying84 rfl (info_num' (d12_length Y)) ?_)
    | (go_at_call 93; refine (HS.out _).mono ?_; rintro e w2 ⟨rfl, hk⟩; have X2 := Lib.hid (HX.out.kp hk); have Y2 := Lib.hid (HY.out.kp hk); have R2 := Lib.hid (HR.out.kp hk); have K2 := Lib.hid (kp_trans HK.out hk); clear hk)
    | ((with_reducible refine at_slot 34 ?_); refine wpList_load_row rfl 84 _ rfl (w.heap.size + 1) rfl 84 _ (0, 0) _ Y2.out.1 Try.underlying84 rfl (info_num' (d12_length Y)) ?_)
    | ((with_reducible refine at_slot 35 ?_); refine wpList_load_row rfl 84 _ rfl (w.heap.size) rfl 84 _ (0, 0) _ X2.out.1 Try.underlying84 rfl (info_num' (d12_length X)) ?_)
    | (go_at_call 84; refine (HC.out _).mono ?_; rintro e w3 ⟨rfl, hk⟩; have r2 := Lib.hid (R2.out.kp hk); have k2 := Lib.hid (kp_trans K2.out hk); clear hk)
    | ((with_reducible refine at_store 84 ?_); refine wpList_store_row rfl 84 _ _ rfl (w.heap.size + 1 + 1) (numI (V)) rfl rfl 84 _ r2.out.1 (info_numI _) (by rw [numC_size r2.out.2]; exact (numC_size (d12_length _)).symm) (numC_one _ _) ?_))
  refine bodyPost_ret (v := .agg (numI (V))) (results_cell_row rfl _ _ (w.heap.size + 1 + 1) 84 _ (0, 0) _ rfl (setRow_heap _ _ _ _ _ _ r2.out.1) Try.underlying84 rfl (info_numI _)) rfl ?_
  exact ⟨rfl, kp_row k2.out (by omega) _⟩
theorem plus_any (U V : Int) (h : (U.natAbs : Int) + V.natAbs < top12) (w : World) :
    Calls Try.prog 84 #[.agg (numI U), .agg (numI V)] w fun e w' => e = .returned (.agg (numI (U + V))) ∧ Kp w w' := by
  have hU : sh (U.natAbs : Int) 12 = 0 := sh12_zero (by omega) (by omega)
  have hV : sh (V.natAbs : Int) 12 = 0 := sh12_zero (by omega) (by omega)
  unfold numI
  by_cases hu : U < 0 <;> by_cases hv : V < 0
  · simp only [hu, hv, decide_true]
    exact plus_same true _ _ (U + V) hU hV h (by simp; omega) w
  · simp only [hu, hv, decide_true, decide_false]
    rcases Int.lt_or_le (U.natAbs : Int) V.natAbs with k | k
    · exact plus_lt true false _ _ (U + V) rfl hU hV k (by omega) (by omega) (by simp; omega) w
    · exact plus_ge true false _ _ (U + V) rfl hU hV k (by omega) (by omega) (by simp; omega) w
  · simp only [hu, hv, decide_true, decide_false]
    rcases Int.lt_or_le (U.natAbs : Int) V.natAbs with k | k
    · exact plus_lt false true _ _ (U + V) rfl hU hV k (by omega) (by omega) (by simp; omega) w
    · exact plus_ge false true _ _ (U + V) rfl hU hV k (by omega) (by omega) (by simp; omega) w
  · simp only [hu, hv, decide_false]
    exact plus_same false _ _ (U + V) hU hV h (by simp; omega) w
end Go.Proofs.Ytcpbemoiodbliaa

/- Contracts of numbers in digits: Mul. -/
namespace Go.Proofs.Ytcpbemoiodbliaa
open Go.RowKit Go.Proofs.Num Go.Proofs.Geo

/-- The number of the lowest n digits. -/
def pre (V : Int) (n : Nat) : Int := hv ((List.range n).map (dg V))
theorem hv_append (l m : List Int) : hv (l ++ m) = hv l + 65536 ^ l.length * hv m := by
  induction l with
  | nil => simp [hv]
  | cons d l ih =>
    simp only [List.cons_append, hv, ih, List.length_cons, Int.pow_succ]
    grind
theorem pre_succ (V : Int) (n : Nat) : pre V (n + 1) = pre V n + 65536 ^ n * dg V n := by
  unfold pre
  rw [List.range_succ, List.map_append, hv_append]
  simp [hv]
theorem pre_all {V : Int} {n : Nat} (h : sh V n = 0) : pre V n = V := by have := hv_sh V n; rw [h] at this; simpa [pre] using this
theorem hv_set_add (E : List Int) (m : Nat) (t : Int) (h : m < E.length) : hv (E.set m (E[m] + t)) = hv E + 65536 ^ m * t := by
  induction E generalizing m with
  | nil => simp at h
  | cons d l ih =>
    cases m with
    | zero => simp [hv]; omega
    | succ m =>
      simp only [List.getElem_cons_succ, List.set_cons_succ, hv, Int.pow_succ]
      rw [ih m (by simpa using h)]
      grind
/-- After i whole rows and k digits of the next one. -/
def MulSt (X Y : Int) (i k : Nat) (E : List Int) : Prop :=
  E.length = 12 ∧ hv E = pre X i * Y + 65536 ^ i * dg X i * pre Y k ∧ ∀ d ∈ E, 0 ≤ d ∧ d ≤ (4 * i + k : Nat) * 4294967296
theorem MulSt.start (X Y : Int) : MulSt X Y 0 0 numZ := ⟨rfl, by simp [pre, hv, numZ], by simp [numZ]⟩
theorem MulSt.row {X Y : Int} {i : Nat} {E : List Int} (hy : sh Y 4 = 0) (h : MulSt X Y i 4 E) : MulSt X Y (i + 1) 0 E := by
  obtain ⟨h1, h2, h3⟩ := h
  refine ⟨h1, ?_, fun d hd => by have := h3 d hd; omega⟩
  rw [h2, pre_all hy, pre_succ]
  simp [pre, hv]
  grind
theorem mul_bd {a b : Int} (ha : 0 ≤ a ∧ a < 65536) (hb : 0 ≤ b ∧ b < 65536) : 0 ≤ a * b ∧ a * b ≤ 4294836225 := by
  refine ⟨Int.mul_nonneg ha.1 hb.1, ?_⟩
  have := Int.mul_le_mul (show a ≤ 65535 by omega) (show b ≤ 65535 by omega) hb.1 (by omega)
  omega
theorem MulSt.step {X Y : Int} {i k : Nat} {E : List Int} (h : MulSt X Y i k E) (hi : i + k < E.length) : MulSt X Y i (k + 1) (E.set (i + k) (E[i + k] + dg X i * dg Y k)) := by
  obtain ⟨h1, h2, h3⟩ := h
  refine ⟨by simpa using h1, ?_, fun d hd => ?_⟩
  · rw [hv_set_add, h2, pre_succ, Int.pow_add]
    grind
  · rcases List.mem_or_eq_of_mem_set hd with h | rfl
    · have := h3 d h; omega
    · have b1 := mul_bd (dg_bd X i) (dg_bd Y k)
      have b2 := h3 _ (List.getElem_mem hi)
      omega
theorem MulSt.end {X Y : Int} {E : List Int} (hx : sh X 4 = 0) (h : MulSt X Y 4 0 E) : hv E = X * Y ∧ ∀ d ∈ E, 0 ≤ d ∧ d ≤ 2199023255552 := by
  obtain ⟨h1, h2, h3⟩ := h
  refine ⟨by rw [h2, pre_all hx]; simp [pre, hv], fun d hd => by have := h3 d hd; omega⟩

set_option maxHeartbeats 8000000 in
set_option maxRecDepth 100000 in
theorem mul_core (p q b : Bool) (X Y V : Int) (hx : sh X 4 = 0) (hy : sh Y 4 = 0) (ht : X * Y < top12) (hb : (!(p == q)) = b) (hV : (if b then -(X * Y) else X * Y) = V) (w : World) :
    Calls Try.prog 83 #[.agg (numC p (d12 X)), .agg (numC q (d12 Y))] w fun e w' => e = .returned (.agg (numI V)) ∧ Kp w w' := by
  have hc := fun (E : List Int) (h : MulSt X Y 4 0 E) (w : World) => carried_num b E (X * Y) h.1 (MulSt.end hx h).1 (MulSt.end hx h).2 ht w
  rw [hV] at hc
  have HC := Lib.hid hc
  have HY0 := Lib.hid hy
  clear hc hx hy ht hV
  go_enter Try.func83, Try.ntmps83
  go_upto_region 1 with fail
  obtain ⟨W, hW⟩ : ∃ W, ((w.alloc (.cells (numC p (d12 X)) 84)).alloc (.cells (numC q (d12 Y)) 84)).alloc (.cells #[.bool false, .int .i64 0, .int .i64 0, .int .i64 0, .int .i64 0, .int .i64 0, .int .i64 0, .int .i64 0, .int .i64 0, .int .i64 0, .int .i64 0, .int .i64 0, .int .i64 0] 84) = W := ⟨_, rfl⟩
  have hx : NumB W w.heap.size p (d12 X) := by rw [← hW]; exact ((NumB.new w _ _ (d12_length _)).a _).a _
  have hy : NumB W (w.heap.size + 1) q (d12 Y) := by
    rw [← hW]
    have h := (NumB.new (w.alloc (.cells (numC p (d12 X)) 84)) q (d12 Y) (d12_length _)).a (.cells #[.bool false, .int .i64 0, .int .i64 0, .int .i64 0, .int .i64 0, .int .i64 0, .int .i64 0, .int .i64 0, .int .i64 0, .int .i64 0, .int .i64 0, .int .i64 0, .int .i64 0] 84)
    rwa [World.size_alloc] at h
  have hr : NumB W (w.heap.size + 1 + 1) false numZ := by
    rw [← hW]
    have h := NumB.new ((w.alloc (.cells (numC p (d12 X)) 84)).alloc (.cells (numC q (d12 Y)) 84)) false numZ rfl
    rwa [World.size_alloc, World.size_alloc] at h
  have hk : Kp w W := by rw [← hW]; exact kp_alloc (kp_alloc (kp_alloc (kp_refl _) _) _) _
  rw [hW]; clear hW
  have s0 := hx.sgn
  have s1 := hy.sgn
  have HX := Lib.hid hx
  have HY := Lib.hid hy
  have HR := Lib.hid hr
  have HK := Lib.hid hk
  have hlt := hr.lt
  clear hx hy hr hk
  go_upto_region 2 with fail
  obtain ⟨W2, hW2⟩ : ∃ W2, W.alloc (.cells #[.bool b, .int .i64 0, .int .i64 0, .int .i64 0, .int .i64 0, .int .i64 0, .int .i64 0, .int .i64 0, .int .i64 0, .int .i64 0, .int .i64 0, .int .i64 0, .int .i64 0] 84) = W2 := ⟨_, rfl⟩
  have X2 : NumB W2 w.heap.size p (d12 X) := by rw [← hW2]; exact HX.out.a _
  have Y2 : NumB W2 (w.heap.size + 1) q (d12 Y) := by rw [← hW2]; exact HY.out.a _
  have R2 : NumB W2 (w.heap.size + 1 + 1) false numZ := by rw [← hW2]; exact HR.out.a _
  have Z2 : NumB W2 W.heap.size b numZ := by rw [← hW2]; exact NumB.new W b numZ rfl
  have K2 : Kp w W2 := by rw [← hW2]; exact kp_alloc HK.out _
  clear HX HY HR HK
  generalize W.heap.size = G at *
  rw [hW2]; clear hW2
  have hG : w.heap.size + 1 + 1 < G := hlt
  have HX := Lib.hid X2
  have HY := Lib.hid Y2
  have HR := Lib.hid R2
  have HZ := Lib.hid Z2
  have HK := Lib.hid K2
  clear X2 Y2 R2 Z2 K2 hlt s0 s1
  go_wp2_with fail
  go_loopw [6] (fun u wr => ∃ i : Nat, i ≤ 4 ∧ u = .int .i64 i ∧ ∃ E, MulSt X Y i 0 E ∧ NumB wr w.heap.size p (d12 X) ∧ NumB wr (w.heap.size + 1) q (d12 Y) ∧ NumB wr (w.heap.size + 1 + 1) false numZ ∧ NumB wr G b E ∧ Kp w wr) (fun u _ => 4 - (intOf u).toNat)
  case atStart => exact ⟨0, by omega, rfl, _, MulSt.start X Y, HX.out, HY.out, HR.out, HZ.out, HK.out⟩
  case round =>
    obtain ⟨i, hi, rfl, E, hm, hx, hy, hr, hz, hkp⟩ := hrel
    clear HX HY HR HZ HK
    by_cases hlt : i < 4
    · have hd : decide ((i : Int) < 4) = true := by simp; omega
      obtain ⟨wo, rfl⟩ : ∃ wo : World, wo = wr := ⟨_, rfl⟩
      have HX := Lib.hid hx
      have HY := Lib.hid hy
      have HR := Lib.hid hr
      have HZ := Lib.hid hz
      have HK := Lib.hid hkp
      have HM := Lib.hid hm
      clear hx hy hr hz hkp hm
      go_wp2_with fail
      try simp only [hd]
      go_loopw [7] (fun u wr => ∃ k : Nat, k ≤ 4 ∧ u = .int .i64 k ∧ ∃ E, MulSt X Y i k E ∧ NumB wr w.heap.size p (d12 X) ∧ NumB wr (w.heap.size + 1) q (d12 Y) ∧ NumB wr (w.heap.size + 1 + 1) false numZ ∧ NumB wr G b E ∧ Kp w wr) (fun u _ => 4 - (intOf u).toNat)
      case atStart => exact ⟨0, by omega, rfl, _, HM.out, HX.out, HY.out, HR.out, HZ.out, HK.out⟩
      case round =>
        obtain ⟨k, hk, rfl, E2, hm, hx, hy, hr, hz, hkp⟩ := hrel
        clear HX HY HR HZ HK HM
        by_cases hlt2 : k < 4
        · have hl := hm.1
          have c1 : 0 ≤ (i : Int) + (k : Int) ∧ (i : Int) + (k : Int) < 12 := by omega
          have c2 : 0 ≤ (i : Int) ∧ (i : Int) < 12 := by omega
          have c3 : 0 ≤ (k : Int) ∧ (k : Int) < 12 := by omega
          have ct : ((i : Int) + (k : Int)).toNat = i + k := by omega
          have x0 := hx.cell i (by rw [d12_length]; omega)
          have x1 := hy.cell k (by rw [d12_length]; omega)
          have x2 := hz.cell (i + k) (by omega)
          rw [d12_get] at x0 x1
          have y2 := hz.froz (1 + (i + k))
          have bm := mul_bd (dg_bd X i) (dg_bd Y k)
          have be := hm.2.2 _ (List.getElem_mem (show i + k < E2.length by omega))
          have hst := hm.step (show i + k < E2.length by omega)
          have hz2 := hz.set (i + k) (E2[i + k]'(by omega) + dg X i * dg Y k)
          have hX := Lib.hid (hx.off (a := ⟨G, 1 + (i + k), none⟩) (.int .i64 (E2[i + k]'(by omega) + dg X i * dg Y k)) (by simp; omega))
          have hY := Lib.hid (hy.off (a := ⟨G, 1 + (i + k), none⟩) (.int .i64 (E2[i + k]'(by omega) + dg X i * dg Y k)) (by simp; omega))
          have hR := Lib.hid (hr.off (a := ⟨G, 1 + (i + k), none⟩) (.int .i64 (E2[i + k]'(by omega) + dg X i * dg Y k)) (by simp; omega))
          have hK := Lib.hid (kp_set hkp (a := ⟨G, 1 + (i + k), none⟩) (by simp; omega) (.int .i64 (E2[i + k]'(by omega) + dg X i * dg Y k)))
          have hZ := Lib.hid hz2
          have hM := Lib.hid hst
          have be2 : E2[i + k]'(by omega) ≤ 68719476736 := by omega
          have be1 := be.1
          clear hst hz2 hx hy hr hz hkp hm be
          generalize E2[i + k]'(by omega) = e at *
          generalize dg X i = x at *
          generalize dg Y k = y at *
          have wm : IntKind.i64.wrap (x * y) = x * y := IntWalk.i64_in _ (by omega)
          have wm2 : wrap64 (x * y) = x * y := by rw [← IntWalk.i64_left]; exact wm
          have ws : IntKind.i64.wrap (e + x * y) = e + x * y := IntWalk.i64_in _ (by omega)
          have ws2 : wrap64 (e + x * y) = e + x * y := by rw [← IntWalk.i64_left]; exact ws
          clear be1 be2 bm
          go_wp2_with fail
          go_region
          go_wp2_with fail
          exact ⟨⟨k + 1, by omega, by go_num, _, hM.out, hX.out.drew, hY.out.drew, hR.out.drew, hZ.out.drew, kp_drew hK.out⟩, by simp [intOf]; omega⟩
        · obtain rfl : k = 4 := by omega
          have hM := Lib.hid (hm.row HY0.out)
          have hX := Lib.hid hx
          have hY := Lib.hid hy
          have hR := Lib.hid hr
          have hZ := Lib.hid hz
          have hK := Lib.hid hkp
          clear hm hx hy hr hz hkp
          go_wp2_with fail
          exact ⟨⟨i + 1, by omega, by go_num, _, hM.out, hX.out, hY.out, hR.out, hZ.out, hK.out⟩, by simp [intOf]; omega⟩
    · obtain rfl : i = 4 := by omega
      have hM := Lib.hid hm
      have hR := Lib.hid hr
      have hZ := Lib.hid hz
      have hK := Lib.hid hkp
      have hl := Lib.hid hm.1
      clear hm hx hy hr hz hkp
      go_wp2_with (first
        | ((with_reducible refine at_slot 43 ?_); refine wpList_load_row rfl 84 _ rfl (G) rfl 84 _ (0, 0) _ hZ.out.1 Try.underlying84 rfl (info_num' hl.out) ?_)
        | (go_at_call 92; refine (HC.out _ hM.out _).mono ?_; rintro e w2 ⟨rfl, hk⟩; have r2 := Lib.hid (hR.out.kp hk); have k2 := Lib.hid (kp_trans hK.out hk); clear hk)
        | ((with_reducible refine at_store 84 ?_); refine wpList_store_row rfl 84 _ _ rfl (w.heap.size + 1 + 1) (numI (V)) rfl rfl 84 _ r2.out.1 (info_numI _) (by rw [numC_size r2.out.2]; exact (numC_size (d12_length _)).symm) (numC_one _ _) ?_))
      refine bodyPost_ret (v := .agg (numI (V))) (results_cell_row rfl _ _ (w.heap.size + 1 + 1) 84 _ (0, 0) _ rfl (setRow_heap _ _ _ _ _ _ r2.out.1) Try.underlying84 rfl (info_numI _)) rfl ?_
      exact ⟨rfl, kp_row k2.out (by omega) _⟩
end Go.Proofs.Ytcpbemoiodbliaa

/- Contracts: the document's sign of a difference of two products. -/
namespace Go.Proofs.Ytcpbemoiodbliaa
open Go.RowKit Go.Proofs.Num Go.Proofs.Geo

theorem mulN_any (a b : Int) (ha : I64 a) (hb : I64 b) (w : World) :
    Calls Try.prog 83 #[.agg (numI a), .agg (numI b)] w fun e w' => e = .returned (.agg (numI (a * b))) ∧ Kp w w' := by
  unfold I64 at ha hb
  have h4 : ∀ X : Int, 0 ≤ X → X < 18446744073709551616 → sh X 4 = 0 := fun X h0 h => by show X / 65536 / 65536 / 65536 / 65536 = 0; omega
  have hbd : (a.natAbs : Int) * b.natAbs < top12 := by
    have := Int.mul_le_mul (show (a.natAbs : Int) ≤ 9223372036854775808 by omega) (show (b.natAbs : Int) ≤ 9223372036854775808 by omega) (by omega) (by omega)
    unfold top12; omega
  have ea : (a.natAbs : Int) = if a < 0 then -a else a := by split <;> omega
  have eb : (b.natAbs : Int) = if b < 0 then -b else b := by split <;> omega
  refine mul_core (decide (a < 0)) (decide (b < 0)) _ a.natAbs b.natAbs (a * b) (h4 _ (by omega) (by omega)) (h4 _ (by omega) (by omega)) hbd rfl ?_ w
  rw [ea, eb]
  by_cases k1 : a < 0 <;> by_cases k2 : b < 0 <;> simp [k1, k2] <;> grind
theorem mul_size {a b : Int} (ha : I64 a) (hb : I64 b) : (a * b).natAbs ≤ 85070591730234615865843651857942052864 := by
  unfold I64 at ha hb
  rw [Int.natAbs_mul]
  have := Nat.mul_le_mul (show a.natAbs ≤ 9223372036854775808 by omega) (show b.natAbs ≤ 9223372036854775808 by omega)
  omega

set_option maxHeartbeats 8000000 in
set_option maxRecDepth 100000 in
theorem rsign_any (a b c d : Int) (ha : I64 a) (hb : I64 b) (hc : I64 c) (hd : I64 d) (w : World) : Calls Try.prog 72 #[.int .i64 a, .int .i64 b, .int .i64 c, .int .i64 d] w fun e w' =>
    e = .returned (.int .i64 (dif a b c d)) ∧ Kp w w' := by
  have c1 := Lib.hid (of_any a ha)
  have c2 := Lib.hid (of_any b hb)
  have c3 := Lib.hid (mulN_any a b ha hb)
  have c4 := Lib.hid (of_any c hc)
  have c5 := Lib.hid (of_any d hd)
  have c6 := Lib.hid (mulN_any c d hc hd)
  have m1 := mul_size ha hb
  have m2 := mul_size hc hd
  have c7 := Lib.hid (less_any (c * d) (by unfold Sm top12; omega))
  have c8 := Lib.hid (plus_any (a * b) (-(c * d)) (by unfold top12; omega))
  have c9 := Lib.hid (sgn_any (a * b + -(c * d)) (by unfold Sm top12; omega))
  have he := Lib.hid (show (a * b + -(c * d)).sign = dif a b c d by unfold dif; rw [Int.sub_eq_add_neg])
  clear ha hb hc hd m1 m2
  generalize a * b = x at *
  generalize c * d = y at *
  generalize x + -y = s at *
  go_enter Try.func72, Try.ntmps72
  go_wp2_with fail
  go_at_call 82; refine (c1.out _).mono ?_; rintro e w1 ⟨rfl, k1⟩
  go_wp2_with fail
  go_at_call 82; refine (c2.out _).mono ?_; rintro e w2 ⟨rfl, k2⟩
  go_wp2_with fail
  go_at_call 83; refine (c3.out _).mono ?_; rintro e w3 ⟨rfl, k3⟩
  go_wp2_with fail
  go_at_call 82; refine (c4.out _).mono ?_; rintro e w4 ⟨rfl, k4⟩
  go_wp2_with fail
  go_at_call 82; refine (c5.out _).mono ?_; rintro e w5 ⟨rfl, k5⟩
  go_wp2_with fail
  go_at_call 83; refine (c6.out _).mono ?_; rintro e w6 ⟨rfl, k6⟩
  go_wp2_with fail
  go_at_call 85; refine (c7.out _).mono ?_; rintro e w7 ⟨rfl, k7⟩
  go_wp2_with fail
  go_at_call 84; refine (c8.out _).mono ?_; rintro e w8 ⟨rfl, k8⟩
  go_wp2_with fail
  go_at_call 86; refine (c9.out _).mono ?_; rintro e w9 ⟨rfl, k9⟩
  go_wp2_with fail
  go_ret
  exact ⟨ret_int he.out, kp_trans (kp_trans (kp_trans (kp_trans (kp_trans (kp_trans (kp_trans (kp_trans k1 k2) k3) k4) k5) k6) k7) k8) k9⟩
end Go.Proofs.Ytcpbemoiodbliaa
