/- Bit by bit: how often a number goes into another (plain). -/
import Derived.Test.YtcmijedhjebpkaaN8
import Derived.Test.YtcmijedhjebpkaaRS
namespace Go.Proofs.Ytcmijedhjebpkaa
open Go.RowKit Go.Proofs.Num Go.Proofs.Geo

theorem sh_nat (X j : Nat) : sh (X : Int) j = ((X / 65536 ^ j : Nat) : Int) := by
  induction j with
  | zero => simp [sh]
  | succ j ih =>
    rw [sh_succ, ih, Nat.pow_succ, ← Nat.div_div_eq_div_mul]
    generalize X / 65536 ^ j = y
    omega
theorem dg_nat (X j : Nat) : dg (X : Int) j = ((X / 65536 ^ j % 65536 : Nat) : Int) := by
  unfold dg; rw [sh_nat]
  generalize X / 65536 ^ j = y
  omega
theorem bit_low (a m : Nat) (hm : m < 16) : a % 65536 / 2 ^ m % 2 = a / 2 ^ m % 2 := by
  have : m = 0 ∨ m = 1 ∨ m = 2 ∨ m = 3 ∨ m = 4 ∨ m = 5 ∨ m = 6 ∨ m = 7 ∨ m = 8 ∨ m = 9 ∨ m = 10 ∨ m = 11 ∨ m = 12 ∨ m = 13 ∨ m = 14 ∨ m = 15 := by omega
  rcases this with rfl | rfl | rfl | rfl | rfl | rfl | rfl | rfl | rfl | rfl | rfl | rfl | rfl | rfl | rfl | rfl <;> simp only [Nat.reducePow] <;> omega
/-- The bit at k, out of its digit. -/
theorem bit_dg (X k : Nat) : dg (X : Int) (k / 16) / 2 ^ (k % 16) % 2 = ((X / 2 ^ k % 2 : Nat) : Int) := by
  rw [dg_nat]
  have h := bit_low (X / 65536 ^ (k / 16)) (k % 16) (Nat.mod_lt _ (by decide))
  have e : X / 65536 ^ (k / 16) / 2 ^ (k % 16) = X / 2 ^ k := by
    rw [Nat.div_div_eq_div_mul, show (65536 : Nat) = 2 ^ 16 from rfl, ← Nat.pow_mul, ← Nat.pow_add, Nat.div_add_mod]
  rw [e] at h
  rw [← h]
  generalize X / 65536 ^ (k / 16) % 65536 = y
  have e2 : ((2 : Int) ^ (k % 16)) = ((2 ^ (k % 16) : Nat) : Int) := by rw [Int.natCast_pow]; rfl
  rw [e2]
  generalize 2 ^ (k % 16) = z
  rw [← Int.natCast_ediv]
  generalize y / z = t
  omega
theorem pre_bit (X k : Nat) : X / 2 ^ k = 2 * (X / 2 ^ (k + 1)) + X / 2 ^ k % 2 := by
  rw [Nat.pow_succ, ← Nat.div_div_eq_div_mul]; omega
theorem dm_lt {P C b : Nat} (hC : 0 < C) (h : 2 * (P % C) + b < C) : (2 * P + b) / C = P / C + P / C ∧ (2 * P + b) % C = 2 * (P % C) + b := by
  have e := Nat.div_add_mod P C
  have e2 : 2 * P + b = (2 * (P % C) + b) + C * (P / C + P / C) := by rw [Nat.mul_add]; omega
  rw [e2, Nat.add_mul_div_left _ _ hC, Nat.add_mul_mod_self_left, Nat.div_eq_of_lt h, Nat.mod_eq_of_lt h]
  omega
theorem dm_ge {P C b : Nat} (hC : 0 < C) (hb : b < 2) (h : C ≤ 2 * (P % C) + b) : (2 * P + b) / C = P / C + P / C + 1 ∧ (2 * P + b) % C = 2 * (P % C) + b - C := by
  have e := Nat.div_add_mod P C
  have hm := Nat.mod_lt P hC
  have e2 : 2 * P + b = (2 * (P % C) + b - C) + C * (P / C + P / C + 1) := by rw [Nat.mul_add, Nat.mul_add]; omega
  have hl : 2 * (P % C) + b - C < C := by omega
  rw [e2, Nat.add_mul_div_left _ _ hC, Nat.add_mul_mod_self_left, Nat.div_eq_of_lt hl, Nat.mod_eq_of_lt hl]; omega
theorem div_le_nat (X k C : Nat) : X / 2 ^ k / C ≤ X := Nat.le_trans (Nat.div_le_self _ _) (Nat.div_le_self _ _)

theorem numI_nat (a : Nat) : numI (a : Int) = numC false (d12 (a : Int)) := by
  unfold numI; rw [Int.natAbs_natCast]; congr 1
theorem plusN (a b : Nat) (h : ((a + b : Nat) : Int) < top12) (w : World) : Calls Try.prog 41 #[.agg (numC false (d12 (a : Int))), .agg (numC false (d12 (b : Int)))] w fun e w' => e = .returned (.agg (numC false (d12 ((a + b : Nat) : Int)))) ∧ Kp w w' := by
  rw [← numI_nat, ← numI_nat, ← numI_nat, Int.natCast_add]
  exact plus_any a b (by simpa using h) w
theorem subN (a b : Nat) (h : b ≤ a) (ht : ((a + b : Nat) : Int) < top12) (w : World) : Calls Try.prog 41 #[.agg (numC false (d12 (a : Int))), .agg (numI (-(b : Int)))] w fun e w' => e = .returned (.agg (numC false (d12 ((a - b : Nat) : Int)))) ∧ Kp w w' := by
  rw [← numI_nat, ← numI_nat, Int.natCast_sub h, Int.sub_eq_add_neg]
  exact plus_any a (-(b : Int)) (by simpa using ht) w
theorem ofOne (w : World) : Calls Try.prog 37 #[.int .i64 1] w fun e w' => e = .returned (.agg (numC false (d12 ((1 : Nat) : Int)))) ∧ Kp w w' := by
  rw [← numI_nat]; exact of_any 1 (by unfold I64; omega) w

theorem num12n (a : Nat) : ∃ (e0 e1 e2 e3 e4 e5 e6 e7 e8 e9 e10 e11 : Int), d12 (a : Int) = [e0, e1, e2, e3, e4, e5, e6, e7, e8, e9, e10, e11] :=
  ⟨_, _, _, _, _, _, _, _, _, _, _, _, rfl⟩
/-- The memory of 'parts': the number, what divides it, the result, the quotient and the rest so far. -/
structure PS (W w : World) (p s : Bool) (X C Q R : Nat) : Prop where
  x : NumB w W.heap.size p (d12 (X : Int))
  c : NumB w (W.heap.size + 1) s (d12 (C : Int))
  z : NumB w (W.heap.size + 1 + 1) false numZ
  q : NumB w (W.heap.size + 1 + 1 + 1) false (d12 (Q : Int))
  r : NumB w (W.heap.size + 1 + 1 + 1 + 1) false (d12 (R : Int))
  k : Kp W w
theorem PS.kp {W w w' : World} {p s : Bool} {X C Q R : Nat} (h : PS W w p s X C Q R) (k : Kp w w') : PS W w' p s X C Q R := ⟨h.x.kp k, h.c.kp k, h.z.kp k, h.q.kp k, h.r.kp k, kp_trans h.k k⟩
theorem PS.drew {W w : World} {p s : Bool} {X C Q R : Nat} (h : PS W w p s X C Q R) : PS W w.drew p s X C Q R := h.kp (kp_drew (kp_refl _))
theorem PS.setQ {W w : World} {p s : Bool} {X C Q R : Nat} (h : PS W w p s X C Q R) (Q' : Nat) : PS W (w.setRow (W.heap.size + 1 + 1 + 1) (numC false (d12 (Q' : Int)))) p s X C Q' R :=
  ⟨h.x.offRow _ (by omega), h.c.offRow _ (by omega), h.z.offRow _ (by omega), h.q.row (d12_length _), h.r.offRow _ (by omega), kp_row h.k (by omega) _⟩
theorem PS.setR {W w : World} {p s : Bool} {X C Q R : Nat} (h : PS W w p s X C Q R) (R' : Nat) : PS W (w.setRow (W.heap.size + 1 + 1 + 1 + 1) (numC false (d12 (R' : Int)))) p s X C Q R' :=
  ⟨h.x.offRow _ (by omega), h.c.offRow _ (by omega), h.z.offRow _ (by omega), h.q.offRow _ (by omega), h.r.row (d12_length _), kp_row h.k (by omega) _⟩
theorem PS.setC {W w : World} {p s : Bool} {X C Q R : Nat} (h : PS W w p s X C Q R) (s' : Bool) : PS W (w.setCell ⟨W.heap.size + 1, 0, none⟩ (.bool s')) p s' X C Q R :=
  ⟨h.x.off _ (by simp), h.c.setSgn _, h.z.off _ (by simp), h.q.off _ (by simp; omega), h.r.off _ (by simp; omega), kp_set h.k (by simp) _⟩
theorem PS.setZ {W w : World} {p s : Bool} {X C Q R : Nat} (h : PS W w p s X C Q R) (Q' : Nat) : NumB (w.setRow (W.heap.size + 1 + 1) (numC false (d12 (Q' : Int)))) (W.heap.size + 1 + 1) false (d12 (Q' : Int)) ∧ Kp W (w.setRow (W.heap.size + 1 + 1) (numC false (d12 (Q' : Int)))) :=
  ⟨h.z.row (d12_length _), kp_row h.k (by omega) _⟩
/-- The memory at the end of 'parts', as it is read. -/
structure PZ (W w : World) (s : Bool) (C Q R : Nat) : Prop where
  c : NumB w (W.heap.size + 1) s (d12 (C : Int))
  z : ∃ n E, NumB w (W.heap.size + 1 + 1) n E
  q : NumB w (W.heap.size + 1 + 1 + 1) false (d12 (Q : Int))
  r : NumB w (W.heap.size + 1 + 1 + 1 + 1) false (d12 (R : Int))
  k : Kp W w
theorem PZ.kp {W w w' : World} {s : Bool} {C Q R : Nat} (h : PZ W w s C Q R) (k : Kp w w') : PZ W w' s C Q R := ⟨h.c.kp k, by obtain ⟨n, E, hz⟩ := h.z; exact ⟨n, E, hz.kp k⟩, h.q.kp k, h.r.kp k, kp_trans h.k k⟩
theorem PZ.drew {W w : World} {s : Bool} {C Q R : Nat} (h : PZ W w s C Q R) : PZ W w.drew s C Q R := h.kp (kp_drew (kp_refl _))
theorem PZ.setZ {W w : World} {s : Bool} {C Q R : Nat} (h : PZ W w s C Q R) (Q' : Int) : PZ W (w.setRow (W.heap.size + 1 + 1) (numI Q')) s C Q R :=
  ⟨h.c.offRow _ (by omega), by obtain ⟨n, E, hz⟩ := h.z; exact ⟨_, _, hz.row (d12_length _)⟩, h.q.offRow _ (by omega), h.r.offRow _ (by omega), kp_row h.k (by omega) _⟩
theorem results_parts {fn : Func} (h : fn.results = #[.cell 4 69, .tmp 5, .tmp 6]) (tmps : Array Value) (w : World) (g : Nat) (V : Int) (x y : Value)
    (hp : tmps.getD 4 undef = .pointer (some ⟨g, 0, none⟩)) (h5 : tmps.getD 5 undef = x) (h6 : tmps.getD 6 undef = y) (hg : w.heap[g]? = some (.cells (numI V) 69 (0, 0))) :
    (results fn tmps).run Try.prog w = .ok (.tuple #[.agg (numI V), x, y]) w := by
  have hp' : tmps[4]?.getD undef = .pointer (some ⟨g, 0, none⟩) := by simpa using hp
  have h5' : tmps[5]?.getD undef = x := by simpa using h5
  have h6' : tmps[6]?.getD undef = y := by simpa using h6
  simp [results, h, hp', h5', h6', asAddr, run_loadVar_row w g 69 69 _ (0, 0) _ hg Try.underlying69 rfl (info_numI V)]
theorem cell_offrow {w : World} {B g o : Nat} {v : Value} (h : w.cell? ⟨B, o, none⟩ = some v) (hne : B ≠ g) (cs : Array Value) : (w.setRow g cs).cell? ⟨B, o, none⟩ = some v := by
  rw [← h]; unfold World.cell?; rw [setRow_other w g B cs hne]
theorem run_loadAt_num {w : World} {B : Nat} {neg : Bool} {E : List Int} (h : NumB w B neg E) : (Instr.loadAt 69 (.pointer (some ⟨B, 0, none⟩))).run Try.prog w = .ok (.agg (numC neg E)) w := by
  simp only [Instr.loadAt, Instr.sureAddr, Sem.run_bind, Sem.run_pure, Result.andThen_ok, run_loadVar_row w B 69 69 _ (0, 0) _ h.1 Try.underlying69 rfl (info_num' h.2)]
theorem run_cells_lit {w : World} {B : Nat} {neg : Bool} {E : List Int} {Q : Nat} {f0 f1 f2 f3 f4 f5 f6 f7 f8 f9 f10 f11 : Int} (e : d12 (Q : Int) = [f0, f1, f2, f3, f4, f5, f6, f7, f8, f9, f10, f11]) (h : NumB w B neg E) : (storeCells ⟨B, 0, none⟩ [.bool false, .int .i64 f0, .int .i64 f1, .int .i64 f2, .int .i64 f3, .int .i64 f4, .int .i64 f5, .int .i64 f6, .int .i64 f7, .int .i64 f8, .int .i64 f9, .int .i64 f10, .int .i64 f11]).run Try.prog w = .ok () (w.setRow B (numC false (d12 (Q : Int)))) := by
  have := run_cells_num (Q : Int) h
  rw [numI_nat] at this
  rw [← this, e]
  rfl
end Go.Proofs.Ytcmijedhjebpkaa
