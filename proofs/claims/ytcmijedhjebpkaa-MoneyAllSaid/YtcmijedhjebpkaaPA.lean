/- Parse's helpers: digit, the two closures. -/
import Derived.Test.YtcmijedhjebpkaaPP
import Derived.Test.YtcmijedhjebpkaaK0
import Derived.IntWalk
import Derived.Deep.DeepCutAuto
import Derived.Deep.QuietTactic
import Derived.BigQuiet
import Derived.RegionTactic
import Derived.BigRegion
namespace Go.Proofs.Ytcmijedhjebpkaa
open Go.RowKit Go.Proofs.Geo Go.Proofs.Mon
set_option linter.unusedVariables false
set_option maxHeartbeats 4000000 in
theorem digit_any (c : Int) (w : World) : Calls Try.prog 49 #[.int .u8 c] w fun e w' => e = .returned (.bool (isDg c)) ∧ w = w' := by
  go_enter Try.func49, Try.ntmps49
  unfold isDg
  by_cases h1 : 48 ≤ c
  · by_cases h2 : c ≤ 57
    · go_wp2_with fail
      go_ret
      exact ⟨by rw [decide_eq_true (p := c ≤ 57) (by omega), decide_eq_true (p := 48 ≤ c) (by omega)]; rfl, rfl⟩
    · go_wp2_with fail
      go_ret
      exact ⟨by rw [decide_eq_false (p := c ≤ 57) (by omega)]; rfl, rfl⟩
  · go_wp2_with fail
    go_ret
    exact ⟨by rw [decide_eq_false (p := 48 ≤ c) (by omega), Bool.false_and]; rfl, rfl⟩
/-- Parse's variables: the text, the place, the number, the fault. -/
structure PM (W : World) (gS gA gN gF : Nat) (s : ByteArray) (a n : Int) (w : World) : Prop where
  k : Kp W w
  s : w.cell? ⟨gS, 0, none⟩ = some (.string s)
  a : w.cell? ⟨gA, 0, none⟩ = some (.int .i64 a)
  n : w.cell? ⟨gN, 0, none⟩ = some (.int .i64 n)
  f0 : w.cell? ⟨gF, 0, none⟩ = some (.int .i64 0)
  f1 : w.cell? ⟨gF, 1, none⟩ = some (.int .i64 0)
  za : w.frozen? ⟨gA, 0, none⟩ = false
  zn : w.frozen? ⟨gN, 0, none⟩ = false
  z0 : w.frozen? ⟨gF, 0, none⟩ = false
  z1 : w.frozen? ⟨gF, 1, none⟩ = false
structure PD (W : World) (gS gA gN gF : Nat) : Prop where
  ls : W.heap.size ≤ gS
  la : W.heap.size ≤ gA
  ln : W.heap.size ≤ gN
  lf : W.heap.size ≤ gF
  sa : gS ≠ gA
  sn : gS ≠ gN
  sf : gS ≠ gF
  an : gA ≠ gN
  af : gA ≠ gF
  nf : gN ≠ gF
theorem far' {w : World} {a : Addr} {u v : Value} {g o : Nat} (hne : a.block ≠ g) (h : w.cell? a = some v) : (w.setCell ⟨g, o, none⟩ u).cell? a = some v := by
  rw [World.cell?_setCell_far _ _ _ _ (fun e => hne e.symm)]; exact h
theorem froz' {w : World} {a b : Addr} {u : Value} (h : w.frozen? a = false) : (w.setCell b u).frozen? a = false := by simp [go_sem, h]
theorem PM.seta {W : World} {gS gA gN gF : Nat} {s : ByteArray} {a n : Int} {w : World} (D : PD W gS gA gN gF) (h : PM W gS gA gN gF s a n w) (v : Int) : PM W gS gA gN gF s v n (w.setCell ⟨gA, 0, none⟩ (.int .i64 v)) :=
  ⟨kp_set h.k D.la _, far' D.sa h.s, by simp [go_sem, h.a], far' D.an.symm h.n, far' D.af.symm h.f0, far' D.af.symm h.f1, froz' h.za, froz' h.zn, froz' h.z0, froz' h.z1⟩
theorem PM.setn {W : World} {gS gA gN gF : Nat} {s : ByteArray} {a n : Int} {w : World} (D : PD W gS gA gN gF) (h : PM W gS gA gN gF s a n w) (v : Int) : PM W gS gA gN gF s a v (w.setCell ⟨gN, 0, none⟩ (.int .i64 v)) :=
  ⟨kp_set h.k D.ln _, far' D.sn h.s, far' D.an h.a, by simp [go_sem, h.n], far' D.nf.symm h.f0, far' D.nf.symm h.f1, froz' h.za, froz' h.zn, froz' h.z0, froz' h.z1⟩
theorem PM.drew {W : World} {gS gA gN gF : Nat} {s : ByteArray} {a n : Int} {w : World} (h : PM W gS gA gN gF s a n w) : PM W gS gA gN gF s a n w.drew :=
  ⟨kp_drew h.k, h.s, h.a, h.n, h.f0, h.f1, h.za, h.zn, h.z0, h.z1⟩
theorem PM.kp {W : World} {gS gA gN gF : Nat} {s : ByteArray} {a n : Int} {w w' : World} (h : PM W gS gA gN gF s a n w) (k : Kp w w') : PM W gS gA gN gF s a n w' :=
  ⟨kp_trans h.k k, kp_cell k h.s, kp_cell k h.a, kp_cell k h.n, kp_cell k h.f0, kp_cell k h.f1, kp_froz k h.a h.za, kp_froz k h.n h.zn, kp_froz k h.f0 h.z0, kp_froz k h.f1 h.z1⟩
set_option maxHeartbeats 4000000 in
theorem add_any (W : World) (gS gA gN gF : Nat) (s : ByteArray) (a : Nat) (n c : Int) (w : World) (D : PD W gS gA gN gF) (hM : PM W gS gA gN gF s a n w) (ha : a < s.size) (h20 : s.size ≤ 20) (hc : ((s[a]'ha).toNat : Int) = c) (h1 : 48 ≤ c) (h2 : c ≤ 57) (hn0 : 0 ≤ n) (hn : n ≤ 1125899906842624) :
    Calls Try.prog 47 #[.pointer (some ⟨gN, 0, none⟩), .pointer (some ⟨gS, 0, none⟩), .pointer (some ⟨gA, 0, none⟩)] w fun e w' => e = .returned (.tuple #[]) ∧ PM W gS gA gN gF s (a + 1 : Nat) (cap50 (10 * n + (c - 48))) w' := by
  have lA : gA < w.heap.size := cell_lt hM.a
  have lN : gN < w.heap.size := cell_lt hM.n
  have lS : gS < w.heap.size := cell_lt hM.s
  have cS := hM.s; have cA := hM.a; have cN := hM.n; have fA := hM.za; have fN := hM.zn
  have HM := Lib.hid hM; have HD := Lib.hid D
  have d1 := D.sa; have d2 := D.sn; have d3 := D.an
  clear hM D
  have z1 : (0 : Int) ≤ (a : Int) := by omega
  have z2 : (a : Int) < (s.size : Int) := by omega
  have w1 : IntKind.i64.wrap (10 * n) = 10 * n := IntWalk.i64_in _ (by omega)
  have w2 : IntKind.u8.wrap (c - 48) = c - 48 := IntWalk.u8_in _ (by omega)
  have w3 : IntKind.i64.wrap (c - 48) = c - 48 := IntWalk.i64_in _ (by omega)
  have w4 : IntKind.i64.wrap (10 * n + (c - 48)) = 10 * n + (c - 48) := IntWalk.i64_in _ (by omega)
  have w5 : IntKind.i64.wrap ((a : Int) + 1) = (a : Int) + 1 := IntWalk.i64_in _ (by omega)
  go_enter Try.func47, Try.ntmps47
  go_upto_region 0 with fail
  go_region
  have hcap : (if 1125899906842624 < 10 * n + (c - 48) then 1125899906842624 else 10 * n + (c - 48)) = cap50 (10 * n + (c - 48)) := by unfold cap50; split <;> omega
  rw [hcap]
  obtain ⟨V, hV⟩ : ∃ V, cap50 (10 * n + (c - 48)) = V := ⟨_, rfl⟩
  rw [hV]
  have HV := Lib.hid hV
  clear hcap hV
  go_wp2_with fail
  go_end0
  exact ⟨rfl, by rw [HV.out]; exact ((HM.out.setn HD.out V).seta HD.out ((a : Int) + 1)).drew⟩
/-- Parse's fault. -/
def RetF (W : World) (a : Int) (e : Ending) (w' : World) : Prop := e = .returned (.tuple #[.int .i64 0, .agg #[.int .i64 4, .int .i64 a]]) ∧ Kp W w'
set_option maxHeartbeats 4000000 in
theorem fault_any (gA : Nat) (a : Int) (w : World) (hA : w.cell? ⟨gA, 0, none⟩ = some (.int .i64 a)) : Calls Try.prog 48 #[.pointer (some ⟨gA, 0, none⟩)] w (RetF w a) := by
  have lA : gA < w.heap.size := cell_lt hA
  have K := Lib.hid (kp_refl w)
  go_enter Try.func48, Try.ntmps48
  go_upto_region 1 with fail
  go_region
  all_goals
    go_wp2_with fail
    exact bodyPost_ret (v := .tuple #[.int .i64 0, .agg #[.int .i64 4, .int .i64 a]]) (by simp [results, Try.results48, go_sem]) rfl ⟨rfl, kp_drew (kp_alloc K.out _)⟩
end Go.Proofs.Ytcmijedhjebpkaa
