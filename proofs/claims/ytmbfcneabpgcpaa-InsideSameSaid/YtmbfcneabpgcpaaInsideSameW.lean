/- The walk of InsideSame. -/
import Derived.Test.YtmbfcneabpgcpaaI7
import Derived.Test.YtmbfcneabpgcpaaGR
import Derived.Test.YtmbfcneabpgcpaaR1
import Derived.Test.YtmbfcneabpgcpaaA
import Derived.Deep.DeepCutAuto
namespace Go.Proofs.Ytmbfcneabpgcpaa
open Go.RowKit Go.Proofs.Geo
theorem crossN_frm (p : Pt) (l : List Pt) (i : Int) : crossN p (frm l i) = crossN p l := by
  unfold frm; rw [crossN_rot, List.take_append_drop]
/-- The points moved so far. -/
def MvSt (B : Nat) (l : List Pt) (d : Pt) (k : Nat) (v : Value) (wr : World) : Prop := OwnP wr B v ((l.take k).map fun x => mv x d) ∧ ∀ j (h : j < l.length), j < k → mvE l[j] d = 0
theorem MvSt.next {l : List Pt} {d : Pt} {k : Nat} (h : ∀ j (h : j < l.length), j < k → mvE l[j] d = 0) (hk : k < l.length) (h1 : mvE l[k] d = 0) : ∀ j (h : j < l.length), j < k + 1 → mvE l[j] d = 0 := by
  intro j hj hlt
  by_cases e : j = k
  · subst e; exact h1
  · exact h j hj (by omega)
theorem moved_snoc {l : List Pt} {d : Pt} {k : Nat} (hk : k < l.length) : (l.take (k + 1)).map (fun x => mv x d) = (l.take k).map (fun x => mv x d) ++ [mv l[k] d] := by
  rw [List.take_succ_eq_append_getElem hk, List.map_append]; rfl
theorem moved_cross {p d : Pt} {l : List Pt} (hp : mvE p d = 0) (h : ∀ j (h : j < l.length), j < l.length → mvE l[j] d = 0) : crossN (mv p d) (l.map fun x => mv x d) = crossN p l := by
  have h1 := mvE_zero hp
  refine crossN_mv p d h1.1 h1.2.2 l fun x hx => ?_
  obtain ⟨j, hj, rfl⟩ := List.getElem_of_mem hx
  have := mvE_zero (h j hj hj)
  exact ⟨this.1, this.2.2⟩
theorem new_box {W w' : World} {x y : Int} (hk : Kp (W.alloc (.cells #[.int .i64 x, .int .i64 y] 23)) w') : w'.cell? ⟨W.heap.size, 0, none⟩ = some (.int .i64 x) ∧ w'.cell? ⟨W.heap.size, 1, none⟩ = some (.int .i64 y) ∧ w'.frozen? ⟨W.heap.size, 0, none⟩ = false ∧ w'.frozen? ⟨W.heap.size, 1, none⟩ = false ∧ W.heap.size < w'.heap.size := by
  have h0 : w'.cell? ⟨W.heap.size, 0, none⟩ = some (.int .i64 x) := kp_cell hk (by simp [go_sem])
  have h1 : w'.cell? ⟨W.heap.size, 1, none⟩ = some (.int .i64 y) := kp_cell hk (by simp [go_sem])
  exact ⟨h0, h1, kp_froz (v := .int .i64 x) hk (by simp [go_sem]) (by simp [go_sem]), kp_froz (v := .int .i64 y) hk (by simp [go_sem]) (by simp [go_sem]), cell_lt h0⟩
theorem new_box_d {W w' : World} {x y : Int} (hk : Kp (W.alloc (.cells #[.int .i64 x, .int .i64 y] 23)).drew w') : w'.cell? ⟨W.heap.size, 0, none⟩ = some (.int .i64 x) ∧ w'.cell? ⟨W.heap.size, 1, none⟩ = some (.int .i64 y) ∧ w'.frozen? ⟨W.heap.size, 0, none⟩ = false ∧ w'.frozen? ⟨W.heap.size, 1, none⟩ = false ∧ W.heap.size < w'.heap.size := by
  have h0 : w'.cell? ⟨W.heap.size, 0, none⟩ = some (.int .i64 x) := kp_cell hk (by simp [go_sem])
  have h1 : w'.cell? ⟨W.heap.size, 1, none⟩ = some (.int .i64 y) := kp_cell hk (by simp [go_sem])
  exact ⟨h0, h1, kp_froz (v := .int .i64 x) hk (by simp [go_sem]) (by simp [go_sem]), kp_froz (v := .int .i64 y) hk (by simp [go_sem]) (by simp [go_sem]), cell_lt h0⟩
set_option linter.unusedVariables false
set_option maxHeartbeats 8000000 in
set_option maxRecDepth 100000 in
theorem insideSame_walk (px py : Int) (w : World) (a0 : Option Addr) (len0 cap0 : Nat) (hA0 : ∃ l : List Pt, len0 = l.length ∧ RdC w (.slice a0 len0 cap0) l) (hC0 : len0 ≤ cap0) (ix : Int) (bx bY : Int) :
    Calls Try.prog 9 #[pv px py, .slice a0 len0 cap0, .int .i64 ix, pv bx bY] w fun e w' => e = .returned (.bool true) ∧ Kp w w' := by
  obtain ⟨l, e0, R0⟩ := hA0
  have HR := Lib.hid R0; have HE := Lib.hid e0; clear R0 e0
  by_cases b0 : len0 ≤ 100
  · obtain ⟨i0, hi, hz0, hz1, hz2⟩ := info_parts infoPt
    have HI := Lib.hid hi; have HZ0 := Lib.hid hz0; have HZ1 := Lib.hid hz1; have HZ2 := Lib.hid hz2; clear hi hz0 hz1 hz2
    obtain ⟨n, hn⟩ : ∃ n, crossN (px, py) l = n := ⟨_, rfl⟩
    obtain ⟨bB, hb⟩ : ∃ b, inB (px, py) l = b := ⟨_, rfl⟩
    have hnl : n ≤ len0 := by rw [← hn, HE.out]; exact crossN_le _ _
    have hb2 : decide (n % 2 = 1) = bB := by rw [← hb, ← hn]; rfl
    have c1 := fun v (w : World) (h : RdC w v l) => in_rdC px py v l w h
    rw [hb] at c1
    have c2 := fun v (w : World) (h : RdC w v l) => crossings_rdC px py v l w h
    rw [hn] at c2
    have c3 := fun (w : World) (h : RdC w (.slice a0 len0 cap0) l) => from_any a0 len0 cap0 l ix w h (by rw [← HE.out]; omega) HE.out hC0
    have c4 := fun v (w : World) (h : RdC w v (frm l ix)) => crossings_rdC px py v (frm l ix) w h
    rw [crossN_frm, hn] at c4
    have c5 := fun v (w : World) (h : RdC w v l) => turned_any v l w h (by rw [← HE.out]; omega)
    have c6 := fun v (w : World) (h : RdC w v l.reverse) => crossings_rdC px py v l.reverse w h
    rw [crossN_rev, hn] at c6
    have C1 := Lib.hid c1; have C2 := Lib.hid c2; have C3 := Lib.hid c3; have C4 := Lib.hid c4; have C5 := Lib.hid c5; have C6 := Lib.hid c6
    have HN := Lib.hid hn
    have hfl : (frm l ix).length ≤ 10000 := by have := HE.out; unfold frm; simp; omega
    have HFL := Lib.hid hfl
    have t1 : ((n : Int).tmod 2 == 1) = bB := by
      rw [← hb2, Int.tmod_eq_emod_of_nonneg (by omega)]
      by_cases h : n % 2 = 1
      · rw [decide_eq_true h, show (n : Int) % 2 = 1 by omega]; rfl
      · rw [decide_eq_false h, show (n : Int) % 2 = 0 by omega]; rfl
    have t2 : ((n : Int) % 2 == 1) = bB := by rw [← t1, Int.tmod_eq_emod_of_nonneg (by omega)]
    have T1 := Lib.hid t1; have T2 := Lib.hid t2
    have t3 : decide (len0 < n) = false := decide_eq_false (by omega)
    have t5 : decide ((n : Int) < 0) = false := decide_eq_false (by omega)
    have t4 : (n != n) = false := by simp
    clear c1 c2 c3 c4 c5 c6 hn hb hb2 t1 t2 hfl
    go_enter Try.func9, Try.ntmps9
    go_upto_region 4 with (go_at_call 10; refine (awake10_any _).mono ?_; rintro e w1 ⟨rfl, hk⟩; have c0_0 : w1.cell? ⟨w.heap.size, 0, none⟩ = some (.int .i64 px) := kp_cell hk (by simp [go_sem]); have c0_1 : w1.cell? ⟨w.heap.size, 1, none⟩ = some (.int .i64 py) := kp_cell hk (by simp [go_sem]); have c1_0 : w1.cell? ⟨w.heap.size + 1, 0, none⟩ = some (.int .i64 bx) := kp_cell hk (by simp [go_sem]); have c1_1 : w1.cell? ⟨w.heap.size + 1, 1, none⟩ = some (.int .i64 bY) := kp_cell hk (by simp [go_sem]); have K : Kp w w1 := kp_trans (by repeat (first | exact kp_refl _ | apply kp_alloc | apply kp_drew)) hk; have l0_0 : w.heap.size < w1.heap.size := cell_lt c0_0; have l1_0 : w.heap.size + 1 < w1.heap.size := cell_lt c1_0; clear hk)
    go_cut [10, 11] (fun s10 s11 wx => (s10 = .bool bB ∧ s11 = .int .i64 (n : Nat)) ∧ Kp w wx ∧ wx.cell? ⟨w.heap.size, 0, none⟩ = some (.int .i64 px) ∧ wx.cell? ⟨w.heap.size, 1, none⟩ = some (.int .i64 py) ∧ wx.cell? ⟨w.heap.size + 1, 0, none⟩ = some (.int .i64 bx) ∧ wx.cell? ⟨w.heap.size + 1, 1, none⟩ = some (.int .i64 bY))
    case first =>
      go_region_held3 (fun w' => Kp w w' ∧ w'.cell? ⟨w.heap.size, 0, none⟩ = some (.int .i64 px) ∧ w'.cell? ⟨w.heap.size, 1, none⟩ = some (.int .i64 py) ∧ w'.cell? ⟨w.heap.size + 1, 0, none⟩ = some (.int .i64 bx) ∧ w'.cell? ⟨w.heap.size + 1, 1, none⟩ = some (.int .i64 bY)) ((first | (with_reducible exact ⟨K, c0_0, c0_1, c1_0, c1_1⟩) | (with_reducible exact ⟨kp_drew K, cell_d c0_0, cell_d c0_1, cell_d c1_0, cell_d c1_1⟩) | (with_reducible exact ⟨kp_alloc K _, cell_a c0_0 _, cell_a c0_1 _, cell_a c1_0 _, cell_a c1_1 _⟩) | (with_reducible exact ⟨kp_alloc (kp_drew K) _, cell_a (cell_d c0_0) _, cell_a (cell_d c0_1) _, cell_a (cell_d c1_0) _, cell_a (cell_d c1_1) _⟩) | (with_reducible exact ⟨kp_alloc (kp_alloc K _) _, cell_a (cell_a c0_0 _) _, cell_a (cell_a c0_1 _) _, cell_a (cell_a c1_0 _) _, cell_a (cell_a c1_1 _) _⟩) | (with_reducible exact ⟨kp_alloc (kp_alloc (kp_drew K) _) _, cell_a (cell_a (cell_d c0_0) _) _, cell_a (cell_a (cell_d c0_1) _) _, cell_a (cell_a (cell_d c1_0) _) _, cell_a (cell_a (cell_d c1_1) _) _⟩)))
        (first
          | (go_at_call 13; refine (C1.out _ _ (HR.out.kp (by repeat (first | exact K | apply kp_alloc | apply kp_drew | apply kp_drewN)))).mono ?_; rintro e w2 ⟨rfl, hk⟩; replace c0_0 : w2.cell? ⟨w.heap.size, 0, none⟩ = some (.int .i64 px) := kp_cell hk (by first | exact c0_0 | exact cell_a c0_0 _ | exact cell_a (cell_a c0_0 _) _ | exact cell_a (cell_a (cell_a c0_0 _) _) _); replace c0_1 : w2.cell? ⟨w.heap.size, 1, none⟩ = some (.int .i64 py) := kp_cell hk (by first | exact c0_1 | exact cell_a c0_1 _ | exact cell_a (cell_a c0_1 _) _ | exact cell_a (cell_a (cell_a c0_1 _) _) _); replace c1_0 : w2.cell? ⟨w.heap.size + 1, 0, none⟩ = some (.int .i64 bx) := kp_cell hk (by first | exact c1_0 | exact cell_a c1_0 _ | exact cell_a (cell_a c1_0 _) _ | exact cell_a (cell_a (cell_a c1_0 _) _) _); replace c1_1 : w2.cell? ⟨w.heap.size + 1, 1, none⟩ = some (.int .i64 bY) := kp_cell hk (by first | exact c1_1 | exact cell_a c1_1 _ | exact cell_a (cell_a c1_1 _) _ | exact cell_a (cell_a (cell_a c1_1 _) _) _); replace K : Kp w w2 := kp_trans (by repeat (first | exact K | apply kp_alloc | apply kp_drew | apply kp_drewN)) hk; replace l0_0 : w.heap.size < w2.heap.size := cell_lt c0_0; replace l1_0 : w.heap.size + 1 < w2.heap.size := cell_lt c1_0; clear hk)
          | (go_at_call 19; refine (C2.out _ _ (HR.out.kp (by repeat (first | exact K | apply kp_alloc | apply kp_drew | apply kp_drewN)))).mono ?_; rintro e w3 ⟨rfl, hk⟩; replace c0_0 : w3.cell? ⟨w.heap.size, 0, none⟩ = some (.int .i64 px) := kp_cell hk (by first | exact c0_0 | exact cell_a c0_0 _ | exact cell_a (cell_a c0_0 _) _ | exact cell_a (cell_a (cell_a c0_0 _) _) _); replace c0_1 : w3.cell? ⟨w.heap.size, 1, none⟩ = some (.int .i64 py) := kp_cell hk (by first | exact c0_1 | exact cell_a c0_1 _ | exact cell_a (cell_a c0_1 _) _ | exact cell_a (cell_a (cell_a c0_1 _) _) _); replace c1_0 : w3.cell? ⟨w.heap.size + 1, 0, none⟩ = some (.int .i64 bx) := kp_cell hk (by first | exact c1_0 | exact cell_a c1_0 _ | exact cell_a (cell_a c1_0 _) _ | exact cell_a (cell_a (cell_a c1_0 _) _) _); replace c1_1 : w3.cell? ⟨w.heap.size + 1, 1, none⟩ = some (.int .i64 bY) := kp_cell hk (by first | exact c1_1 | exact cell_a c1_1 _ | exact cell_a (cell_a c1_1 _) _ | exact cell_a (cell_a (cell_a c1_1 _) _) _); replace K : Kp w w3 := kp_trans (by repeat (first | exact K | apply kp_alloc | apply kp_drew | apply kp_drewN)) hk; replace l0_0 : w.heap.size < w3.heap.size := cell_lt c0_0; replace l1_0 : w.heap.size + 1 < w3.heap.size := cell_lt c1_0; clear hk))
      all_goals go_wp2_with fail
      all_goals go_meet
      all_goals exact ⟨⟨rfl, rfl⟩, K, c0_0, c0_1, c1_0, c1_1⟩
    case rest =>
      clear K c0_0 c0_1 c1_0 c1_1 l0_0 l1_0
      obtain ⟨⟨rfl, rfl⟩, K, c0_0, c0_1, c1_0, c1_1⟩ := hcut
      have l0_0 : w.heap.size < wc.heap.size := cell_lt c0_0
      have l1_0 : w.heap.size + 1 < wc.heap.size := cell_lt c1_0
      have t1 := T1.out
      have t2 := T2.out
      go_upto_region 5 with fail
      go_cut [60] (fun s wx => s = .bool false ∧ Kp w wx ∧ wx.cell? ⟨w.heap.size, 0, none⟩ = some (.int .i64 px) ∧ wx.cell? ⟨w.heap.size, 1, none⟩ = some (.int .i64 py) ∧ wx.cell? ⟨w.heap.size + 1, 0, none⟩ = some (.int .i64 bx) ∧ wx.cell? ⟨w.heap.size + 1, 1, none⟩ = some (.int .i64 bY))
      case first =>
        go_region_held3 (fun w' => Kp w w' ∧ w'.cell? ⟨w.heap.size, 0, none⟩ = some (.int .i64 px) ∧ w'.cell? ⟨w.heap.size, 1, none⟩ = some (.int .i64 py) ∧ w'.cell? ⟨w.heap.size + 1, 0, none⟩ = some (.int .i64 bx) ∧ w'.cell? ⟨w.heap.size + 1, 1, none⟩ = some (.int .i64 bY)) ((first | (with_reducible exact ⟨K, c0_0, c0_1, c1_0, c1_1⟩) | (with_reducible exact ⟨kp_drew K, cell_d c0_0, cell_d c0_1, cell_d c1_0, cell_d c1_1⟩) | (with_reducible exact ⟨kp_alloc K _, cell_a c0_0 _, cell_a c0_1 _, cell_a c1_0 _, cell_a c1_1 _⟩) | (with_reducible exact ⟨kp_alloc (kp_drew K) _, cell_a (cell_d c0_0) _, cell_a (cell_d c0_1) _, cell_a (cell_d c1_0) _, cell_a (cell_d c1_1) _⟩) | (with_reducible exact ⟨kp_alloc (kp_alloc K _) _, cell_a (cell_a c0_0 _) _, cell_a (cell_a c0_1 _) _, cell_a (cell_a c1_0 _) _, cell_a (cell_a c1_1 _) _⟩) | (with_reducible exact ⟨kp_alloc (kp_alloc (kp_drew K) _) _, cell_a (cell_a (cell_d c0_0) _) _, cell_a (cell_a (cell_d c0_1) _) _, cell_a (cell_a (cell_d c1_0) _) _, cell_a (cell_a (cell_d c1_1) _) _⟩)))
          (first
            | (go_at_call 27; refine (C3.out _ (HR.out.kp (by repeat (first | exact K | apply kp_alloc | apply kp_drew | apply kp_drewN)))).mono ?_; rintro e w4 ⟨v4, rfl, ho, hk⟩; have HF : Hid (RdC w4 v4 (frm l ix)) := Lib.hid (ho.rd (by have := HFL.out; omega)).toC; replace c0_0 : w4.cell? ⟨w.heap.size, 0, none⟩ = some (.int .i64 px) := kp_cell hk (by first | exact c0_0 | exact cell_a c0_0 _ | exact cell_a (cell_a c0_0 _) _ | exact cell_a (cell_a (cell_a c0_0 _) _) _); replace c0_1 : w4.cell? ⟨w.heap.size, 1, none⟩ = some (.int .i64 py) := kp_cell hk (by first | exact c0_1 | exact cell_a c0_1 _ | exact cell_a (cell_a c0_1 _) _ | exact cell_a (cell_a (cell_a c0_1 _) _) _); replace c1_0 : w4.cell? ⟨w.heap.size + 1, 0, none⟩ = some (.int .i64 bx) := kp_cell hk (by first | exact c1_0 | exact cell_a c1_0 _ | exact cell_a (cell_a c1_0 _) _ | exact cell_a (cell_a (cell_a c1_0 _) _) _); replace c1_1 : w4.cell? ⟨w.heap.size + 1, 1, none⟩ = some (.int .i64 bY) := kp_cell hk (by first | exact c1_1 | exact cell_a c1_1 _ | exact cell_a (cell_a c1_1 _) _ | exact cell_a (cell_a (cell_a c1_1 _) _) _); replace K : Kp w w4 := kp_trans (by repeat (first | exact K | apply kp_alloc | apply kp_drew | apply kp_drewN)) hk; replace l0_0 : w.heap.size < w4.heap.size := cell_lt c0_0; replace l1_0 : w.heap.size + 1 < w4.heap.size := cell_lt c1_0; clear hk ho)
            | (go_at_call 24; refine (C5.out _ _ (HR.out.kp (by repeat (first | exact K | apply kp_alloc | apply kp_drew | apply kp_drewN)))).mono ?_; rintro e w5 ⟨v5, rfl, ho, hk⟩; have HT : Hid (RdC w5 v5 l.reverse) := Lib.hid (ho.rd (by have := HE.out; simp; omega)).toC; replace c0_0 : w5.cell? ⟨w.heap.size, 0, none⟩ = some (.int .i64 px) := kp_cell hk (by first | exact c0_0 | exact cell_a c0_0 _ | exact cell_a (cell_a c0_0 _) _ | exact cell_a (cell_a (cell_a c0_0 _) _) _); replace c0_1 : w5.cell? ⟨w.heap.size, 1, none⟩ = some (.int .i64 py) := kp_cell hk (by first | exact c0_1 | exact cell_a c0_1 _ | exact cell_a (cell_a c0_1 _) _ | exact cell_a (cell_a (cell_a c0_1 _) _) _); replace c1_0 : w5.cell? ⟨w.heap.size + 1, 0, none⟩ = some (.int .i64 bx) := kp_cell hk (by first | exact c1_0 | exact cell_a c1_0 _ | exact cell_a (cell_a c1_0 _) _ | exact cell_a (cell_a (cell_a c1_0 _) _) _); replace c1_1 : w5.cell? ⟨w.heap.size + 1, 1, none⟩ = some (.int .i64 bY) := kp_cell hk (by first | exact c1_1 | exact cell_a c1_1 _ | exact cell_a (cell_a c1_1 _) _ | exact cell_a (cell_a (cell_a c1_1 _) _) _); replace K : Kp w w5 := kp_trans (by repeat (first | exact K | apply kp_alloc | apply kp_drew | apply kp_drewN)) hk; replace l0_0 : w.heap.size < w5.heap.size := cell_lt c0_0; replace l1_0 : w.heap.size + 1 < w5.heap.size := cell_lt c1_0; clear hk ho)
            | (go_at_call 19; (with_reducible refine (C4.out _ _ HF.out).mono ?_); rintro e w6 ⟨rfl, hk⟩; replace c0_0 : w6.cell? ⟨w.heap.size, 0, none⟩ = some (.int .i64 px) := kp_cell hk (by first | exact c0_0 | exact cell_a c0_0 _ | exact cell_a (cell_a c0_0 _) _ | exact cell_a (cell_a (cell_a c0_0 _) _) _); replace c0_1 : w6.cell? ⟨w.heap.size, 1, none⟩ = some (.int .i64 py) := kp_cell hk (by first | exact c0_1 | exact cell_a c0_1 _ | exact cell_a (cell_a c0_1 _) _ | exact cell_a (cell_a (cell_a c0_1 _) _) _); replace c1_0 : w6.cell? ⟨w.heap.size + 1, 0, none⟩ = some (.int .i64 bx) := kp_cell hk (by first | exact c1_0 | exact cell_a c1_0 _ | exact cell_a (cell_a c1_0 _) _ | exact cell_a (cell_a (cell_a c1_0 _) _) _); replace c1_1 : w6.cell? ⟨w.heap.size + 1, 1, none⟩ = some (.int .i64 bY) := kp_cell hk (by first | exact c1_1 | exact cell_a c1_1 _ | exact cell_a (cell_a c1_1 _) _ | exact cell_a (cell_a (cell_a c1_1 _) _) _); replace K : Kp w w6 := kp_trans (by repeat (first | exact K | apply kp_alloc | apply kp_drew | apply kp_drewN)) hk; replace l0_0 : w.heap.size < w6.heap.size := cell_lt c0_0; replace l1_0 : w.heap.size + 1 < w6.heap.size := cell_lt c1_0; clear hk)
            | (go_at_call 19; (with_reducible refine (C6.out _ _ HT.out).mono ?_); rintro e w7 ⟨rfl, hk⟩; replace c0_0 : w7.cell? ⟨w.heap.size, 0, none⟩ = some (.int .i64 px) := kp_cell hk (by first | exact c0_0 | exact cell_a c0_0 _ | exact cell_a (cell_a c0_0 _) _ | exact cell_a (cell_a (cell_a c0_0 _) _) _); replace c0_1 : w7.cell? ⟨w.heap.size, 1, none⟩ = some (.int .i64 py) := kp_cell hk (by first | exact c0_1 | exact cell_a c0_1 _ | exact cell_a (cell_a c0_1 _) _ | exact cell_a (cell_a (cell_a c0_1 _) _) _); replace c1_0 : w7.cell? ⟨w.heap.size + 1, 0, none⟩ = some (.int .i64 bx) := kp_cell hk (by first | exact c1_0 | exact cell_a c1_0 _ | exact cell_a (cell_a c1_0 _) _ | exact cell_a (cell_a (cell_a c1_0 _) _) _); replace c1_1 : w7.cell? ⟨w.heap.size + 1, 1, none⟩ = some (.int .i64 bY) := kp_cell hk (by first | exact c1_1 | exact cell_a c1_1 _ | exact cell_a (cell_a c1_1 _) _ | exact cell_a (cell_a (cell_a c1_1 _) _) _); replace K : Kp w w7 := kp_trans (by repeat (first | exact K | apply kp_alloc | apply kp_drew | apply kp_drewN)) hk; replace l0_0 : w.heap.size < w7.heap.size := cell_lt c0_0; replace l1_0 : w.heap.size + 1 < w7.heap.size := cell_lt c1_0; clear hk))
        all_goals go_wp2_with fail
        all_goals go_meet
        all_goals exact ⟨rfl, K, c0_0, c0_1, c1_0, c1_1⟩
      case rest =>
        clear K c0_0 c0_1 c1_0 c1_1 l0_0 l1_0 t1 t2
        obtain ⟨rfl, K, c0_0, c0_1, c1_0, c1_1⟩ := hcut
        have K0 := Lib.hid K
        go_wp2_with fail
        generalize wc = W5 at *
        have hw5 := Below.size K0.out
        obtain ⟨d, hd⟩ : ∃ d : Pt, (bx, bY) = d := ⟨_, rfl⟩
        have HD := Lib.hid hd
        clear hd K
        go_loopw [12, 13] (fun s12 s13 wr => ∃ k : Nat, k ≤ len0 ∧ s13 = .int .i64 k ∧ MvSt W5.heap.size l d k s12 wr ∧ Kp W5 wr) (fun _ i _ => len0 - (intOf i).toNat)
        case atStart => exact ⟨0, by omega, rfl, ⟨by simp only [List.take_zero, List.map_nil]; exact OwnP.nil _ _, fun j _ h => by omega⟩, kp_refl _⟩
        case round =>
          obtain ⟨k, hk, rfl, ⟨ho, hz⟩, hkp⟩ := hrel
          replace c0_0 := kp_cell hkp c0_0
          replace c0_1 := kp_cell hkp c0_1
          replace c1_0 := kp_cell hkp c1_0
          replace c1_1 := kp_cell hkp c1_1
          replace l0_0 : w.heap.size < wr.heap.size := cell_lt c0_0
          replace l1_0 : w.heap.size + 1 < wr.heap.size := cell_lt c1_0
          have HO := Lib.hid ho; have HZ := Lib.hid hz; have HKP := Lib.hid hkp
          clear ho hz hkp
          by_cases hlt : k < len0
          · have hkl : k < l.length := by rw [← HE.out]; exact hlt
            obtain ⟨B0, o0, rfl, hp0⟩ : ∃ B0 o0, a0 = some ⟨B0, o0, none⟩ ∧ PtsAt w B0 o0 l := by
              obtain ⟨_, ⟨_, e⟩ | ⟨b, off, cap, e, hp⟩⟩ := HR.out.rd (by rintro rfl; simp at hkl)
              · subst e; simp at hkl
              · injection e with e1 e2 e3; exact ⟨b, off, e1, hp⟩
            obtain ⟨y0, y1⟩ := (hp0.kp (kp_trans K0.out HKP.out)) k hkl
            obtain ⟨x, hx⟩ : ∃ x, (l[k]'hkl).1 = x := ⟨_, rfl⟩
            obtain ⟨y, hy⟩ : ∃ y, (l[k]'hkl).2 = y := ⟨_, rfl⟩
            have hpt : l[k]'hkl = (x, y) := by rw [← hx, ← hy]
            rw [hx] at y0
            rw [hy] at y1
            have hsn := moved_snoc (d := d) hkl
            have hnx := fun h => MvSt.next HZ.out hkl h
            rw [hpt] at hsn hnx
            have cm := fun w => move_any x y bx bY w
            rw [HD.out] at cm
            obtain ⟨E, hE⟩ : ∃ E, mvE (x, y) d = E := ⟨_, rfl⟩
            obtain ⟨mx, hmx⟩ : ∃ z, (mvP (x, y) d).1 = z := ⟨_, rfl⟩
            obtain ⟨my, hmy⟩ : ∃ z, (mvP (x, y) d).2 = z := ⟨_, rfl⟩
            rw [hE, hmx, hmy] at cm
            rw [hE] at hnx
            have hmv : E = 0 → mv (x, y) d = (mx, my) := fun h => by rw [← mvP_zero (hE.trans h), ← hmx, ← hmy]
            have CM := Lib.hid cm; have HSN := Lib.hid hsn; have HNX := Lib.hid hnx; have HMV := Lib.hid hmv
            have d1 : (0 : Int) ≤ (k : Int) := by omega
            have d2 : (k : Int) < (len0 : Int) := by omega
            have ly : B0 < wr.heap.size := cell_lt y0
            have K : Kp wr wr := kp_refl _
            clear cm hsn hnx hmv hx hy hpt hE hmx hmy hp0
            go_upto_region 11 with fail
            go_cut [14, 15] from 61 to 82 (fun s14 s15 wx => ∃ Bq : Nat, s14 = .pointer (some ⟨Bq, 0, none⟩) ∧ s15 = .int .i64 E ∧ Kp wr wx ∧ wx.cell? ⟨Bq, 0, none⟩ = some (.int .i64 mx) ∧ wx.cell? ⟨Bq, 1, none⟩ = some (.int .i64 my))
            case first =>
              go_region_with (go_at_call 28; refine (CM.out _).mono ?_; rintro e w6 ⟨rfl, hk⟩; replace c1_0 : w6.cell? ⟨w.heap.size + 1, 0, none⟩ = some (.int .i64 bx) := kp_cell hk (by first | exact c1_0 | exact cell_d c1_0 | exact cell_a c1_0 _ | exact cell_a (cell_d c1_0) _ | exact cell_d (cell_a c1_0 _)); replace c1_1 : w6.cell? ⟨w.heap.size + 1, 1, none⟩ = some (.int .i64 bY) := kp_cell hk (by first | exact c1_1 | exact cell_d c1_1 | exact cell_a c1_1 _ | exact cell_a (cell_d c1_1) _ | exact cell_d (cell_a c1_1 _)); replace y0 : w6.cell? ⟨B0, o0 + k * 2, none⟩ = some (.int .i64 x) := kp_cell hk (by first | exact y0 | exact cell_d y0 | exact cell_a y0 _ | exact cell_a (cell_d y0) _ | exact cell_d (cell_a y0 _)); replace y1 : w6.cell? ⟨B0, o0 + k * 2 + 1, none⟩ = some (.int .i64 y) := kp_cell hk (by first | exact y1 | exact cell_d y1 | exact cell_a y1 _ | exact cell_a (cell_d y1) _ | exact cell_d (cell_a y1 _)); (try (with_reducible (have zz := new_box hk))); (try (with_reducible (have zz := new_box_d hk))); (try (obtain ⟨z0, z1, zf0, zf1, zl⟩ := zz)); replace K : Kp wr w6 := kp_trans (by repeat (first | exact K | apply kp_alloc | apply kp_drew | apply kp_drewN)) hk; have ly6 : B0 < w6.heap.size := cell_lt y0; clear hk)
              all_goals go_wp2_with fail
              all_goals go_meet
              all_goals exact ⟨_, rfl, rfl, (by repeat (first | exact K | apply kp_alloc | apply kp_drew | apply kp_drewN | refine kp_set ?_ (by first | exact Below.size K | exact Nat.le_refl _) _)), by simp [go_sem, *], by simp [go_sem, *]⟩
            case rest =>
              obtain ⟨Bq, rfl, rfl, hkq, q0, q1⟩ := hcut
              have lq : Bq < wc.heap.size := cell_lt q0
              have HKQ := Lib.hid hkq
              clear hkq K
              by_cases hE : E = 0
              · subst hE
                have hown := HO.out.kp HKQ.out
                have HO2 := Lib.hid hown
                have hln : ((l.take k).map fun x => mv x d).length ≤ 100 := by simp; omega
                have HLN := Lib.hid hln
                have HKB : Hid (Kp W5 wc) := Lib.hid (kp_trans HKP.out HKQ.out)
                clear hown hln
                go_wp2_with (at_builtin; refine wpList_append_own_at _ rfl _ _ 28 rfl W5.heap.size 23 i0 (.agg #[.int .i64 0, .int .i64 0]) 2 16 Try.underlying28 HI.out HZ0.out HZ1.out HZ2.out rfl (by decide) _ _ _ rfl (HO2.out.kp (kp_alloc (kp_refl _) _)) ⟨wc.heap.size, 0, none⟩ 1 1 [.int .i64 mx, .int .i64 my] rfl rfl (cell_two_pt _ _ _ _) (by simp [Value.oneCell']) (by have := HLN.out; unfold maxLen; omega) (by have := HLN.out; omega) (Below.size (kp_alloc HKB.out _)) ?_; intro v' w5 hown hgrow hnil hat; have HO3 := Lib.hid (OwnP.snoc hown); have HK3 := Lib.hid (kp_of_grown (kp_alloc HKB.out _) hgrow (HO2.out.kp (kp_alloc (kp_refl _) _))); clear hown hgrow hnil hat)
                exact ⟨⟨k + 1, by omega, by go_num, ⟨by rw [HSN.out, HMV.out rfl]; exact HO3.out, HNX.out rfl⟩, HK3.out⟩, by simp [intOf]; omega⟩
              · have tE1 : (E == 0) = false := by simpa using hE
                have tE2 : (E != 0) = true := by simpa using hE
                have HKW : Hid (Kp w wc) := Lib.hid (kp_trans (kp_trans K0.out HKP.out) HKQ.out)
                go_wp2_with fail
                go_ret
                exact ⟨rfl, HKW.out⟩
          · obtain rfl : k = len0 := by omega
            have hoo := HO.out
            rw [HE.out, List.take_length] at hoo
            have hrd : RdC wr u12 (l.map fun x => mv x d) := (hoo.rd (by have := HE.out; simp; omega)).toC
            have HRD := Lib.hid hrd
            have HKW := Lib.hid (kp_trans K0.out HKP.out)
            have cm := fun w => move_any px py bx bY w
            rw [HD.out] at cm
            have hmc : mvE (px, py) d = 0 → crossN (mvP (px, py) d) (l.map fun x => mv x d) = n := fun h => by rw [mvP_zero h, moved_cross h (fun j h1 _ => HZ.out j h1 (by rw [HE.out]; exact h1)), HN.out]
            obtain ⟨E, hE⟩ : ∃ E, mvE (px, py) d = E := ⟨_, rfl⟩
            obtain ⟨mx, hmx⟩ : ∃ z, (mvP (px, py) d).1 = z := ⟨_, rfl⟩
            obtain ⟨my, hmy⟩ : ∃ z, (mvP (px, py) d).2 = z := ⟨_, rfl⟩
            have hpp : mvP (px, py) d = (mx, my) := by rw [← hmx, ← hmy]
            rw [hE, hpp] at hmc
            rw [hE, hmx, hmy] at cm
            have CM := Lib.hid cm
            have cc := fun v (w : World) (h : RdC w v (l.map fun x => mv x d)) => crossings_rdC mx my v _ w h
            by_cases h0 : E = 0
            · subst h0
              rw [hmc rfl] at cc
              have CC := Lib.hid cc
              clear cm hmc hE hmx hmy hpp cc hoo hrd
              go_wp2_with (first
                | (go_at_call 28; refine (CM.out _).mono ?_; rintro e w8 ⟨rfl, hk⟩; have K8 := Lib.hid hk; clear hk)
                | (go_at_call 19; refine (CC.out _ _ (HRD.out.kp (by repeat (first | exact K8.out | apply kp_alloc | apply kp_drew | refine kp_set ?_ (Below.size K8.out) _)))).mono ?_; rintro e w9 ⟨rfl, hk⟩; have K9 : Hid (Kp wr w9) := Lib.hid (kp_trans (by repeat (first | exact K8.out | apply kp_alloc | apply kp_drew | refine kp_set ?_ (Below.size K8.out) _)) hk); clear hk))
              go_ret
              exact ⟨by simp, kp_trans HKW.out K9.out⟩
            · have tE1 : (E == 0) = false := by simpa using h0
              have tE2 : (E != 0) = true := by simpa using h0
              clear cm hmc hE hmx hmy hpp cc hoo hrd
              go_wp2_with (go_at_call 28; refine (CM.out _).mono ?_; rintro e w8 ⟨rfl, hk⟩; have K8 := Lib.hid hk; clear hk)
              go_ret
              exact ⟨rfl, kp_trans HKW.out (by repeat (first | exact K8.out | apply kp_alloc | apply kp_drew | refine kp_set ?_ (Below.size K8.out) _))⟩
  · have b1 : 100 < len0 := by omega
    go_enter Try.func9, Try.ntmps9
    go_wp2_with (go_at_call 10; refine (awake10_any _).mono ?_; rintro e w1 ⟨rfl, hk⟩)
    go_ret
    exact ⟨rfl, kp_trans (by repeat (first | exact kp_refl _ | apply kp_alloc)) hk⟩
end Go.Proofs.Ytmbfcneabpgcpaa
