/- The walk of RingBoxes. -/
import Derived.Test.YtcpbemoiodbliaaRG16
import Derived.Test.YtcpbemoiodbliaaRingBxP
import Derived.Test.YtcpbemoiodbliaaMW
import Derived.Deep.RegionHeld3
import Derived.Deep.AppendLies
import Derived.RegionTactic
import Derived.BigRegion
import Derived.StillTailTactics
namespace Go.Proofs.Ytcpbemoiodbliaa
open Go.RowKit Go.Proofs.Geo
set_option linter.unusedVariables false
/-- What Pick tells. -/
def pickN (i : Int) (n : Nat) : Nat := (i % (n : Int)).toNat
theorem pickN_lt (i : Int) {n : Nat} (h : 1 ≤ n) : pickN i n < n := by
  unfold pickN
  have := Int.emod_nonneg i (show (n : Int) ≠ 0 by omega)
  have := Int.emod_lt_of_pos i (show (0 : Int) < (n : Int) by omega)
  omega
set_option maxHeartbeats 4000000 in
theorem pick_det (i : Int) (n : Nat) (h1 : 1 ≤ n) (h2 : n ≤ 10000000) (w : World) : Calls Try.prog 11 #[.int .i64 i, .int .i64 (n : Int)] w fun e w' => e = .returned (.int .i64 (pickN i n : Nat)) ∧ Kp w w' := by
  obtain ⟨r, hr⟩ : ∃ r, i.tmod (n : Int) = r := ⟨_, rfl⟩
  have a1 : -(n : Int) < r := by rw [← hr]; exact Int.lt_tmod_of_pos i (by omega)
  have a2 : r < (n : Int) := by rw [← hr]; exact Int.tmod_lt_of_pos i (by omega)
  have b1 : (1 : Int) ≤ (n : Int) := by omega
  have c7 : ¬ ((n : Int) = 0) := by omega
  have c8 : ¬ (n = 0) := by omega
  obtain ⟨k, hk⟩ : ∃ k, pickN i n = k := ⟨_, rfl⟩
  have hke : (k : Int) = i % (n : Int) := by
    rw [← hk]; unfold pickN
    have := Int.emod_nonneg i (show (n : Int) ≠ 0 by omega)
    omega
  have hre : i % (n : Int) = if r < 0 then r + (n : Int) else r := by
    have hm : r % (n : Int) = i % (n : Int) := by rw [← hr, Int.tmod_def, Int.sub_emod, Int.mul_emod_right, Int.sub_zero, Int.emod_emod]
    rw [← hm]
    split
    · rw [← Int.add_emod_right, Int.emod_eq_of_lt (by omega) (by omega)]
    · rw [Int.emod_eq_of_lt (by omega) (by omega)]
  rw [hk]
  have wk1 : IntKind.i64.wrap r = r := IntWalk.i64_in _ (by omega)
  by_cases hneg : r < 0
  · rw [if_pos hneg] at hre
    have hz : r + (n : Int) = (k : Int) := by rw [hke, hre]
    have wk2 : IntKind.i64.wrap (k : Int) = (k : Int) := IntWalk.i64_in _ (by omega)
    clear hk hke hre
    go_enter Try.func11, Try.ntmps11
    go_wp2
    go_ret
    exact ⟨rfl, kp_refl _⟩
  · rw [if_neg hneg] at hre
    have hz : r = (k : Int) := by rw [hke, hre]
    subst hz
    clear hk hke hre
    go_enter Try.func11, Try.ntmps11
    go_wp2
    go_ret
    exact ⟨rfl, kp_refl _⟩
/-- The first i sides' points. -/
def sides (cs ss : List Pt) (ms : List Nat) : Nat → List Pt
  | 0 => []
  | i + 1 => sides cs ss ms i ++ sideL (pt cs i) (pt ss i) (ms.getD i 0 + 1)
def cornerL (x y s : Int) : List Pt := [(x, y), (x + s, y), (x + s, y + s), (x, y + s)]
def stepL : List Pt := [(1, 0), (0, 1), (-1, 0), (0, -1)]
theorem sides_ring (x y s : Int) (m0 m1 m2 m3 : Nat) : sides (cornerL x y s) stepL [m0, m1, m2, m3] 4 = bxRing x y s m0 m1 m2 m3 := rfl
theorem sides_len (cs ss : List Pt) (ms : List Nat) (i : Nat) (h : ∀ j, ms.getD j 0 ≤ 10) : (sides cs ss ms i).length ≤ i * 11 := by
  induction i with
  | zero => simp [sides]
  | succ i ih => have := h i; simp only [sides, List.length_append, sideL_len]; omega
theorem alloc_c0 (W : World) : (W.alloc (.cells #[.int .i64 0, .int .i64 0] 25)).cell? ⟨W.heap.size, 0, none⟩ = some (.int .i64 0) := by simp [go_sem]
theorem alloc_c1 (W : World) : (W.alloc (.cells #[.int .i64 0, .int .i64 0] 25)).cell? ⟨W.heap.size, 1, none⟩ = some (.int .i64 0) := by simp [go_sem]
theorem alloc_f0 (W : World) : (W.alloc (.cells #[.int .i64 0, .int .i64 0] 25)).frozen? ⟨W.heap.size, 0, none⟩ = false := by simp [go_sem]
theorem alloc_f1 (W : World) : (W.alloc (.cells #[.int .i64 0, .int .i64 0] 25)).frozen? ⟨W.heap.size, 1, none⟩ = false := by simp [go_sem]
theorem size_drew' (W : World) : W.drew.heap.size = W.heap.size := rfl
/-- A point appended to a slice of one's own, as a step of a region that draws. -/
theorem step_app {ops : Array Oper} {o : Oper} {a : Act} {K : Act → World → Prop} {Q : Exit → Act → World → Prop} {E : Prop} (w : World) (B g : Nat) (M : List Pt) (x y : Int) (v : Value) (s t : Operand)
    (hgd : o.guard = none) (ho : o.op = .call { callee := .builtin .append, args := #[s, t], argTypes := #[23, 23] }) (hs : a.eval s = v) (ht : a.eval t = .slice (some ⟨g, 0, none⟩) 1 1)
    (hown : OwnP w B v M) (h0 : w.cell? ⟨g, 0, none⟩ = some (.int .i64 x)) (h1 : w.cell? ⟨g, 1, none⟩ = some (.int .i64 y)) (hl : M.length ≤ 10000) (hB : B ≤ w.heap.size)
    (h : ∀ v' w', OwnP w' B v' (M ++ [(x, y)]) → w.grownBy w' v.ownBlock → K (a.put o.dst v') w') : if Region.wanted o (yielded ops a.tmps) = true then Oper.wp Try.prog o a w K Q else E := by
  obtain ⟨i0, hi, hz0, hz1, hz2⟩ := info_parts infoPt
  refine step_append_lies w hgd s t 23 ho B 25 i0 (.agg #[.int .i64 0, .int .i64 0]) 2 16 Try.underlying23 hi hz0 hz1 hz2 rfl (by decide) v M.length (flat M) hs hown
    ⟨g, 0, none⟩ 1 1 [.int .i64 x, .int .i64 y] ht rfl ?_ (by simp [Value.oneCell']) (by decide) (by unfold maxLen; omega) (by omega) hB _ rfl ?_
  · intro j u hj
    match j, hj with
    | 0, hj => simp at hj; subst hj; exact h0
    | 1, hj => simp at hj; subst hj; exact h1
    | j + 2, hj => simp at hj
  · intro g' cap w' hown' hgrow _ _
    exact h _ w' (OwnP.snoc hown') hgrow
theorem own_far {w : World} {B b : Nat} {v : Value} {l : List Pt} (h : OwnP w B v l) (hb : b < B) : v.ownBlock ≠ some b := fun e => by
  have := (World.ownsRow.lt h b e).1
  omega

set_option maxHeartbeats 8000000 in
set_option maxRecDepth 100000 in
theorem ringBoxes_walk (w : World) (x y ix a b c d : Int) : Calls Try.prog 5 #[pv x y, .int .i64 ix, .agg #[.int .i64 a, .int .i64 b, .int .i64 c, .int .i64 d]] w fun e w' => e = .returned (.bool true) ∧ Kp w w' := by
  obtain ⟨i0, hi, hz0, hz1, hz2⟩ := info_parts infoPt
  have HI := Lib.hid hi; have HZ0 := Lib.hid hz0; have HZ1 := Lib.hid hz1; have HZ2 := Lib.hid hz2
  clear hi hz0 hz1 hz2
  obtain ⟨k, hk⟩ : ∃ k, pickN ix 1048576 = k := ⟨_, rfl⟩
  have hk1 : k < 1048576 := by rw [← hk]; exact pickN_lt ix (by decide)
  have pk := fun w => pick_det ix 1048576 (by decide) (by decide) w
  rw [hk] at pk
  have PK := Lib.hid pk
  clear pk hk
  obtain ⟨s, hs⟩ : ∃ s : Int, 12 + (k : Int) = s := ⟨_, rfl⟩
  have hs1 : 12 ≤ s := by omega
  have hs2 : s ≤ 2000000 := by omega
  have hsk := Lib.hid hs
  have ws : IntKind.i64.wrap s = s := IntWalk.i64_in _ (by omega)
  have mv := fun w => move_any x y s s w
  obtain ⟨E, hE⟩ : ∃ E, mvE (x, y) (s, s) = E := ⟨_, rfl⟩
  obtain ⟨px, hpx⟩ : ∃ E, (mvP (x, y) (s, s)).1 = E := ⟨_, rfl⟩
  obtain ⟨py, hpy⟩ : ∃ E, (mvP (x, y) (s, s)).2 = E := ⟨_, rfl⟩
  rw [hE, hpx, hpy] at mv
  have HMV := Lib.hid mv
  have HE := Lib.hid hE; have HPX := Lib.hid hpx; have HPY := Lib.hid hpy
  clear mv hE hpx hpy
  go_enter Try.func5, Try.ntmps5
  go_upto_region 2 with (go_at_call 14; refine (awake_any _).mono ?_; rintro e w1 ⟨rfl, hk⟩; have c0 : w1.cell? ⟨w.heap.size, 0, none⟩ = some (.int .i64 x) := kp_cell hk (by simp [go_sem]); have c1 : w1.cell? ⟨w.heap.size, 1, none⟩ = some (.int .i64 y) := kp_cell hk (by simp [go_sem]); have c2 : w1.cell? ⟨w.heap.size + 1, 0, none⟩ = some (.int .i64 a) := kp_cell hk (by simp [go_sem]); have c3 : w1.cell? ⟨w.heap.size + 1, 1, none⟩ = some (.int .i64 b) := kp_cell hk (by simp [go_sem]); have c4 : w1.cell? ⟨w.heap.size + 1, 2, none⟩ = some (.int .i64 c) := kp_cell hk (by simp [go_sem]); have c5 : w1.cell? ⟨w.heap.size + 1, 3, none⟩ = some (.int .i64 d) := kp_cell hk (by simp [go_sem]); have K : Kp w w1 := kp_trans (by repeat (first | exact kp_refl _ | apply kp_alloc | apply kp_drew)) hk; have l0 : w.heap.size < w1.heap.size := cell_lt c0; have l2 : w.heap.size + 1 < w1.heap.size := cell_lt c2; clear hk)
  have KW1 := Lib.hid K
  have BAS := Lib.hid (show ∀ W, Kp w1 W → (W.cell? ⟨w.heap.size, 0, none⟩ = some (.int .i64 x) ∧ W.cell? ⟨w.heap.size, 1, none⟩ = some (.int .i64 y) ∧ W.cell? ⟨w.heap.size + 1, 0, none⟩ = some (.int .i64 a) ∧ W.cell? ⟨w.heap.size + 1, 1, none⟩ = some (.int .i64 b) ∧ W.cell? ⟨w.heap.size + 1, 2, none⟩ = some (.int .i64 c) ∧ W.cell? ⟨w.heap.size + 1, 3, none⟩ = some (.int .i64 d)) from fun W k => ⟨kp_cell k c0, kp_cell k c1, kp_cell k c2, kp_cell k c3, kp_cell k c4, kp_cell k c5⟩); have K : Kp w1 w1 := kp_refl _
  go_upto_region 3 with (go_at_call 11; refine (PK.out _).mono ?_; rintro e w2 ⟨rfl, hk⟩; replace K : Kp w1 w2 := kp_trans (by repeat (first | (with_reducible exact K) | (with_reducible apply kp_alloc) | (with_reducible apply kp_drew) | (with_reducible apply kp_drewN))) hk; replace c0 := (BAS.out _ K).1; replace c1 := (BAS.out _ K).2.1; replace c2 := (BAS.out _ K).2.2.1; replace c3 := (BAS.out _ K).2.2.2.1; replace c4 := (BAS.out _ K).2.2.2.2.1; replace c5 := (BAS.out _ K).2.2.2.2.2; replace l0 : w.heap.size < w2.heap.size := cell_lt c0; replace l2 : w.heap.size + 1 < w2.heap.size := cell_lt c2; have lw2 := Below.size K; clear hk)
  clear hs
  go_cut [8, 9] (fun p q wx => (∃ B, p = .pointer (some ⟨B, 0, none⟩) ∧ wx.cell? ⟨B, 0, none⟩ = some (.int .i64 px) ∧ wx.cell? ⟨B, 1, none⟩ = some (.int .i64 py)) ∧ q = .int .i64 E ∧ Kp w wx ∧ wx.cell? ⟨w.heap.size, 0, none⟩ = some (.int .i64 x) ∧ wx.cell? ⟨w.heap.size, 1, none⟩ = some (.int .i64 y) ∧ wx.cell? ⟨w.heap.size + 1, 0, none⟩ = some (.int .i64 a) ∧ wx.cell? ⟨w.heap.size + 1, 1, none⟩ = some (.int .i64 b) ∧ wx.cell? ⟨w.heap.size + 1, 2, none⟩ = some (.int .i64 c) ∧ wx.cell? ⟨w.heap.size + 1, 3, none⟩ = some (.int .i64 d))
  case first =>
    go_region_with (first
      | (go_at_call 17; refine (at_any s s _).mono ?_; rintro e w4 ⟨rfl, hk⟩; (first | (have z0 := kp_cell hk (alloc_c0 _); have z1 := kp_cell hk (alloc_c1 _); have f0 := kp_froz hk (alloc_c0 _) (alloc_f0 _); have f1 := kp_froz hk (alloc_c1 _) (alloc_f1 _); (try simp only [size_drew'] at z0 z1 f0 f1); have lz := cell_lt z0) | (replace f0 := kp_froz hk z0 f0; replace f1 := kp_froz hk z1 f1; replace z0 := kp_cell hk z0; replace z1 := kp_cell hk z1; replace lz := cell_lt z0) | skip); replace K : Kp w1 w4 := kp_trans (by repeat (first | (with_reducible exact K) | (with_reducible apply kp_alloc) | (with_reducible apply kp_drew) | (with_reducible apply kp_drewN))) hk; replace c0 := (BAS.out _ K).1; replace c1 := (BAS.out _ K).2.1; replace c2 := (BAS.out _ K).2.2.1; replace c3 := (BAS.out _ K).2.2.2.1; replace c4 := (BAS.out _ K).2.2.2.2.1; replace c5 := (BAS.out _ K).2.2.2.2.2; replace l0 : w.heap.size < w4.heap.size := cell_lt c0; replace l2 : w.heap.size + 1 < w4.heap.size := cell_lt c2; have lw4 := Below.size K; clear hk)
      | (go_at_call 16; refine (HMV.out _).mono ?_; rintro e w5 ⟨rfl, hk⟩; (first | (have z0 := kp_cell hk (alloc_c0 _); have z1 := kp_cell hk (alloc_c1 _); have f0 := kp_froz hk (alloc_c0 _) (alloc_f0 _); have f1 := kp_froz hk (alloc_c1 _) (alloc_f1 _); (try simp only [size_drew'] at z0 z1 f0 f1); have lz := cell_lt z0) | (replace f0 := kp_froz hk z0 f0; replace f1 := kp_froz hk z1 f1; replace z0 := kp_cell hk z0; replace z1 := kp_cell hk z1; replace lz := cell_lt z0) | skip); replace K : Kp w1 w5 := kp_trans (by repeat (first | (with_reducible exact K) | (with_reducible apply kp_alloc) | (with_reducible apply kp_drew) | (with_reducible apply kp_drewN))) hk; replace c0 := (BAS.out _ K).1; replace c1 := (BAS.out _ K).2.1; replace c2 := (BAS.out _ K).2.2.1; replace c3 := (BAS.out _ K).2.2.2.1; replace c4 := (BAS.out _ K).2.2.2.2.1; replace c5 := (BAS.out _ K).2.2.2.2.2; replace l0 : w.heap.size < w5.heap.size := cell_lt c0; replace l2 : w.heap.size + 1 < w5.heap.size := cell_lt c2; have lw5 := Below.size K; clear hk))
    all_goals
      go_wp2_with fail
      go_meet
      refine ⟨⟨_, rfl, by first | (simp [go_sem]; done) | (simp [go_sem, z0]; done), by first | (simp [go_sem]; done) | (simp [go_sem, z1]; done)⟩, rfl, ?_⟩
      refine (fun k => ⟨kp_trans KW1.out k, BAS.out _ k⟩) ?_
      (repeat (first | exact K | apply kp_alloc | apply kp_drew | apply kp_drewN | refine kp_set ?_ ?_ _))
      all_goals (first | exact Nat.le_refl _ | (simp; done) | omega)
  case rest =>
    clear K c0 c1 c2 c3 c4 c5 l0 l2
    obtain ⟨⟨B, rfl, c6, c7⟩, rfl, K, c0, c1, c2, c3, c4, c5⟩ := hcut
    by_cases hz : E = 0
    case neg =>
      have tE : (E != 0) = true := by simpa using hz
      clear hz
      go_wp2_with fail
      go_ret
      exact ⟨rfl, K⟩
    subst hz
    obtain ⟨ok1, ok2, ok3⟩ := mvE_zero HE.out
    obtain rfl : px = x + s := by rw [← HPX.out, mvP_zero HE.out]; rfl
    obtain rfl : py = y + s := by rw [← HPY.out, mvP_zero HE.out]; rfl
    have ok4 : okP (x + s, y + s) = true := ok3
    have HOK1 := Lib.hid ok1; have HOK4 := Lib.hid ok4
    have hb1 := okP_iff.1 ok1
    have hb4 := okP_iff.1 ok4
    simp only at hb1 hb4
    have HB1 := Lib.hid hb1; have HB4 := Lib.hid hb4
    clear ok1 ok2 ok3 ok4 hb1 hb4
    go_upto_region 6 with fail
    go_cut [10] (fun p wx => (∃ Bc, p = .slice (some ⟨Bc, 0, none⟩) 4 4 ∧ PtsAt wx Bc 0 (cornerL x y s)) ∧ Kp w wx ∧ wx.cell? ⟨w.heap.size + 1, 0, none⟩ = some (.int .i64 a) ∧ wx.cell? ⟨w.heap.size + 1, 1, none⟩ = some (.int .i64 b) ∧ wx.cell? ⟨w.heap.size + 1, 2, none⟩ = some (.int .i64 c) ∧ wx.cell? ⟨w.heap.size + 1, 3, none⟩ = some (.int .i64 d))
    case first =>
      have l0 : w.heap.size < wc.heap.size := cell_lt c0; have l2 : w.heap.size + 1 < wc.heap.size := cell_lt c2; have l6 : B < wc.heap.size := cell_lt c6
      have KWC := Lib.hid K
      have BAT := Lib.hid (show ∀ W, Kp wc W → (W.cell? ⟨w.heap.size, 0, none⟩ = some (.int .i64 x) ∧ W.cell? ⟨w.heap.size, 1, none⟩ = some (.int .i64 y) ∧ W.cell? ⟨w.heap.size + 1, 0, none⟩ = some (.int .i64 a) ∧ W.cell? ⟨w.heap.size + 1, 1, none⟩ = some (.int .i64 b) ∧ W.cell? ⟨w.heap.size + 1, 2, none⟩ = some (.int .i64 c) ∧ W.cell? ⟨w.heap.size + 1, 3, none⟩ = some (.int .i64 d) ∧ W.cell? ⟨B, 0, none⟩ = some (.int .i64 (x + s)) ∧ W.cell? ⟨B, 1, none⟩ = some (.int .i64 (y + s))) from fun W k => ⟨kp_cell k c0, kp_cell k c1, kp_cell k c2, kp_cell k c3, kp_cell k c4, kp_cell k c5, kp_cell k c6, kp_cell k c7⟩); have K : Kp wc wc := kp_refl _
      go_region_held3 (fun w' => Kp wc w' ∧ w'.cell? ⟨w.heap.size, 0, none⟩ = some (.int .i64 x) ∧ w'.cell? ⟨w.heap.size, 1, none⟩ = some (.int .i64 y) ∧ w'.cell? ⟨w.heap.size + 1, 0, none⟩ = some (.int .i64 a) ∧ w'.cell? ⟨w.heap.size + 1, 1, none⟩ = some (.int .i64 b) ∧ w'.cell? ⟨w.heap.size + 1, 2, none⟩ = some (.int .i64 c) ∧ w'.cell? ⟨w.heap.size + 1, 3, none⟩ = some (.int .i64 d) ∧ w'.cell? ⟨B, 0, none⟩ = some (.int .i64 (x + s)) ∧ w'.cell? ⟨B, 1, none⟩ = some (.int .i64 (y + s))) ((first | (with_reducible exact ⟨K, c0, c1, c2, c3, c4, c5, c6, c7⟩) | (with_reducible exact ⟨kp_drew K, cell_d c0, cell_d c1, cell_d c2, cell_d c3, cell_d c4, cell_d c5, cell_d c6, cell_d c7⟩) | (with_reducible exact ⟨kp_alloc K _, cell_a c0 _, cell_a c1 _, cell_a c2 _, cell_a c3 _, cell_a c4 _, cell_a c5 _, cell_a c6 _, cell_a c7 _⟩) | (with_reducible exact ⟨kp_alloc (kp_drew K) _, cell_a (cell_d c0) _, cell_a (cell_d c1) _, cell_a (cell_d c2) _, cell_a (cell_d c3) _, cell_a (cell_d c4) _, cell_a (cell_d c5) _, cell_a (cell_d c6) _, cell_a (cell_d c7) _⟩) | (with_reducible exact ⟨kp_drew (kp_alloc K _), cell_d (cell_a c0 _), cell_d (cell_a c1 _), cell_d (cell_a c2 _), cell_d (cell_a c3 _), cell_d (cell_a c4 _), cell_d (cell_a c5 _), cell_d (cell_a c6 _), cell_d (cell_a c7 _)⟩)))
        ((go_at_call 17; refine (at_any _ _ _).mono ?_; rintro e w4 ⟨rfl, hk⟩; replace K : Kp wc w4 := kp_trans (by repeat (first | (with_reducible exact K) | (with_reducible apply kp_alloc) | (with_reducible apply kp_drew) | (with_reducible apply kp_drewN))) hk; replace c0 := (BAT.out _ K).1; replace c1 := (BAT.out _ K).2.1; replace c2 := (BAT.out _ K).2.2.1; replace c3 := (BAT.out _ K).2.2.2.1; replace c4 := (BAT.out _ K).2.2.2.2.1; replace c5 := (BAT.out _ K).2.2.2.2.2.1; replace c6 := (BAT.out _ K).2.2.2.2.2.2.1; replace c7 := (BAT.out _ K).2.2.2.2.2.2.2; replace l0 : w.heap.size < w4.heap.size := cell_lt c0; replace l2 : w.heap.size + 1 < w4.heap.size := cell_lt c2; replace l6 : B < w4.heap.size := cell_lt c6; skip; clear hk))
      go_wp2_with fail
      go_meet
      refine ⟨⟨_, rfl, by unfold cornerL; exact (by repeat (first | exact ptsAt_nil _ _ _ | (refine PtsAt.cons (by simp [go_sem]) (by simp [go_sem]) ?_)))⟩, ?_⟩
      refine (fun k => ⟨kp_trans KWC.out k, (BAT.out _ k).2.2.1, (BAT.out _ k).2.2.2.1, (BAT.out _ k).2.2.2.2.1, (BAT.out _ k).2.2.2.2.2.1⟩) (by repeat (first | (with_reducible exact K) | (with_reducible apply kp_alloc) | (with_reducible apply kp_drew) | (with_reducible apply kp_drewN)))
    case rest =>
      clear K c0 c1 c6 c7 c2 c3 c4 c5
      obtain ⟨⟨Bc, rfl, hcor⟩, K, c2, c3, c4, c5⟩ := hcut
      have HCO := Lib.hid hcor; clear hcor
      have l2 : w.heap.size + 1 < wc.heap.size := cell_lt c2
      go_upto_region 8 with (go_at_call 17; refine (at_any _ _ _).mono ?_; rintro e w4 ⟨rfl, hk⟩; replace c2 : w4.cell? ⟨w.heap.size + 1, 0, none⟩ = some (.int .i64 a) := kp_cell hk (by first | exact c2 | exact cell_d c2 | exact cell_a c2 _ | exact cell_a (cell_d c2) _ | exact cell_d (cell_a c2 _)); replace c3 : w4.cell? ⟨w.heap.size + 1, 1, none⟩ = some (.int .i64 b) := kp_cell hk (by first | exact c3 | exact cell_d c3 | exact cell_a c3 _ | exact cell_a (cell_d c3) _ | exact cell_d (cell_a c3 _)); replace c4 : w4.cell? ⟨w.heap.size + 1, 2, none⟩ = some (.int .i64 c) := kp_cell hk (by first | exact c4 | exact cell_d c4 | exact cell_a c4 _ | exact cell_a (cell_d c4) _ | exact cell_d (cell_a c4 _)); replace c5 : w4.cell? ⟨w.heap.size + 1, 3, none⟩ = some (.int .i64 d) := kp_cell hk (by first | exact c5 | exact cell_d c5 | exact cell_a c5 _ | exact cell_a (cell_d c5) _ | exact cell_d (cell_a c5 _)); replace K : Kp w w4 := kp_trans (by first | exact K | exact kp_drew K | exact kp_alloc K _ | exact kp_alloc (kp_drew K) _ | exact kp_drew (kp_alloc K _)) hk; replace HCO := Lib.hid (HCO.out.kp hk); replace l2 : w.heap.size + 1 < w4.heap.size := cell_lt c2; clear hk)
      obtain ⟨wn, hW⟩ : ∃ W, (w4.alloc (.cells #[.int .i64 1, .int .i64 0, .int .i64 0, .int .i64 1, .int .i64 (-1), .int .i64 0, .int .i64 0, .int .i64 (-1)] 25)) = W := ⟨_, rfl⟩
      have hst : PtsAt wn w4.heap.size 0 stepL := by
        rw [← hW]; unfold stepL
        exact (by repeat (first | exact ptsAt_nil _ _ _ | (refine PtsAt.cons (by simp [go_sem]) (by simp [go_sem]) ?_)))
      have hk : Kp w4 wn := by rw [← hW]; exact kp_alloc (kp_refl _) _
      replace c2 : wn.cell? ⟨w.heap.size + 1, 0, none⟩ = some (.int .i64 a) := kp_cell hk c2; replace c3 : wn.cell? ⟨w.heap.size + 1, 1, none⟩ = some (.int .i64 b) := kp_cell hk c3; replace c4 : wn.cell? ⟨w.heap.size + 1, 2, none⟩ = some (.int .i64 c) := kp_cell hk c4; replace c5 : wn.cell? ⟨w.heap.size + 1, 3, none⟩ = some (.int .i64 d) := kp_cell hk c5
      replace K := kp_trans K hk
      have hco := HCO.out.kp hk
      have lst : w4.heap.size < wn.heap.size := cell_lt (hst 0 (by decide)).1
      rw [hW]
      clear hW hk HCO
      generalize w4.heap.size = Bs at *
      have hme : ∀ k, k < 4 → ∃ mi : Int, wn.cell? ⟨w.heap.size + 1, k, none⟩ = some (.int .i64 mi) ∧ pickN mi 11 = [pickN a 11, pickN b 11, pickN c 11, pickN d 11].getD k 0 := by
        intro k hk
        rcases (by omega : k = 0 ∨ k = 1 ∨ k = 2 ∨ k = 3) with rfl | rfl | rfl | rfl
        · exact ⟨a, c2, rfl⟩
        · exact ⟨b, c3, rfl⟩
        · exact ⟨c, c4, rfl⟩
        · exact ⟨d, c5, rfl⟩
      have hml : ∀ j, [pickN a 11, pickN b 11, pickN c 11, pickN d 11].getD j 0 ≤ 10 := by
        intro j
        have q := fun i => pickN_lt i (n := 11) (by decide)
        rcases (by omega : j = 0 ∨ j = 1 ∨ j = 2 ∨ j = 3 ∨ 4 ≤ j) with rfl | rfl | rfl | rfl | h
        · have := q a; simp; omega
        · have := q b; simp; omega
        · have := q c; simp; omega
        · have := q d; simp; omega
        · simp [List.getD_eq_getElem?_getD, List.getElem?_eq_none (show [pickN a 11, pickN b 11, pickN c 11, pickN d 11].length ≤ j by simpa using h)]
      have hrg : sides (cornerL x y s) stepL [pickN a 11, pickN b 11, pickN c 11, pickN d 11] 4 = bxRing x y s (pickN a 11) (pickN b 11) (pickN c 11) (pickN d 11) := rfl
      have hck := bx_chk (x := x) (y := y) hs1 (hml 0) (hml 1) (hml 2) (hml 3) HOK1.out HOK4.out
      have hsg := bx_sign (x := x) (y := y) hs1 (hml 0) (hml 1) (hml 2) (hml 3) HOK1.out HOK4.out
      simp only [List.getD_cons_zero, List.getD_cons_succ] at hck hsg
      rw [← hrg] at hck hsg
      generalize [pickN a 11, pickN b 11, pickN c 11, pickN d 11] = ms at *
      have hcc : ∀ k, k < 4 → ∃ cx cy : Int, wn.cell? ⟨Bc, k * 2, none⟩ = some (.int .i64 cx) ∧ wn.cell? ⟨Bc, k * 2 + 1, none⟩ = some (.int .i64 cy) ∧ pt (cornerL x y s) k = (cx, cy) ∧ -1099511627775 ≤ cx ∧ cx ≤ 1099511627775 ∧ -1099511627775 ≤ cy ∧ cy ≤ 1099511627775 := by
        intro k hk
        obtain ⟨h1, h2⟩ := pt_lt hco (show k < (cornerL x y s).length from hk)
        simp only [Nat.zero_add] at h1 h2
        have hb1 := HB1.out; have hb4 := HB4.out
        refine ⟨_, _, h1, h2, rfl, ?_⟩
        rcases (by omega : k = 0 ∨ k = 1 ∨ k = 2 ∨ k = 3) with rfl | rfl | rfl | rfl <;> simp only [pt, cornerL, List.getD_cons_zero, List.getD_cons_succ] <;> omega
      have hss : ∀ k, k < 4 → ∃ sx sy : Int, wn.cell? ⟨Bs, k * 2, none⟩ = some (.int .i64 sx) ∧ wn.cell? ⟨Bs, k * 2 + 1, none⟩ = some (.int .i64 sy) ∧ pt stepL k = (sx, sy) ∧ (sx = -1 ∨ sx = 0 ∨ sx = 1) ∧ (sy = -1 ∨ sy = 0 ∨ sy = 1) := by
        intro k hk
        obtain ⟨h1, h2⟩ := pt_lt hst (show k < stepL.length from hk)
        simp only [Nat.zero_add] at h1 h2
        refine ⟨_, _, h1, h2, rfl, ?_⟩
        rcases (by omega : k = 0 ∨ k = 1 ∨ k = 2 ∨ k = 3) with rfl | rfl | rfl | rfl <;> simp [pt, stepL]
      have lco : Bc < wn.heap.size := cell_lt (hco 0 (by simp [cornerL])).1
      have le0 : w.heap.size + 1 < wn.heap.size := cell_lt c2
      have HME := Lib.hid hme; have HML := Lib.hid hml; have HCC := Lib.hid hcc; have HSS := Lib.hid hss; have HCK := Lib.hid hck; have HSG := Lib.hid hsg; have HCO := Lib.hid hco; have KN := Lib.hid K
      have cp := fun v w h => check_any v (sides (cornerL x y s) stepL ms 4) w h (by have := sides_len (cornerL x y s) stepL ms 4 HML.out; omega)
      have sp := fun v w h => ringSign_of check_any v (sides (cornerL x y s) stepL ms 4) w h (by have := sides_len (cornerL x y s) stepL ms 4 HML.out; omega)
      rw [HCK.out] at cp; rw [HSG.out] at sp
      have CP := Lib.hid cp; have SP := Lib.hid sp
      have cx := fun v w h => check_any v (crossed x y s) w h (by simp [crossed])
      rw [crossed_chk hs1 HOK1.out HOK4.out] at cx
      have CX := Lib.hid cx
      generalize (chk (sides (cornerL x y s) stepL ms 4)).2 = q at *
      have hfl := fld_err 0 q
      clear hme hml hcc hss hck hsg hco hst hrg cp sp cx K c2 c3 c4 c5 HCK HSG
      go_wp2_with fail
      go_loopw [12, 13] (fun l i wr => ∃ k : Nat, k ≤ 4 ∧ i = .int .i64 k ∧ OwnP wr wn.heap.size l (sides (cornerL x y s) stepL ms k) ∧ Kp wn wr) (fun _ i _ => 4 - (intOf i).toNat)
      case atStart => exact ⟨0, by omega, rfl, OwnP.nil _ _, kp_refl _⟩
      case round =>
        obtain ⟨k, hk, rfl, ho, hkp⟩ := hrel
        have HO := Lib.hid ho
        clear ho
        by_cases hlt : k < 4
        · obtain ⟨mi, m0, hmi⟩ := HME.out k hlt
          obtain ⟨cx, cy, p0, p1, hpc, b1, b2, b3, b4⟩ := HCC.out k hlt
          obtain ⟨sx, sy, q0, q1, hps, v1, v2⟩ := HSS.out k hlt
          have hmp := HML.out k
          have pk := fun w => pick_det mi 11 (by decide) (by decide) w
          rw [hmi] at pk
          have hsd : ∀ j, sides (cornerL x y s) stepL ms k ++ sideL (pt (cornerL x y s) k) (pt stepL k) j = sides (cornerL x y s) stepL ms k ++ sideL (cx, cy) (sx, sy) j := by rw [hpc, hps]; intro _; rfl
          have hnx : sides (cornerL x y s) stepL ms (k + 1) = sides (cornerL x y s) stepL ms k ++ sideL (cx, cy) (sx, sy) (ms.getD k 0 + 1) := by rw [← hsd]; rfl
          have hll := sides_len (cornerL x y s) stepL ms k HML.out
          generalize ms.getD k 0 = m at *
          obtain ⟨L, hL⟩ : ∃ L, sides (cornerL x y s) stepL ms k = L := ⟨_, rfl⟩
          rw [hL] at hnx hll HO
          have HNX := Lib.hid hnx
          have PK2 := Lib.hid pk
          have hll2 : L.length ≤ 50 := by omega
          have wk1 : IntKind.i64.wrap ((k : Int) + 1) = (k : Int) + 1 := IntWalk.i64_in _ (by omega)
          have d1 : (0 : Int) ≤ (k : Int) := by omega
          have d2 : (k : Int) < 4 := by omega
          have tlk : decide ((k : Int) < 4) = true := decide_eq_true (by omega)
          have tlk' : decide (k < 4) = true := decide_eq_true hlt
          have HKP := Lib.hid hkp
          clear hnx pk hmi hpc hps hsd hL hll hkp
          go_wp2_with fail
          (try simp only [tlk, tlk'])
          go_loopw [12, 14] (fun l i wr => ∃ j : Nat, j ≤ m + 1 ∧ i = .int .i64 j ∧ OwnP wr wn.heap.size l (L ++ sideL (cx, cy) (sx, sy) j) ∧ Kp wn wr) (fun _ i _ => m + 1 - (intOf i).toNat)
          case atStart => exact ⟨0, by omega, rfl, by simpa [sideL] using HO.out, HKP.out⟩
          case round =>
            obtain ⟨j, hj, rfl, ho, hkp⟩ := hrel
            have HO2 := Lib.hid ho
            have K : Kp wn wr := hkp
            have z0 := kp_cell K m0
            have le0x : w.heap.size + 1 < wr.heap.size := cell_lt z0
            clear ho hkp
            by_cases hjt : j ≤ m
            · have tj : decide ((j : Int) ≤ (m : Int)) = true := decide_eq_true (by omega)
              go_upto_region 15 with (go_at_call 11; refine (PK2.out _).mono ?_; rintro e w6 ⟨rfl, hk⟩; replace K := kp_trans K hk; replace HO2 := Lib.hid (HO2.out.kp hk); clear hk)
              obtain ⟨ux, hux⟩ : ∃ z, (j : Int) * sx = z := ⟨_, rfl⟩
              obtain ⟨uy, huy⟩ : ∃ z, (j : Int) * sy = z := ⟨_, rfl⟩
              have bu1 : -20 ≤ ux ∧ ux ≤ 20 := by rcases v1 with rfl | rfl | rfl <;> omega
              have bu2 : -20 ≤ uy ∧ uy ≤ 20 := by rcases v2 with rfl | rfl | rfl <;> omega
              have wm1 : IntKind.i64.wrap ((j : Int) * sx) = ux := by rw [hux]; exact IntWalk.i64_in _ (by omega)
              have wm2 : IntKind.i64.wrap ((j : Int) * sy) = uy := by rw [huy]; exact IntWalk.i64_in _ (by omega)
              have wa1 : IntKind.i64.wrap (cx + ux) = cx + ux := IntWalk.i64_in _ (by omega)
              have wa2 : IntKind.i64.wrap (cy + uy) = cy + uy := IntWalk.i64_in _ (by omega)
              have wj : IntKind.i64.wrap ((j : Int) + 1) = (j : Int) + 1 := IntWalk.i64_in _ (by omega)
              have HSN := Lib.hid (show L ++ sideL (cx, cy) (sx, sy) (j + 1) = (L ++ sideL (cx, cy) (sx, sy) j) ++ [(cx + ux, cy + uy)] by rw [sideL_succ, ← List.append_assoc]; simp only [hux, huy])
              have hln : (L ++ sideL (cx, cy) (sx, sy) j).length ≤ 100 := by rw [List.length_append, sideL_len]; omega
              obtain ⟨M, hM⟩ : ∃ M, L ++ sideL (cx, cy) (sx, sy) j = M := ⟨_, rfl⟩
              rw [hM] at HSN hln HO2
              have HLN := Lib.hid hln
              clear hux huy hln hM z0 le0x
              have lco6 : Bc < w6.heap.size := Nat.lt_of_lt_of_le lco (Below.size K)
              have lst6 : Bs < w6.heap.size := Nat.lt_of_lt_of_le lst (Below.size K)
              go_region_held3 (fun w' => Kp wn w' ∧ w'.cell? ⟨Bc, k * 2, none⟩ = some (.int .i64 cx) ∧ w'.cell? ⟨Bc, k * 2 + 1, none⟩ = some (.int .i64 cy) ∧ w'.cell? ⟨Bs, k * 2, none⟩ = some (.int .i64 sx) ∧ w'.cell? ⟨Bs, k * 2 + 1, none⟩ = some (.int .i64 sy))
                ((first | (with_reducible exact ⟨K, (kp_cell K p0), (kp_cell K p1), (kp_cell K q0), (kp_cell K q1)⟩) | (with_reducible exact ⟨kp_drew K, cell_d (kp_cell K p0), cell_d (kp_cell K p1), cell_d (kp_cell K q0), cell_d (kp_cell K q1)⟩) | (with_reducible exact ⟨kp_alloc K _, cell_a (kp_cell K p0) _, cell_a (kp_cell K p1) _, cell_a (kp_cell K q0) _, cell_a (kp_cell K q1) _⟩) | (with_reducible exact ⟨kp_alloc (kp_drew K) _, cell_a (cell_d (kp_cell K p0)) _, cell_a (cell_d (kp_cell K p1)) _, cell_a (cell_d (kp_cell K q0)) _, cell_a (cell_d (kp_cell K q1)) _⟩) | (with_reducible exact ⟨kp_drew (kp_alloc K _), cell_d (cell_a (kp_cell K p0) _), cell_d (cell_a (kp_cell K p1) _), cell_d (cell_a (kp_cell K q0) _), cell_d (cell_a (kp_cell K q1) _)⟩) | (with_reducible exact ⟨K8.out, kp_cell K8.out p0, kp_cell K8.out p1, kp_cell K8.out q0, kp_cell K8.out q1⟩)))
                (first
                  | (go_at_call 17; refine (at_any _ _ _).mono ?_; rintro e w7 ⟨rfl, hk⟩; replace HO2 := Lib.hid (HO2.out.kp (kp_trans (by repeat (first | (with_reducible exact kp_refl _) | (with_reducible apply kp_alloc) | (with_reducible apply kp_drew) | (with_reducible apply kp_drewN))) hk)); replace K : Kp wn w7 := kp_trans (by repeat (first | (with_reducible exact K) | (with_reducible apply kp_alloc) | (with_reducible apply kp_drew) | (with_reducible apply kp_drewN))) hk; have HW7 := trivial; clear hk)
                  | (have zz := HW7; (refine step_app _ wn.heap.size w7.heap.size M (cx + ux) (cy + uy) _ _ _ (by rfl) (by rfl) (by rfl) (by rfl) (HO2.out.kp (by repeat (first | (with_reducible exact kp_refl _) | (with_reducible apply kp_alloc) | (with_reducible apply kp_drew) | (with_reducible apply kp_drewN)))) (by simp [go_sem]) (by simp [go_sem]) (Nat.le_trans HLN.out (by decide)) (Below.size (show Kp wn _ from (by repeat (first | (with_reducible exact K) | (with_reducible apply kp_alloc) | (with_reducible apply kp_drew) | (with_reducible apply kp_drewN))))) ?_); intro v8 w8 hown hgrow; have K8 := Lib.hid (kp_of_grown (show Kp wn _ from (by repeat (first | (with_reducible exact K) | (with_reducible apply kp_alloc) | (with_reducible apply kp_drew) | (with_reducible apply kp_drewN)))) hgrow (HO2.out.kp (by repeat (first | (with_reducible exact kp_refl _) | (with_reducible apply kp_alloc) | (with_reducible apply kp_drew) | (with_reducible apply kp_drewN))))); have HO8 := Lib.hid hown; clear hown hgrow))
              go_wp2_with fail
              exact ⟨⟨j + 1, by omega, by go_num, by rw [HSN.out]; exact HO8.out, K8.out⟩, by simp [intOf]; omega⟩
            · have tj : decide ((j : Int) ≤ (m : Int)) = false := decide_eq_false (by omega)
              obtain rfl : j = m + 1 := by omega
              go_wp2_with (go_at_call 11; refine (PK2.out _).mono ?_; rintro e w6 ⟨rfl, hk⟩; replace K := kp_trans K hk; replace HO2 := Lib.hid (HO2.out.kp hk); clear hk)
              exact ⟨⟨k + 1, by omega, by go_num, by rw [HNX.out]; exact HO2.out, K⟩, by simp [intOf]; omega⟩
        · obtain rfl : k = 4 := by omega
          have RD := Lib.hid (HO.out.rdc (by have := sides_len (cornerL x y s) stepL ms 4 HML.out; omega))
          have K : Kp wn wr := hkp
          have HCO4 := Lib.hid (HCO.out.kp K)
          clear hkp HME HML HCC HSS HO HCO
          go_upto_region 18 with (first
            | (go_at_call 12; refine (CP.out _ _ RD.out).mono ?_; rintro e w8 ⟨rfl, hk⟩; replace RD := Lib.hid (RD.out.kp hk); replace HCO4 := Lib.hid (HCO4.out.kp hk); replace K := kp_trans K hk; clear hk)
            | (go_at_call 18; refine (SP.out _ _ RD.out).mono ?_; rintro e w9 ⟨rfl, hk⟩; replace HCO4 := Lib.hid (HCO4.out.kp hk); replace K := kp_trans K hk; clear hk))
          go_cut [15] (fun p wx => (∃ Bx, p = .slice (some ⟨Bx, 0, none⟩) 4 4 ∧ PtsAt wx Bx 0 (crossed x y s)) ∧ Kp wn wx)
          case first =>
            have hp := HCO4.out
            have r0 : w9.cell? ⟨Bc, 0, none⟩ = some (.int .i64 x) := by have := (hp 0 (by simp [cornerL])).1; simpa [cornerL] using this
            have r1 : w9.cell? ⟨Bc, 1, none⟩ = some (.int .i64 y) := by have := (hp 0 (by simp [cornerL])).2; simpa [cornerL] using this
            have r2 : w9.cell? ⟨Bc, 2, none⟩ = some (.int .i64 (x + s)) := by have := (hp 1 (by simp [cornerL])).1; simpa [cornerL] using this
            have r3 : w9.cell? ⟨Bc, 3, none⟩ = some (.int .i64 y) := by have := (hp 1 (by simp [cornerL])).2; simpa [cornerL] using this
            have r4 : w9.cell? ⟨Bc, 4, none⟩ = some (.int .i64 (x + s)) := by have := (hp 2 (by simp [cornerL])).1; simpa [cornerL] using this
            have r5 : w9.cell? ⟨Bc, 5, none⟩ = some (.int .i64 (y + s)) := by have := (hp 2 (by simp [cornerL])).2; simpa [cornerL] using this
            have r6 : w9.cell? ⟨Bc, 6, none⟩ = some (.int .i64 x) := by have := (hp 3 (by simp [cornerL])).1; simpa [cornerL] using this
            have r7 : w9.cell? ⟨Bc, 7, none⟩ = some (.int .i64 (y + s)) := by have := (hp 3 (by simp [cornerL])).2; simpa [cornerL] using this
            have lco9 : Bc < w9.heap.size := cell_lt r0
            clear hp HCO4
            go_region_held3 (fun w' => Kp wn w' ∧ w'.cell? ⟨Bc, 0, none⟩ = some (.int .i64 x) ∧ w'.cell? ⟨Bc, 1, none⟩ = some (.int .i64 y) ∧ w'.cell? ⟨Bc, 2, none⟩ = some (.int .i64 (x + s)) ∧ w'.cell? ⟨Bc, 3, none⟩ = some (.int .i64 y) ∧ w'.cell? ⟨Bc, 4, none⟩ = some (.int .i64 (x + s)) ∧ w'.cell? ⟨Bc, 5, none⟩ = some (.int .i64 (y + s)) ∧ w'.cell? ⟨Bc, 6, none⟩ = some (.int .i64 x) ∧ w'.cell? ⟨Bc, 7, none⟩ = some (.int .i64 (y + s))) ((first | exact ⟨K, r0, r1, r2, r3, r4, r5, r6, r7⟩ | exact ⟨kp_drew K, cell_d r0, cell_d r1, cell_d r2, cell_d r3, cell_d r4, cell_d r5, cell_d r6, cell_d r7⟩ | exact ⟨kp_alloc K _, cell_a r0 _, cell_a r1 _, cell_a r2 _, cell_a r3 _, cell_a r4 _, cell_a r5 _, cell_a r6 _, cell_a r7 _⟩ | exact ⟨kp_alloc (kp_drew K) _, cell_a (cell_d r0) _, cell_a (cell_d r1) _, cell_a (cell_d r2) _, cell_a (cell_d r3) _, cell_a (cell_d r4) _, cell_a (cell_d r5) _, cell_a (cell_d r6) _, cell_a (cell_d r7) _⟩)) (fail)
            go_wp2_with fail
            go_meet
            exact ⟨⟨_, rfl, (by repeat (first | exact ptsAt_nil _ _ _ | (refine PtsAt.cons (by simp [go_sem]) (by simp [go_sem]) ?_)))⟩, (by repeat (first | (with_reducible exact K) | (with_reducible apply kp_alloc) | (with_reducible apply kp_drew) | (with_reducible apply kp_drewN)))⟩
          case rest =>
            clear K HCO4
            obtain ⟨⟨Bx, rfl, hx⟩, K⟩ := hcut
            have RX := Lib.hid (Rd.toC (w := wc) (v := .slice (some ⟨Bx, 0, none⟩) 4 4) (l := crossed x y s) ⟨by simp [crossed], .inr ⟨Bx, 0, 4, rfl, hx⟩⟩)
            clear hx
            go_wp2_with (go_at_call 12; refine (CX.out _ _ RX.out).mono ?_; rintro e w9 ⟨rfl, hk⟩; replace K := kp_trans K hk; clear hk)
            go_ret
            exact ⟨rfl, kp_trans KN.out K⟩
end Go.Proofs.Ytcpbemoiodbliaa
