/- Contracts of numbers in digits: Mul. -/
import Derived.Test.YtcmijedhjebpkaaN6
namespace Go.Proofs.Ytcmijedhjebpkaa
open Go.RowKit Go.Proofs.Num Go.Proofs.Geo

/-- The number of the lowest n digits. -/
def pre (V : Int) (n : Nat) : Int := hv ((List.range n).map (dg V))
theorem hv_append (l m : List Int) : hv (l ++ m) = hv l + 65536 ^ l.length * hv m := by
  induction l with
  | nil => simp [hv]
  | cons d l ih =>
    simp only [List.cons_append, hv, ih, List.length_cons, Int.pow_succ]
    grind
theorem pre_succ (V : Int) (n : Nat) : pre V (n + 1) = pre V n + 65536 ^ n * dg V n := by
  unfold pre
  rw [List.range_succ, List.map_append, hv_append]
  simp [hv]
theorem pre_all {V : Int} {n : Nat} (h : sh V n = 0) : pre V n = V := by have := hv_sh V n; rw [h] at this; simpa [pre] using this
theorem hv_set_add (E : List Int) (m : Nat) (t : Int) (h : m < E.length) : hv (E.set m (E[m] + t)) = hv E + 65536 ^ m * t := by
  induction E generalizing m with
  | nil => simp at h
  | cons d l ih =>
    cases m with
    | zero => simp [hv]; omega
    | succ m =>
      simp only [List.getElem_cons_succ, List.set_cons_succ, hv, Int.pow_succ]
      rw [ih m (by simpa using h)]
      grind
/-- After i whole rows and k digits of the next one. -/
def MulSt (X Y : Int) (i k : Nat) (E : List Int) : Prop :=
  E.length = 12 ∧ hv E = pre X i * Y + 65536 ^ i * dg X i * pre Y k ∧ ∀ d ∈ E, 0 ≤ d ∧ d ≤ (4 * i + k : Nat) * 4294967296
theorem MulSt.start (X Y : Int) : MulSt X Y 0 0 numZ := ⟨rfl, by simp [pre, hv, numZ], by simp [numZ]⟩
theorem MulSt.row {X Y : Int} {i : Nat} {E : List Int} (hy : sh Y 4 = 0) (h : MulSt X Y i 4 E) : MulSt X Y (i + 1) 0 E := by
  obtain ⟨h1, h2, h3⟩ := h
  refine ⟨h1, ?_, fun d hd => by have := h3 d hd; omega⟩
  rw [h2, pre_all hy, pre_succ]
  simp [pre, hv]
  grind
theorem mul_bd {a b : Int} (ha : 0 ≤ a ∧ a < 65536) (hb : 0 ≤ b ∧ b < 65536) : 0 ≤ a * b ∧ a * b ≤ 4294836225 := by
  refine ⟨Int.mul_nonneg ha.1 hb.1, ?_⟩
  have := Int.mul_le_mul (show a ≤ 65535 by omega) (show b ≤ 65535 by omega) hb.1 (by omega)
  omega
theorem MulSt.step {X Y : Int} {i k : Nat} {E : List Int} (h : MulSt X Y i k E) (hi : i + k < E.length) : MulSt X Y i (k + 1) (E.set (i + k) (E[i + k] + dg X i * dg Y k)) := by
  obtain ⟨h1, h2, h3⟩ := h
  refine ⟨by simpa using h1, ?_, fun d hd => ?_⟩
  · rw [hv_set_add, h2, pre_succ, Int.pow_add]
    grind
  · rcases List.mem_or_eq_of_mem_set hd with h | rfl
    · have := h3 d h; omega
    · have b1 := mul_bd (dg_bd X i) (dg_bd Y k)
      have b2 := h3 _ (List.getElem_mem hi)
      omega
theorem MulSt.end {X Y : Int} {E : List Int} (hx : sh X 4 = 0) (h : MulSt X Y 4 0 E) : hv E = X * Y ∧ ∀ d ∈ E, 0 ≤ d ∧ d ≤ 2199023255552 := by
  obtain ⟨h1, h2, h3⟩ := h
  refine ⟨by rw [h2, pre_all hx]; simp [pre, hv], fun d hd => by have := h3 d hd; omega⟩

set_option maxHeartbeats 8000000 in
set_option maxRecDepth 100000 in
theorem mul_core (p q b : Bool) (X Y V : Int) (hx : sh X 4 = 0) (hy : sh Y 4 = 0) (ht : X * Y < top12) (hb : (!(p == q)) = b) (hV : (if b then -(X * Y) else X * Y) = V) (w : World) :
    Calls Try.prog 38 #[.agg (numC p (d12 X)), .agg (numC q (d12 Y))] w fun e w' => e = .returned (.agg (numI V)) ∧ Kp w w' := by
  have hc := fun (E : List Int) (h : MulSt X Y 4 0 E) (w : World) => carried_num b E (X * Y) h.1 (MulSt.end hx h).1 (MulSt.end hx h).2 ht w
  rw [hV] at hc
  have HC := Lib.hid hc
  have HY0 := Lib.hid hy
  clear hc hx hy ht hV
  go_enter Try.func38, Try.ntmps38
  go_upto_region 1 with fail
  obtain ⟨W, hW⟩ : ∃ W, ((w.alloc (.cells (numC p (d12 X)) 69)).alloc (.cells (numC q (d12 Y)) 69)).alloc (.cells #[.bool false, .int .i64 0, .int .i64 0, .int .i64 0, .int .i64 0, .int .i64 0, .int .i64 0, .int .i64 0, .int .i64 0, .int .i64 0, .int .i64 0, .int .i64 0, .int .i64 0] 69) = W := ⟨_, rfl⟩
  have hx : NumB W w.heap.size p (d12 X) := by rw [← hW]; exact ((NumB.new w _ _ (d12_length _)).a _).a _
  have hy : NumB W (w.heap.size + 1) q (d12 Y) := by
    rw [← hW]
    have h := (NumB.new (w.alloc (.cells (numC p (d12 X)) 69)) q (d12 Y) (d12_length _)).a (.cells #[.bool false, .int .i64 0, .int .i64 0, .int .i64 0, .int .i64 0, .int .i64 0, .int .i64 0, .int .i64 0, .int .i64 0, .int .i64 0, .int .i64 0, .int .i64 0, .int .i64 0] 69)
    rwa [World.size_alloc] at h
  have hr : NumB W (w.heap.size + 1 + 1) false numZ := by
    rw [← hW]
    have h := NumB.new ((w.alloc (.cells (numC p (d12 X)) 69)).alloc (.cells (numC q (d12 Y)) 69)) false numZ rfl
    rwa [World.size_alloc, World.size_alloc] at h
  have hk : Kp w W := by rw [← hW]; exact kp_alloc (kp_alloc (kp_alloc (kp_refl _) _) _) _
  rw [hW]; clear hW
  have s0 := hx.sgn
  have s1 := hy.sgn
  have HX := Lib.hid hx
  have HY := Lib.hid hy
  have HR := Lib.hid hr
  have HK := Lib.hid hk
  have hlt := hr.lt
  clear hx hy hr hk
  go_upto_region 2 with fail
  obtain ⟨W2, hW2⟩ : ∃ W2, W.alloc (.cells #[.bool b, .int .i64 0, .int .i64 0, .int .i64 0, .int .i64 0, .int .i64 0, .int .i64 0, .int .i64 0, .int .i64 0, .int .i64 0, .int .i64 0, .int .i64 0, .int .i64 0] 69) = W2 := ⟨_, rfl⟩
  have X2 : NumB W2 w.heap.size p (d12 X) := by rw [← hW2]; exact HX.out.a _
  have Y2 : NumB W2 (w.heap.size + 1) q (d12 Y) := by rw [← hW2]; exact HY.out.a _
  have R2 : NumB W2 (w.heap.size + 1 + 1) false numZ := by rw [← hW2]; exact HR.out.a _
  have Z2 : NumB W2 W.heap.size b numZ := by rw [← hW2]; exact NumB.new W b numZ rfl
  have K2 : Kp w W2 := by rw [← hW2]; exact kp_alloc HK.out _
  clear HX HY HR HK
  generalize W.heap.size = G at *
  rw [hW2]; clear hW2
  have hG : w.heap.size + 1 + 1 < G := hlt
  have HX := Lib.hid X2
  have HY := Lib.hid Y2
  have HR := Lib.hid R2
  have HZ := Lib.hid Z2
  have HK := Lib.hid K2
  clear X2 Y2 R2 Z2 K2 hlt s0 s1
  go_wp2_with fail
  go_loopw [6] (fun u wr => ∃ i : Nat, i ≤ 4 ∧ u = .int .i64 i ∧ ∃ E, MulSt X Y i 0 E ∧ NumB wr w.heap.size p (d12 X) ∧ NumB wr (w.heap.size + 1) q (d12 Y) ∧ NumB wr (w.heap.size + 1 + 1) false numZ ∧ NumB wr G b E ∧ Kp w wr) (fun u _ => 4 - (intOf u).toNat)
  case atStart => exact ⟨0, by omega, rfl, _, MulSt.start X Y, HX.out, HY.out, HR.out, HZ.out, HK.out⟩
  case round =>
    obtain ⟨i, hi, rfl, E, hm, hx, hy, hr, hz, hkp⟩ := hrel
    clear HX HY HR HZ HK
    by_cases hlt : i < 4
    · have hd : decide ((i : Int) < 4) = true := by simp; omega
      obtain ⟨wo, rfl⟩ : ∃ wo : World, wo = wr := ⟨_, rfl⟩
      have HX := Lib.hid hx
      have HY := Lib.hid hy
      have HR := Lib.hid hr
      have HZ := Lib.hid hz
      have HK := Lib.hid hkp
      have HM := Lib.hid hm
      clear hx hy hr hz hkp hm
      go_wp2_with fail
      try simp only [hd]
      go_loopw [7] (fun u wr => ∃ k : Nat, k ≤ 4 ∧ u = .int .i64 k ∧ ∃ E, MulSt X Y i k E ∧ NumB wr w.heap.size p (d12 X) ∧ NumB wr (w.heap.size + 1) q (d12 Y) ∧ NumB wr (w.heap.size + 1 + 1) false numZ ∧ NumB wr G b E ∧ Kp w wr) (fun u _ => 4 - (intOf u).toNat)
      case atStart => exact ⟨0, by omega, rfl, _, HM.out, HX.out, HY.out, HR.out, HZ.out, HK.out⟩
      case round =>
        obtain ⟨k, hk, rfl, E2, hm, hx, hy, hr, hz, hkp⟩ := hrel
        clear HX HY HR HZ HK HM
        by_cases hlt2 : k < 4
        · have hl := hm.1
          have c1 : 0 ≤ (i : Int) + (k : Int) ∧ (i : Int) + (k : Int) < 12 := by omega
          have c2 : 0 ≤ (i : Int) ∧ (i : Int) < 12 := by omega
          have c3 : 0 ≤ (k : Int) ∧ (k : Int) < 12 := by omega
          have ct : ((i : Int) + (k : Int)).toNat = i + k := by omega
          have x0 := hx.cell i (by rw [d12_length]; omega)
          have x1 := hy.cell k (by rw [d12_length]; omega)
          have x2 := hz.cell (i + k) (by omega)
          rw [d12_get] at x0 x1
          have y2 := hz.froz (1 + (i + k))
          have bm := mul_bd (dg_bd X i) (dg_bd Y k)
          have be := hm.2.2 _ (List.getElem_mem (show i + k < E2.length by omega))
          have hst := hm.step (show i + k < E2.length by omega)
          have hz2 := hz.set (i + k) (E2[i + k]'(by omega) + dg X i * dg Y k)
          have hX := Lib.hid (hx.off (a := ⟨G, 1 + (i + k), none⟩) (.int .i64 (E2[i + k]'(by omega) + dg X i * dg Y k)) (by simp; omega))
          have hY := Lib.hid (hy.off (a := ⟨G, 1 + (i + k), none⟩) (.int .i64 (E2[i + k]'(by omega) + dg X i * dg Y k)) (by simp; omega))
          have hR := Lib.hid (hr.off (a := ⟨G, 1 + (i + k), none⟩) (.int .i64 (E2[i + k]'(by omega) + dg X i * dg Y k)) (by simp; omega))
          have hK := Lib.hid (kp_set hkp (a := ⟨G, 1 + (i + k), none⟩) (by simp; omega) (.int .i64 (E2[i + k]'(by omega) + dg X i * dg Y k)))
          have hZ := Lib.hid hz2
          have hM := Lib.hid hst
          have be2 : E2[i + k]'(by omega) ≤ 68719476736 := by omega
          have be1 := be.1
          clear hst hz2 hx hy hr hz hkp hm be
          generalize E2[i + k]'(by omega) = e at *
          generalize dg X i = x at *
          generalize dg Y k = y at *
          have wm : IntKind.i64.wrap (x * y) = x * y := IntWalk.i64_in _ (by omega)
          have wm2 : wrap64 (x * y) = x * y := by rw [← IntWalk.i64_left]; exact wm
          have ws : IntKind.i64.wrap (e + x * y) = e + x * y := IntWalk.i64_in _ (by omega)
          have ws2 : wrap64 (e + x * y) = e + x * y := by rw [← IntWalk.i64_left]; exact ws
          clear be1 be2 bm
          go_wp2_with fail
          go_region
          go_wp2_with fail
          exact ⟨⟨k + 1, by omega, by go_num, _, hM.out, hX.out.drew, hY.out.drew, hR.out.drew, hZ.out.drew, kp_drew hK.out⟩, by simp [intOf]; omega⟩
        · obtain rfl : k = 4 := by omega
          have hM := Lib.hid (hm.row HY0.out)
          have hX := Lib.hid hx
          have hY := Lib.hid hy
          have hR := Lib.hid hr
          have hZ := Lib.hid hz
          have hK := Lib.hid hkp
          clear hm hx hy hr hz hkp
          go_wp2_with fail
          exact ⟨⟨i + 1, by omega, by go_num, _, hM.out, hX.out, hY.out, hR.out, hZ.out, hK.out⟩, by simp [intOf]; omega⟩
    · obtain rfl : i = 4 := by omega
      have hM := Lib.hid hm
      have hR := Lib.hid hr
      have hZ := Lib.hid hz
      have hK := Lib.hid hkp
      have hl := Lib.hid hm.1
      clear hm hx hy hr hz hkp
      go_wp2_with (first
        | ((with_reducible refine at_slot 43 ?_); refine wpList_load_row rfl 69 _ rfl (G) rfl 69 _ (0, 0) _ hZ.out.1 Try.underlying69 rfl (info_num' hl.out) ?_)
        | (go_at_call 43; refine (HC.out _ hM.out _).mono ?_; rintro e w2 ⟨rfl, hk⟩; have r2 := Lib.hid (hR.out.kp hk); have k2 := Lib.hid (kp_trans hK.out hk); clear hk)
        | ((with_reducible refine at_store 69 ?_); refine wpList_store_row rfl 69 _ _ rfl (w.heap.size + 1 + 1) (numI (V)) rfl rfl 69 _ r2.out.1 (info_numI _) (by rw [numC_size r2.out.2]; exact (numC_size (d12_length _)).symm) (numC_one _ _) ?_))
      refine bodyPost_ret (v := .agg (numI (V))) (results_cell_row rfl _ _ (w.heap.size + 1 + 1) 69 _ (0, 0) _ rfl (setRow_heap _ _ _ _ _ _ r2.out.1) Try.underlying69 rfl (info_numI _)) rfl ?_
      exact ⟨rfl, kp_row k2.out (by omega) _⟩
end Go.Proofs.Ytcmijedhjebpkaa
