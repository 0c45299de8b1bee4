/- Contracts: the document's product. -/
import Derived.Test.YtcadaejpegdpeaaN8
import Derived.Test.YtcadaejpegdpeaaW5
import Derived.Deep.RegionHeld3
import Derived.Laws.Rows
namespace Go.Proofs.Ytcadaejpegdpeaa
open Go.RowKit Go.Proofs.Num Go.Proofs.Geo

theorem NumB.all {w : World} {B : Nat} {neg : Bool} {E : List Int} (h : NumB w B neg E) : w.rangeAt B 0 (numC neg E).toList := fun j v hv => by
  rw [Nat.zero_add, cell_of_row w B j _ _ _ h.1, ← hv, Array.getElem?_toList]
/-- Two words in a block. -/
def W2B (w : World) (B : Nat) (x y : Int) : Prop := w.heap[B]? = some (.cells #[.int .u64 x, .int .u64 y] 47 (0, 0))
theorem W2B.c0 {w : World} {B : Nat} {x y : Int} (h : W2B w B x y) : w.cell? ⟨B, 0, none⟩ = some (.int .u64 x) := by rw [cell_of_row w B 0 _ _ _ h]; rfl
theorem W2B.c1 {w : World} {B : Nat} {x y : Int} (h : W2B w B x y) : w.cell? ⟨B, 1, none⟩ = some (.int .u64 y) := by rw [cell_of_row w B 1 _ _ _ h]; rfl
theorem W2B.froz {w : World} {B : Nat} {x y : Int} (h : W2B w B x y) (o : Nat) : w.frozen? ⟨B, o, none⟩ = false := frozen_of_row w B o _ _ h
theorem W2B.set0 {w : World} {B : Nat} {x y : Int} (h : W2B w B x y) (u : Int) : W2B (w.setCell ⟨B, 0, none⟩ (.int .u64 u)) B u y := by unfold W2B; rw [heap_setCell_same w B _ _ _ _ h]; rfl
theorem W2B.set1 {w : World} {B : Nat} {x y : Int} (h : W2B w B x y) (u : Int) : W2B (w.setCell ⟨B, 1, none⟩ (.int .u64 u)) B x u := by unfold W2B; rw [heap_setCell_same w B _ _ _ _ h]; rfl
theorem W2B.drew {w : World} {B : Nat} {x y : Int} (h : W2B w B x y) : W2B w.drew B x y := h
theorem W2B.lt {w : World} {B : Nat} {x y : Int} (h : W2B w B x y) : B < w.heap.size := (Array.getElem?_eq_some_iff.1 h).1
/-- The two words while the first k digits are laid. -/
def wLo (V : Int) (k : Nat) : Int := pre V (min k 4)
def wHi (V : Int) (k : Nat) : Int := pre (V / 18446744073709551616) (k - 4)
theorem dg_shift (V : Int) (k : Nat) : dg (V / 18446744073709551616) k = dg V (k + 4) := by
  unfold dg
  have e : sh (V / 18446744073709551616) k = sh V (k + 4) := by
    show _ = sh (V / 65536 / 65536 / 65536 / 65536) k
    congr 1; omega
  rw [e]
theorem pre_bd (V : Int) (n : Nat) : 0 ≤ pre V n ∧ pre V n < 65536 ^ n := by
  induction n with
  | zero => exact ⟨Int.le_refl _, by show (0 : Int) < 1; decide⟩
  | succ n ih =>
    have hd := dg_bd V n
    have hp : (0 : Int) < 65536 ^ n := Int.pow_pos (by decide)
    rw [pre_succ, Int.pow_succ]
    generalize (65536 : Int) ^ n = p at *
    constructor
    · have := Int.mul_nonneg (Int.le_of_lt hp) hd.1; omega
    · have := Int.mul_le_mul_of_nonneg_left (show dg V n ≤ 65535 by omega) (Int.le_of_lt hp)
      omega

theorem w_step0 (V : Int) : wLo V 0 + dg V 0 * 1 = wLo V 1 ∧ wHi V 0 = wHi V 1 ∧ 0 ≤ wLo V 0 ∧ wLo V 0 < 1 := by
  have h := pre_succ V 0
  have b := pre_bd V 0
  exact ⟨by show pre V 0 + dg V 0 * 1 = pre V 1; rw [h]; simp only [Int.reducePow]; omega, rfl, b.1, by have := b.2; simp only [Int.reducePow] at this; exact this⟩
theorem w_step1 (V : Int) : wLo V 1 + dg V 1 * 65536 = wLo V 2 ∧ wHi V 1 = wHi V 2 ∧ 0 ≤ wLo V 1 ∧ wLo V 1 < 65536 := by
  have h := pre_succ V 1
  have b := pre_bd V 1
  exact ⟨by show pre V 1 + dg V 1 * 65536 = pre V 2; rw [h]; simp only [Int.reducePow]; omega, rfl, b.1, by have := b.2; simp only [Int.reducePow] at this; exact this⟩
theorem w_step2 (V : Int) : wLo V 2 + dg V 2 * 4294967296 = wLo V 3 ∧ wHi V 2 = wHi V 3 ∧ 0 ≤ wLo V 2 ∧ wLo V 2 < 4294967296 := by
  have h := pre_succ V 2
  have b := pre_bd V 2
  exact ⟨by show pre V 2 + dg V 2 * 4294967296 = pre V 3; rw [h]; simp only [Int.reducePow]; omega, rfl, b.1, by have := b.2; simp only [Int.reducePow] at this; exact this⟩
theorem w_step3 (V : Int) : wLo V 3 + dg V 3 * 281474976710656 = wLo V 4 ∧ wHi V 3 = wHi V 4 ∧ 0 ≤ wLo V 3 ∧ wLo V 3 < 281474976710656 := by
  have h := pre_succ V 3
  have b := pre_bd V 3
  exact ⟨by show pre V 3 + dg V 3 * 281474976710656 = pre V 4; rw [h]; simp only [Int.reducePow]; omega, rfl, b.1, by have := b.2; simp only [Int.reducePow] at this; exact this⟩
theorem w_step4 (V : Int) : wHi V 4 + dg V 4 * 1 = wHi V 5 ∧ wLo V 4 = wLo V 5 ∧ 0 ≤ wHi V 4 ∧ wHi V 4 < 1 := by
  have h := pre_succ (V / 18446744073709551616) 0
  rw [dg_shift] at h
  simp only [Nat.reduceAdd] at h
  have b := pre_bd (V / 18446744073709551616) 0
  exact ⟨by show pre (V / 18446744073709551616) 0 + dg V 4 * 1 = pre (V / 18446744073709551616) 1; rw [h]; simp only [Int.reducePow]; omega, rfl, b.1, by have := b.2; simp only [Int.reducePow] at this; exact this⟩
theorem w_step5 (V : Int) : wHi V 5 + dg V 5 * 65536 = wHi V 6 ∧ wLo V 5 = wLo V 6 ∧ 0 ≤ wHi V 5 ∧ wHi V 5 < 65536 := by
  have h := pre_succ (V / 18446744073709551616) 1
  rw [dg_shift] at h
  simp only [Nat.reduceAdd] at h
  have b := pre_bd (V / 18446744073709551616) 1
  exact ⟨by show pre (V / 18446744073709551616) 1 + dg V 5 * 65536 = pre (V / 18446744073709551616) 2; rw [h]; simp only [Int.reducePow]; omega, rfl, b.1, by have := b.2; simp only [Int.reducePow] at this; exact this⟩
theorem w_step6 (V : Int) : wHi V 6 + dg V 6 * 4294967296 = wHi V 7 ∧ wLo V 6 = wLo V 7 ∧ 0 ≤ wHi V 6 ∧ wHi V 6 < 4294967296 := by
  have h := pre_succ (V / 18446744073709551616) 2
  rw [dg_shift] at h
  simp only [Nat.reduceAdd] at h
  have b := pre_bd (V / 18446744073709551616) 2
  exact ⟨by show pre (V / 18446744073709551616) 2 + dg V 6 * 4294967296 = pre (V / 18446744073709551616) 3; rw [h]; simp only [Int.reducePow]; omega, rfl, b.1, by have := b.2; simp only [Int.reducePow] at this; exact this⟩
theorem w_step7 (V : Int) : wHi V 7 + dg V 7 * 281474976710656 = wHi V 8 ∧ wLo V 7 = wLo V 8 ∧ 0 ≤ wHi V 7 ∧ wHi V 7 < 281474976710656 := by
  have h := pre_succ (V / 18446744073709551616) 3
  rw [dg_shift] at h
  simp only [Nat.reduceAdd] at h
  have b := pre_bd (V / 18446744073709551616) 3
  exact ⟨by show pre (V / 18446744073709551616) 3 + dg V 7 * 281474976710656 = pre (V / 18446744073709551616) 4; rw [h]; simp only [Int.reducePow]; omega, rfl, b.1, by have := b.2; simp only [Int.reducePow] at this; exact this⟩
theorem w_end {V : Int} (h0 : 0 ≤ V) (h : V < 340282366920938463463374607431768211456) : wLo V 8 = V % 18446744073709551616 ∧ wHi V 8 = V / 18446744073709551616 := by
  have h1 := hv_sh V 4
  have b := pre_bd V 4
  have h2 := hv_sh (V / 18446744073709551616) 4
  have e2 : sh (V / 18446744073709551616) 4 = 0 := by show V / 18446744073709551616 / 65536 / 65536 / 65536 / 65536 = 0; omega
  rw [e2] at h2
  have e1 : wLo V 8 = pre V 4 := rfl
  have e3 : wHi V 8 = pre (V / 18446744073709551616) 4 := rfl
  rw [e1, e3]
  unfold pre at *
  simp only [Int.reducePow] at h1 h2 b
  constructor <;> omega

theorem wHi_eq0 (V : Int) : wHi V 0 = wHi V 1 := (w_step0 V).2.1
theorem wHi_eq1 (V : Int) : wHi V 1 = wHi V 2 := (w_step1 V).2.1
theorem wHi_eq2 (V : Int) : wHi V 2 = wHi V 3 := (w_step2 V).2.1
theorem wHi_eq3 (V : Int) : wHi V 3 = wHi V 4 := (w_step3 V).2.1
theorem wLo_eq4 (V : Int) : wLo V 4 = wLo V 5 := (w_step4 V).2.1
theorem wLo_eq5 (V : Int) : wLo V 5 = wLo V 6 := (w_step5 V).2.1
theorem wLo_eq6 (V : Int) : wLo V 6 = wLo V 7 := (w_step6 V).2.1
theorem wLo_eq7 (V : Int) : wLo V 7 = wLo V 8 := (w_step7 V).2.1
set_option maxHeartbeats 8000000 in
set_option maxRecDepth 100000 in
theorem rmul_core (a b U V : Int) (s : Bool) (ha : I64 a) (hb : I64 b) (hU : a * b = U) (hs : decide (U < 0) = s) (hV : (U.natAbs : Int) = V) (w : World) : Calls Try.prog 11 #[.int .i64 a, .int .i64 b] w fun e w' =>
    e = .returned (.tuple #[.int .u64 (wHi V 8), .int .u64 (wLo V 8), .int .i64 U.sign]) ∧ Kp w w' := by
  have ms := mul_size ha hb
  have c1 := Lib.hid (of_any a ha)
  have c2 := Lib.hid (of_any b hb)
  have c3 := mulN_any a b ha hb
  rw [hU] at c3 ms
  have c4 := fun w => sgn_any U (by unfold Sm top12; omega) w
  have hn : numI U = numC s (d12 V) := by unfold numI; rw [hs, hV]
  have iN := info_numI U
  have iS : (numI U).size = 13 := numC_size (d12_length _)
  have iO := numC_one s (d12 V)
  rw [hn] at c3 c4 iN iS
  generalize U.sign = T at *
  have C3 := Lib.hid c3
  have c5 : ∀ w : World, Calls Try.prog 30 #[.agg #[.bool s, .int .i64 (dg V 0), .int .i64 (dg V 1), .int .i64 (dg V 2), .int .i64 (dg V 3), .int .i64 (dg V 4), .int .i64 (dg V 5), .int .i64 (dg V 6), .int .i64 (dg V 7), .int .i64 (dg V 8), .int .i64 (dg V 9), .int .i64 (dg V 10), .int .i64 (dg V 11)]] w fun e w' => e = .returned (.int .i64 T) ∧ Kp w w' := c4
  have C4 := Lib.hid c5
  have IN := Lib.hid iN
  have IS := Lib.hid iS
  have IO := Lib.hid iO
  clear c3 c4 c5 ha hb ms hU hs hV hn iN iS iO
  go_enter Try.func11, Try.ntmps11
  go_wp2_with fail
  go_at_call 28; refine (c1.out _).mono ?_; rintro e w1 ⟨rfl, k1⟩
  go_wp2_with fail
  go_at_call 28; refine (c2.out _).mono ?_; rintro e w2 ⟨rfl, k2⟩
  go_wp2_with fail
  go_at_call 29; refine (C3.out _).mono ?_; rintro e w3 ⟨rfl, k3⟩
  have K3 := Lib.hid (kp_trans (kp_trans k1 k2) k3)
  clear k1 k2 k3
  go_upto_region 2 with ((with_reducible refine at_store 44 ?_); refine wpList_store_row rfl 44 _ _ rfl (w3.heap.size) (numC s (d12 V)) rfl rfl 44 _ (heap_alloc_new w3 _) IN.out (by rw [IS.out]; rfl) IO.out ?_)
  obtain ⟨W4, hW4⟩ : ∃ W, (w3.alloc (.cells #[.bool false, .int .i64 0, .int .i64 0, .int .i64 0, .int .i64 0, .int .i64 0, .int .i64 0, .int .i64 0, .int .i64 0, .int .i64 0, .int .i64 0, .int .i64 0, .int .i64 0] 44)).setRow w3.heap.size (numC s (d12 V)) = W := ⟨_, rfl⟩
  have hx : NumB W4 w3.heap.size s (d12 V) := by rw [← hW4]; exact ⟨setRow_heap _ _ _ _ _ _ (heap_alloc_new w3 _), d12_length _⟩
  have hk : Kp w W4 := by rw [← hW4]; exact kp_row (kp_alloc K3.out _) (Below.size K3.out) _
  rw [hW4]
  have hge := Below.size K3.out
  clear hW4 K3
  generalize w3.heap.size = BX at *
  go_upto_region 3 with fail
  obtain ⟨W5, hW5⟩ : ∃ W, W4.alloc (.cells #[.int .u64 0, .int .u64 0] 47) = W := ⟨_, rfl⟩
  have hX : NumB W5 BX s (d12 V) := by rw [← hW5]; exact hx.a _
  have hW : W2B W5 W4.heap.size (wLo V 0) (wHi V 0) := by rw [← hW5]; exact heap_alloc_new W4 _
  have hK : Kp w W5 := by rw [← hW5]; exact kp_alloc hk _
  have hlt := hx.lt
  rw [hW5]
  clear hW5 hx hk
  generalize W4.heap.size = BW at *
  have HX := Lib.hid hX; have HW := Lib.hid hW; have HK := Lib.hid hK
  clear hX hW hK
  go_wp2_with fail
  go_loopw [9] (fun i wr => ∃ (k : Nat) (v : Int), (k, v) ∈ [(0, 0), (1, 1), (2, 2), (3, 3), (4, 4), (5, 5), (6, 6), (7, 7), (8, 8)] ∧ i = .int .i64 v ∧ NumB wr BX s (d12 V) ∧ W2B wr BW (wLo V k) (wHi V k) ∧ Kp w wr) (fun i _ => (8 - intOf i).toNat)
  case atStart => exact ⟨0, 0, by simp, rfl, HX.out, HW.out, HK.out⟩
  case round =>
    obtain ⟨k, v, hm, rfl, hx, hw, hk⟩ := hrel
    clear HX HW HK
    simp only [List.mem_cons, Prod.mk.injEq, List.not_mem_nil, or_false] at hm
    rcases hm with ⟨rfl, rfl⟩ | ⟨rfl, rfl⟩ | ⟨rfl, rfl⟩ | ⟨rfl, rfl⟩ | ⟨rfl, rfl⟩ | ⟨rfl, rfl⟩ | ⟨rfl, rfl⟩ | ⟨rfl, rfl⟩ | ⟨rfl, rfl⟩
    · have x0 : wr.cell? ⟨BX, 1, none⟩ = some (.int .i64 (dg V 0)) := by have := hx.cell 0 (by rw [d12_length]; omega); rwa [d12_get] at this
      have y0 := hw.c0
      have z0 := hw.froz 0
      obtain ⟨st1, st2, st3, st4⟩ := w_step0 V
      have hd := dg_bd V 0
      have hW := Lib.hid (hw.set0 (wLo V 1))
      rw [wHi_eq0] at hW
      have hX := Lib.hid (hx.off (a := ⟨BW, 0, none⟩) (.int .u64 (wLo V 1)) (by simp; omega))
      have hK := Lib.hid (kp_set hk (a := ⟨BW, 0, none⟩) (by simp; omega) (.int .u64 (wLo V 1)))
      clear hx hw hk st2
      generalize wLo V 0 = p at *
      generalize dg V 0 = d at *
      have u1 : IntKind.u64.wrap d = d := by rw [IntKind.wrap_u64]; omega
      have u2 : IntKind.u64.wrap (d * 1) = d * 1 := by rw [IntKind.wrap_u64]; omega
      have u4 : p + d = wLo V 1 := by rw [← st1]; omega
      have u5 : IntKind.u64.wrap (wLo V 1) = wLo V 1 := by rw [← st1, IntKind.wrap_u64]; omega
      go_wp2_with fail
      go_region
      go_wp2_with fail
      exact ⟨⟨1, 1, by simp, rfl, hX.out.drew, hW.out.drew, kp_drew hK.out⟩, by simp [intOf]⟩
    · have x0 : wr.cell? ⟨BX, 2, none⟩ = some (.int .i64 (dg V 1)) := by have := hx.cell 1 (by rw [d12_length]; omega); rwa [d12_get] at this
      have y0 := hw.c0
      have z0 := hw.froz 0
      obtain ⟨st1, st2, st3, st4⟩ := w_step1 V
      have hd := dg_bd V 1
      have hW := Lib.hid (hw.set0 (wLo V 2))
      rw [wHi_eq1] at hW
      have hX := Lib.hid (hx.off (a := ⟨BW, 0, none⟩) (.int .u64 (wLo V 2)) (by simp; omega))
      have hK := Lib.hid (kp_set hk (a := ⟨BW, 0, none⟩) (by simp; omega) (.int .u64 (wLo V 2)))
      clear hx hw hk st2
      generalize wLo V 1 = p at *
      generalize dg V 1 = d at *
      have u1 : IntKind.u64.wrap d = d := by rw [IntKind.wrap_u64]; omega
      have u2 : IntKind.u64.wrap (d * 65536) = d * 65536 := by rw [IntKind.wrap_u64]; omega
      have u4 : p + d * 65536 = wLo V 2 := by rw [← st1]
      have u5 : IntKind.u64.wrap (wLo V 2) = wLo V 2 := by rw [← st1, IntKind.wrap_u64]; omega
      go_wp2_with fail
      go_region
      go_wp2_with fail
      exact ⟨⟨2, 2, by simp, rfl, hX.out.drew, hW.out.drew, kp_drew hK.out⟩, by simp [intOf]⟩
    · have x0 : wr.cell? ⟨BX, 3, none⟩ = some (.int .i64 (dg V 2)) := by have := hx.cell 2 (by rw [d12_length]; omega); rwa [d12_get] at this
      have y0 := hw.c0
      have z0 := hw.froz 0
      obtain ⟨st1, st2, st3, st4⟩ := w_step2 V
      have hd := dg_bd V 2
      have hW := Lib.hid (hw.set0 (wLo V 3))
      rw [wHi_eq2] at hW
      have hX := Lib.hid (hx.off (a := ⟨BW, 0, none⟩) (.int .u64 (wLo V 3)) (by simp; omega))
      have hK := Lib.hid (kp_set hk (a := ⟨BW, 0, none⟩) (by simp; omega) (.int .u64 (wLo V 3)))
      clear hx hw hk st2
      generalize wLo V 2 = p at *
      generalize dg V 2 = d at *
      have u1 : IntKind.u64.wrap d = d := by rw [IntKind.wrap_u64]; omega
      have u2 : IntKind.u64.wrap (d * 4294967296) = d * 4294967296 := by rw [IntKind.wrap_u64]; omega
      have u4 : p + d * 4294967296 = wLo V 3 := by rw [← st1]
      have u5 : IntKind.u64.wrap (wLo V 3) = wLo V 3 := by rw [← st1, IntKind.wrap_u64]; omega
      go_wp2_with fail
      go_region
      go_wp2_with fail
      exact ⟨⟨3, 3, by simp, rfl, hX.out.drew, hW.out.drew, kp_drew hK.out⟩, by simp [intOf]⟩
    · have x0 : wr.cell? ⟨BX, 4, none⟩ = some (.int .i64 (dg V 3)) := by have := hx.cell 3 (by rw [d12_length]; omega); rwa [d12_get] at this
      have y0 := hw.c0
      have z0 := hw.froz 0
      obtain ⟨st1, st2, st3, st4⟩ := w_step3 V
      have hd := dg_bd V 3
      have hW := Lib.hid (hw.set0 (wLo V 4))
      rw [wHi_eq3] at hW
      have hX := Lib.hid (hx.off (a := ⟨BW, 0, none⟩) (.int .u64 (wLo V 4)) (by simp; omega))
      have hK := Lib.hid (kp_set hk (a := ⟨BW, 0, none⟩) (by simp; omega) (.int .u64 (wLo V 4)))
      clear hx hw hk st2
      generalize wLo V 3 = p at *
      generalize dg V 3 = d at *
      have u1 : IntKind.u64.wrap d = d := by rw [IntKind.wrap_u64]; omega
      have u2 : IntKind.u64.wrap (d * 281474976710656) = d * 281474976710656 := by rw [IntKind.wrap_u64]; omega
      have u4 : p + d * 281474976710656 = wLo V 4 := by rw [← st1]
      have u5 : IntKind.u64.wrap (wLo V 4) = wLo V 4 := by rw [← st1, IntKind.wrap_u64]; omega
      go_wp2_with fail
      go_region
      go_wp2_with fail
      exact ⟨⟨4, 4, by simp, rfl, hX.out.drew, hW.out.drew, kp_drew hK.out⟩, by simp [intOf]⟩
    · have x0 : wr.cell? ⟨BX, 5, none⟩ = some (.int .i64 (dg V 4)) := by have := hx.cell 4 (by rw [d12_length]; omega); rwa [d12_get] at this
      have y0 := hw.c1
      have z0 := hw.froz 1
      obtain ⟨st1, st2, st3, st4⟩ := w_step4 V
      have hd := dg_bd V 4
      have hW := Lib.hid (hw.set1 (wHi V 5))
      rw [wLo_eq4] at hW
      have hX := Lib.hid (hx.off (a := ⟨BW, 1, none⟩) (.int .u64 (wHi V 5)) (by simp; omega))
      have hK := Lib.hid (kp_set hk (a := ⟨BW, 1, none⟩) (by simp; omega) (.int .u64 (wHi V 5)))
      clear hx hw hk st2
      generalize wHi V 4 = p at *
      generalize dg V 4 = d at *
      have u1 : IntKind.u64.wrap d = d := by rw [IntKind.wrap_u64]; omega
      have u2 : IntKind.u64.wrap (d * 1) = d * 1 := by rw [IntKind.wrap_u64]; omega
      have u4 : p + d = wHi V 5 := by rw [← st1]; omega
      have u5 : IntKind.u64.wrap (wHi V 5) = wHi V 5 := by rw [← st1, IntKind.wrap_u64]; omega
      go_wp2_with fail
      go_region
      go_wp2_with fail
      exact ⟨⟨5, 5, by simp, rfl, hX.out.drew, hW.out.drew, kp_drew hK.out⟩, by simp [intOf]⟩
    · have x0 : wr.cell? ⟨BX, 6, none⟩ = some (.int .i64 (dg V 5)) := by have := hx.cell 5 (by rw [d12_length]; omega); rwa [d12_get] at this
      have y0 := hw.c1
      have z0 := hw.froz 1
      obtain ⟨st1, st2, st3, st4⟩ := w_step5 V
      have hd := dg_bd V 5
      have hW := Lib.hid (hw.set1 (wHi V 6))
      rw [wLo_eq5] at hW
      have hX := Lib.hid (hx.off (a := ⟨BW, 1, none⟩) (.int .u64 (wHi V 6)) (by simp; omega))
      have hK := Lib.hid (kp_set hk (a := ⟨BW, 1, none⟩) (by simp; omega) (.int .u64 (wHi V 6)))
      clear hx hw hk st2
      generalize wHi V 5 = p at *
      generalize dg V 5 = d at *
      have u1 : IntKind.u64.wrap d = d := by rw [IntKind.wrap_u64]; omega
      have u2 : IntKind.u64.wrap (d * 65536) = d * 65536 := by rw [IntKind.wrap_u64]; omega
      have u4 : p + d * 65536 = wHi V 6 := by rw [← st1]
      have u5 : IntKind.u64.wrap (wHi V 6) = wHi V 6 := by rw [← st1, IntKind.wrap_u64]; omega
      go_wp2_with fail
      go_region
      go_wp2_with fail
      exact ⟨⟨6, 6, by simp, rfl, hX.out.drew, hW.out.drew, kp_drew hK.out⟩, by simp [intOf]⟩
    · have x0 : wr.cell? ⟨BX, 7, none⟩ = some (.int .i64 (dg V 6)) := by have := hx.cell 6 (by rw [d12_length]; omega); rwa [d12_get] at this
      have y0 := hw.c1
      have z0 := hw.froz 1
      obtain ⟨st1, st2, st3, st4⟩ := w_step6 V
      have hd := dg_bd V 6
      have hW := Lib.hid (hw.set1 (wHi V 7))
      rw [wLo_eq6] at hW
      have hX := Lib.hid (hx.off (a := ⟨BW, 1, none⟩) (.int .u64 (wHi V 7)) (by simp; omega))
      have hK := Lib.hid (kp_set hk (a := ⟨BW, 1, none⟩) (by simp; omega) (.int .u64 (wHi V 7)))
      clear hx hw hk st2
      generalize wHi V 6 = p at *
      generalize dg V 6 = d at *
      have u1 : IntKind.u64.wrap d = d := by rw [IntKind.wrap_u64]; omega
      have u2 : IntKind.u64.wrap (d * 4294967296) = d * 4294967296 := by rw [IntKind.wrap_u64]; omega
      have u4 : p + d * 4294967296 = wHi V 7 := by rw [← st1]
      have u5 : IntKind.u64.wrap (wHi V 7) = wHi V 7 := by rw [← st1, IntKind.wrap_u64]; omega
      go_wp2_with fail
      go_region
      go_wp2_with fail
      exact ⟨⟨7, 7, by simp, rfl, hX.out.drew, hW.out.drew, kp_drew hK.out⟩, by simp [intOf]⟩
    · have x0 : wr.cell? ⟨BX, 8, none⟩ = some (.int .i64 (dg V 7)) := by have := hx.cell 7 (by rw [d12_length]; omega); rwa [d12_get] at this
      have y0 := hw.c1
      have z0 := hw.froz 1
      obtain ⟨st1, st2, st3, st4⟩ := w_step7 V
      have hd := dg_bd V 7
      have hW := Lib.hid (hw.set1 (wHi V 8))
      rw [wLo_eq7] at hW
      have hX := Lib.hid (hx.off (a := ⟨BW, 1, none⟩) (.int .u64 (wHi V 8)) (by simp; omega))
      have hK := Lib.hid (kp_set hk (a := ⟨BW, 1, none⟩) (by simp; omega) (.int .u64 (wHi V 8)))
      clear hx hw hk st2
      generalize wHi V 7 = p at *
      generalize dg V 7 = d at *
      have u1 : IntKind.u64.wrap d = d := by rw [IntKind.wrap_u64]; omega
      have u2 : IntKind.u64.wrap (d * 281474976710656) = d * 281474976710656 := by rw [IntKind.wrap_u64]; omega
      have u4 : p + d * 281474976710656 = wHi V 8 := by rw [← st1]
      have u5 : IntKind.u64.wrap (wHi V 8) = wHi V 8 := by rw [← st1, IntKind.wrap_u64]; omega
      go_wp2_with fail
      go_region
      go_wp2_with fail
      exact ⟨⟨8, 8, by simp, rfl, hX.out.drew, hW.out.drew, kp_drew hK.out⟩, by simp [intOf]⟩
    · have c0 := hw.c0
      have c1' := hw.c1
      have x0 : wr.cell? ⟨BX, 0, none⟩ = some (.bool s) := hx.sgn
      have x1 : wr.cell? ⟨BX, 1, none⟩ = some (.int .i64 (dg V 0)) := by have := hx.cell 0 (by rw [d12_length]; omega); rwa [d12_get] at this
      have x2 : wr.cell? ⟨BX, 2, none⟩ = some (.int .i64 (dg V 1)) := by have := hx.cell 1 (by rw [d12_length]; omega); rwa [d12_get] at this
      have x3 : wr.cell? ⟨BX, 3, none⟩ = some (.int .i64 (dg V 2)) := by have := hx.cell 2 (by rw [d12_length]; omega); rwa [d12_get] at this
      have x4 : wr.cell? ⟨BX, 4, none⟩ = some (.int .i64 (dg V 3)) := by have := hx.cell 3 (by rw [d12_length]; omega); rwa [d12_get] at this
      have x5 : wr.cell? ⟨BX, 5, none⟩ = some (.int .i64 (dg V 4)) := by have := hx.cell 4 (by rw [d12_length]; omega); rwa [d12_get] at this
      have x6 : wr.cell? ⟨BX, 6, none⟩ = some (.int .i64 (dg V 5)) := by have := hx.cell 5 (by rw [d12_length]; omega); rwa [d12_get] at this
      have x7 : wr.cell? ⟨BX, 7, none⟩ = some (.int .i64 (dg V 6)) := by have := hx.cell 6 (by rw [d12_length]; omega); rwa [d12_get] at this
      have x8 : wr.cell? ⟨BX, 8, none⟩ = some (.int .i64 (dg V 7)) := by have := hx.cell 7 (by rw [d12_length]; omega); rwa [d12_get] at this
      have x9 : wr.cell? ⟨BX, 9, none⟩ = some (.int .i64 (dg V 8)) := by have := hx.cell 8 (by rw [d12_length]; omega); rwa [d12_get] at this
      have x10 : wr.cell? ⟨BX, 10, none⟩ = some (.int .i64 (dg V 9)) := by have := hx.cell 9 (by rw [d12_length]; omega); rwa [d12_get] at this
      have x11 : wr.cell? ⟨BX, 11, none⟩ = some (.int .i64 (dg V 10)) := by have := hx.cell 10 (by rw [d12_length]; omega); rwa [d12_get] at this
      have x12 : wr.cell? ⟨BX, 12, none⟩ = some (.int .i64 (dg V 11)) := by have := hx.cell 11 (by rw [d12_length]; omega); rwa [d12_get] at this
      have K : Kp w wr := hk
      go_wp2_with fail
      go_region_held3 (fun w' => Kp w w' ∧ w'.cell? ⟨BW, 0, none⟩ = some (.int .u64 (wLo V 8)) ∧ w'.cell? ⟨BW, 1, none⟩ = some (.int .u64 (wHi V 8)) ∧ w'.cell? ⟨BX, 0, none⟩ = some (.bool s) ∧ w'.cell? ⟨BX, 1, none⟩ = some (.int .i64 (dg V 0)) ∧ w'.cell? ⟨BX, 2, none⟩ = some (.int .i64 (dg V 1)) ∧ w'.cell? ⟨BX, 3, none⟩ = some (.int .i64 (dg V 2)) ∧ w'.cell? ⟨BX, 4, none⟩ = some (.int .i64 (dg V 3)) ∧ w'.cell? ⟨BX, 5, none⟩ = some (.int .i64 (dg V 4)) ∧ w'.cell? ⟨BX, 6, none⟩ = some (.int .i64 (dg V 5)) ∧ w'.cell? ⟨BX, 7, none⟩ = some (.int .i64 (dg V 6)) ∧ w'.cell? ⟨BX, 8, none⟩ = some (.int .i64 (dg V 7)) ∧ w'.cell? ⟨BX, 9, none⟩ = some (.int .i64 (dg V 8)) ∧ w'.cell? ⟨BX, 10, none⟩ = some (.int .i64 (dg V 9)) ∧ w'.cell? ⟨BX, 11, none⟩ = some (.int .i64 (dg V 10)) ∧ w'.cell? ⟨BX, 12, none⟩ = some (.int .i64 (dg V 11))) ((first | exact ⟨K, c0, c1', x0, x1, x2, x3, x4, x5, x6, x7, x8, x9, x10, x11, x12⟩ | exact ⟨kp_drew K, c0, c1', x0, x1, x2, x3, x4, x5, x6, x7, x8, x9, x10, x11, x12⟩))
        ((go_at_call 30; refine (C4.out _).mono ?_; rintro e w6 ⟨rfl, hk6⟩; replace c0 : w6.cell? ⟨BW, 0, none⟩ = some (.int .u64 (wLo V 8)) := kp_cell hk6 c0; replace c1' : w6.cell? ⟨BW, 1, none⟩ = some (.int .u64 (wHi V 8)) := kp_cell hk6 c1'; replace x0 : w6.cell? ⟨BX, 0, none⟩ = some (.bool s) := kp_cell hk6 x0; replace x1 : w6.cell? ⟨BX, 1, none⟩ = some (.int .i64 (dg V 0)) := kp_cell hk6 x1; replace x2 : w6.cell? ⟨BX, 2, none⟩ = some (.int .i64 (dg V 1)) := kp_cell hk6 x2; replace x3 : w6.cell? ⟨BX, 3, none⟩ = some (.int .i64 (dg V 2)) := kp_cell hk6 x3; replace x4 : w6.cell? ⟨BX, 4, none⟩ = some (.int .i64 (dg V 3)) := kp_cell hk6 x4; replace x5 : w6.cell? ⟨BX, 5, none⟩ = some (.int .i64 (dg V 4)) := kp_cell hk6 x5; replace x6 : w6.cell? ⟨BX, 6, none⟩ = some (.int .i64 (dg V 5)) := kp_cell hk6 x6; replace x7 : w6.cell? ⟨BX, 7, none⟩ = some (.int .i64 (dg V 6)) := kp_cell hk6 x7; replace x8 : w6.cell? ⟨BX, 8, none⟩ = some (.int .i64 (dg V 7)) := kp_cell hk6 x8; replace x9 : w6.cell? ⟨BX, 9, none⟩ = some (.int .i64 (dg V 8)) := kp_cell hk6 x9; replace x10 : w6.cell? ⟨BX, 10, none⟩ = some (.int .i64 (dg V 9)) := kp_cell hk6 x10; replace x11 : w6.cell? ⟨BX, 11, none⟩ = some (.int .i64 (dg V 10)) := kp_cell hk6 x11; replace x12 : w6.cell? ⟨BX, 12, none⟩ = some (.int .i64 (dg V 11)) := kp_cell hk6 x12; replace K : Kp w w6 := kp_trans (by first | exact K | exact kp_drew K) hk6; clear hk6))
      go_wp2_with fail
      go_ret3
      exact ⟨rfl, K⟩
end Go.Proofs.Ytcadaejpegdpeaa
