/- Contract: the document's Split. -/
import Derived.Test.YtcmijedhjebpkaaSRP
import Derived.Test.YtcmijedhjebpkaaM3
import Derived.Test.YtcmijedhjebpkaaGT
import Derived.Test.YtcmijedhjebpkaaPFL
import Derived.Deep.RegionHeld3
import Derived.Deep.QuietTactic
import Derived.BigQuiet
namespace Go.Proofs.Ytcmijedhjebpkaa
open Go.RowKit Go.Proofs.Geo Go.Proofs.Mon
set_option linter.unusedVariables false
theorem fl_pos (N x S : Nat) (h0 : 0 < S) (hq : N * x / S < 9223372036854775808) : flR N x S = (((N * x / S : Nat) : Int), 0) := by
  have hb : blw N x S = false := by
    unfold blw
    rw [decide_eq_false_iff_not, Int.sign_eq_one_of_pos (show (0 : Int) < (S : Int) by omega), Int.mul_one, ← Int.natCast_mul]
    rcases Nat.eq_zero_or_pos (N * x) with h | h
    · rw [h]; decide
    · rw [Int.sign_eq_one_of_pos (by omega)]; decide
  unfold flR divR
  rw [if_neg (by omega), hb]
  have e1 : ((N : Int) * x).natAbs = N * x := by rw [← Int.natCast_mul, Int.natAbs_natCast]
  rw [e1, Int.natAbs_natCast]
  unfold flUp sgnd
  simp [hq]
def boolV (L : List Bool) : Array Value := (L.map Value.bool).toArray
theorem boolV_get (L : List Bool) {i : Nat} (h : i < L.length) : (boolV L)[i]? = some (.bool (L.getD i false)) := by
  simp [boolV, h]
theorem boolV_set (L : List Bool) (i : Nat) (v : Bool) : (boolV L).setIfInBounds i (.bool v) = boolV (L.set i v) := by
  unfold boolV; rw [List.setIfInBounds_toArray, List.map_set]
/-- Block g is the row L of bools. -/
def RowT (g : Nat) (L : List Bool) (w : World) : Prop := w.heap[g]? = some (.cells (boolV L) 4 (0, 0))
section
variable {g : Nat} {L : List Bool} {w w' : World}
theorem RowT.lt (h : RowT g L w) : g < w.heap.size := by
  rcases Nat.lt_or_ge g w.heap.size with h1 | h1
  · exact h1
  · unfold RowT at h; rw [Array.getElem?_eq_none h1] at h; cases h
theorem RowT.cell (h : RowT g L w) {i : Nat} (hi : i < L.length) : w.cell? ⟨g, i, none⟩ = some (.bool (L.getD i false)) := by
  rw [cell_of_row w g i (boolV L) 4 (0, 0) h, boolV_get L hi]
theorem RowT.froz (h : RowT g L w) (o : Nat) : w.frozen? ⟨g, o, none⟩ = false := by
  unfold RowT at h
  simp [World.frozen?, h]
theorem RowT.kp (h : RowT g L w) (hk : Kp w w') : RowT g L w' := (hk.block g h.lt).trans h
theorem RowT.set (h : RowT g L w) (i : Nat) (v : Bool) : RowT g (L.set i v) (w.setCell ⟨g, i, none⟩ (.bool v)) := by
  unfold RowT at *
  rw [← boolV_set]
  simp [World.setCell, Array.getElem?_modify, h]
theorem RowT.off (h : RowT g L w) {a : Addr} (hne : g ≠ a.block) (u : Value) : RowT g L (w.setCell a u) := (Below.heap_setCell w a u g hne).trans h
end
theorem madeCells_rowT (n : Nat) : madeCells #[.bool false] n = boolV (List.replicate n false) := by
  unfold boolV
  rw [List.map_replicate]
  apply Array.ext
  · simp [madeCells]
  · intro i h1 h2; simp [madeCells, Nat.mod_one]
theorem RowT.new (w : World) (n : Nat) : RowT w.heap.size (List.replicate n false) (w.alloc (.cells (madeCells #[.bool false] n) 4)) := by rw [madeCells_rowT]; exact heap_alloc_new w _
theorem infoB : (Try.prog.info? 4).map (fun i => (i.zero, i.size, i.bytes)) = some (some (.bool false), 1, 1) := by kernel_rfl
/-- The two rows, as they stand. -/
structure Me2 (W : World) (gO gH : Nat) (PO : List Int) (PH : List Bool) (w : World) : Prop where
  k : Kp W w
  o : RowB .i64 3 gO PO w
  h : RowT gH PH w
section
variable {W w w' : World} {gO gH : Nat} {PO : List Int} {PH : List Bool}
theorem Me2.kp (h : Me2 W gO gH PO PH w) (k : Kp w w') : Me2 W gO gH PO PH w' := ⟨kp_trans h.k k, h.o.kp k, h.h.kp k⟩
theorem Me2.seto (h : Me2 W gO gH PO PH w) (lo : W.heap.size ≤ gO) (ne : gO ≠ gH) (i : Nat) (v : Int) : Me2 W gO gH (PO.set i v) PH (w.setCell ⟨gO, i, none⟩ (.int .i64 v)) := ⟨kp_set h.k lo _, h.o.set i v, h.h.off ne.symm _⟩
theorem Me2.seth (h : Me2 W gO gH PO PH w) (lo : W.heap.size ≤ gH) (ne : gO ≠ gH) (i : Nat) (v : Bool) : Me2 W gO gH PO (PH.set i v) (w.setCell ⟨gH, i, none⟩ (.bool v)) := ⟨kp_set h.k lo _, h.o.off ne _, h.h.set i v⟩
end
set_option maxHeartbeats 4000000 in
theorem rsplit_bad1 (t : Int) (s : Value) (w : World) (h0 : mchk t ≠ 0) :
    Calls Try.prog 9 #[.int .i64 t, s] w fun e w' => e = .returned (.tuple #[.slice none 0 0, .int .i64 5]) ∧ Kp w w' := by
  have K : Kp w w := kp_refl _
  have ca := fun w => rmcheck_any t w
  have CA := Lib.hid ca
  clear ca
  generalize mchk t = q at *
  go_enter Try.func9, Try.ntmps9
  go_wp2_with (first
    | (go_at_call 12; refine (CA.out _).mono ?_; rintro e wk ⟨rfl, hk⟩; replace K := kp_trans K hk; clear hk))
  go_ret2
  exact ⟨rfl, K⟩
set_option maxHeartbeats 8000000 in
theorem rsplit_bad2 (t : Int) (a : Option Addr) (len cap : Nat) (l : List Int) (w : World) (hlen : len = l.length) (hl : len ≤ 2000) (h0 : mchk t = 0) (hw : (weighR l).2 = false) (hR : l = [] ∨ ∃ b off, a = some ⟨b, off, none⟩ ∧ IntsAt w b off l) :
    Calls Try.prog 9 #[.int .i64 t, .slice a len cap] w fun e w' => e = .returned (.tuple #[.slice none 0 0, .int .i64 2]) ∧ Kp w w' := by
  have K : Kp w w := kp_refl _
  have ca := fun w => rmcheck_any t w
  rw [h0] at ca
  have CA := Lib.hid ca; have HR := Lib.hid hR; have HL := Lib.hid hlen; have HW := Lib.hid hw
  clear ca hR hlen hw h0
  go_enter Try.func9, Try.ntmps9
  go_wp2_with (first
    | (go_at_call 12; refine (CA.out _).mono ?_; rintro e wk ⟨rfl, hk⟩; replace K := kp_trans K hk; clear hk))
  have K0 := Lib.hid K
  clear K
  go_loopw [6, 7] (fun s i wr => ∃ k : Nat, k ≤ len ∧ k ≤ 1001 ∧ i = .int .i64 k ∧ s = .int .i64 (l.take k).sum ∧ (l.take k).any badW = false ∧ Kp w wr) (fun _ i _ => len - (intOf i).toNat)
  case atStart => exact ⟨0, by omega, by omega, rfl, by simp, by simp, K0.out⟩
  case round =>
    obtain ⟨k, hk, hk2, rfl, rfl, hany, hkp⟩ := hrel
    have hbd := Mon.sum_bd hany
    have hlk : ((l.take k).length : Int) ≤ 2000 := by have := List.length_take_le k l; omega
    by_cases hlt : k < len
    · have z2 : (k : Int) < (len : Int) := by omega
      by_cases hle : k ≤ 1000
      · have z3 : (k : Int) ≤ 1000 := by omega
        have hkl : k < l.length := by rw [← HL.out]; exact hlt
        obtain ⟨b, off, rfl, hp⟩ := HR.out.resolve_left (by rintro rfl; simp at hkl)
        have hc := (hp.kp hkp) k hkl
        have hs := sum_take_succ l hkl
        have ha := any_take_succ l hkl badW
        have hg : l.getD k 0 = l[k] := by rw [List.getD_eq_getElem?_getD, List.getElem?_eq_getElem hkl]; rfl
        rw [hg] at hs ha
        generalize l[k] = x at *
        have lb : b < wr.heap.size := cell_lt hc
        have z1 : (0 : Int) ≤ (k : Int) := by omega
        have HS := Lib.hid hs; have HA := Lib.hid ha; have HY := Lib.hid hany
        have HKP := Lib.hid hkp
        generalize hS : (l.take k).sum = S at *
        have HT := Lib.hid hS
        clear hS hs ha hany hp hg hkp
        by_cases h1 : x < 0
        · go_wp2_with fail
          go_ret2
          exact ⟨rfl, HKP.out⟩
        · by_cases h2 : 1099511627775 < x
          · go_wp2_with fail
            go_ret2
            exact ⟨rfl, HKP.out⟩
          · have wk : IntKind.i64.wrap (S + x) = S + x := IntWalk.i64_in _ (by omega)
            have wk2 : IntKind.i64.wrap ((k : Int) + 1) = (k : Int) + 1 := IntWalk.i64_in _ (by omega)
            have hb := Lib.hid (show badW x = false by unfold badW; rw [decide_eq_false h1, decide_eq_false h2]; rfl)
            clear hbd hlk
            go_wp2_with fail
            exact ⟨⟨k + 1, by omega, by omega, by go_num, by rw [HS.out], by rw [HA.out, HY.out, hb.out]; rfl, HKP.out⟩, by simp [intOf]; omega⟩
      · have z3 : ¬ (k : Int) ≤ 1000 := by omega
        have z4 : (1000 : Int) < (len : Int) := by omega
        clear hbd hlk
        generalize (l.take k).sum = S at *
        go_wp2_with fail
        go_ret2
        exact ⟨rfl, hkp⟩
    · have z2 : ¬ (k : Int) < (len : Int) := by omega
      have hke : l.take k = l := List.take_of_length_le (by rw [← HL.out]; omega)
      rw [hke] at hany hbd ⊢
      have hv := weigh_ok hany
      have hw := HW.out
      rw [hv] at hw
      have HKP := Lib.hid hkp
      clear hkp hlk
      by_cases z4 : (1000 : Int) < (len : Int)
      · clear hbd hv hw hke
        generalize l.sum = S at *
        go_wp2_with fail
        go_ret2
        exact ⟨rfl, HKP.out⟩
      · have hs0 : l.sum = 0 := by
          simp only [Bool.and_eq_false_iff, decide_eq_false_iff_not] at hw
          have := HL.out
          omega
        rw [hs0]
        clear hbd hv hw hke hs0
        go_wp2_with fail
        go_ret2
        exact ⟨rfl, HKP.out⟩
set_option maxHeartbeats 16000000 in
set_option maxRecDepth 100000 in
theorem rsplit_core (t : Int) (a : Option Addr) (len cap : Nat) (l : List Int) (w : World) (hlen : len = l.length) (hl : len ≤ 1000) (h0 : mchk t = 0) (hw : weighR l = (l.sum, true)) (hR : RdI w (.slice a len cap) l) :
    Calls Try.prog 9 #[.int .i64 t, .slice a len cap] w fun e w' => (∃ v, e = .returned (.tuple #[v, .int .i64 0]) ∧ OwnI w' w.heap.size v (partsL t l)) ∧ Kp w w' := by
  have K : Kp w w := kp_refl _
  have ca := fun w => rmcheck_any t w
  rw [h0] at ca
  have CA := Lib.hid ca
  obtain ⟨S, hS⟩ : ∃ S, l.sum = S := ⟨_, rfl⟩
  have b0 := mchk_zero h0
  obtain ⟨N, hN⟩ : ∃ N : Nat, t.natAbs = N := ⟨_, rfl⟩
  have hNle : N ≤ 1099511627775 := by omega
  obtain ⟨hany, hS0, _⟩ := weigh_true hw
  have hSb := (Mon.sum_bd hany).2
  rw [hS] at hS0 hSb
  obtain ⟨Sn, hSn⟩ : ∃ Sn : Nat, S = (Sn : Int) := ⟨S.toNat, by omega⟩
  subst hSn
  have hS1 : 0 < Sn := by omega
  have hS2 : Sn ≤ 1100000000000000 := by omega
  obtain ⟨_, _, hv, hsh⟩ := hR.shape
  injection hv with v1 v2 v3
  subst v1 v3
  clear v2
  obtain ⟨b, off, rfl, hp⟩ := hsh.resolve_left (by rintro rfl; simp at hS; omega)
  have HP := Lib.hid hp
  have HN := Lib.hid hN; have HS := Lib.hid hS; have HAN := Lib.hid hany
  have HSUB : Hid (∀ k, k ≤ len → 0 ≤ (l.take k).sum ∧ (l.take k).sum ≤ 2000000000000000) := Lib.hid (fun k hk => by
    have h1 : (l.take k).any badW = false := by
      cases h : (l.take k).any badW with
      | false => rfl
      | true => rw [any_of_take h] at hany; cases hany
    have h2 := Mon.sum_bd h1
    have h3 := List.length_take_le k l
    omega)
  clear hany hS0 hSb hp hsh
  have HL := Lib.hid hlen
  have HX : Hid (∀ k, k < len → ∃ x : Nat, l.getD k 0 = (x : Int) ∧ x ≤ 1099511627775 ∧ x ≤ Sn ∧ ∀ wx, Kp w wx → wx.cell? ⟨b, off + k, none⟩ = some (.int .i64 (x : Int))) := Lib.hid (fun k hk => by
    have hkl : k < l.length := by rw [← HL.out]; exact hk
    have h1 := any_get HAN.out hkl
    have h2 := get_le_sum HAN.out hkl
    rw [HS.out] at h2
    refine ⟨(l.getD k 0).toNat, by omega, by omega, by omega, fun wx kx => ?_⟩
    have h3 := (HP.out.kp kx) k hkl
    have hg : l.getD k 0 = l[k] := by rw [List.getD_eq_getElem?_getD, List.getElem?_eq_getElem hkl]; rfl
    rw [← hg] at h3
    rw [h3]
    congr 2
    omega)
  clear ca hR h0 hw hN hS hlen
  obtain ⟨sg, hsg⟩ : ∃ sg, sgT t = sg := ⟨_, rfl⟩
  have HSG := Lib.hid hsg
  clear hsg
  go_enter Try.func9, Try.ntmps9
  go_wp2_with (first
    | (go_at_call 12; refine (CA.out _).mono ?_; rintro e wk ⟨rfl, hk⟩; replace K := kp_trans K hk; clear hk))
  have K0 := Lib.hid K
  clear K
  go_loopw [6, 7] (fun s i wr => ∃ k : Nat, k ≤ len ∧ i = .int .i64 k ∧ s = .int .i64 (l.take k).sum ∧ Kp w wr) (fun _ i _ => len - (intOf i).toNat)
  case atStart => exact ⟨0, by omega, rfl, by simp, K0.out⟩
  case round =>
    obtain ⟨k, hk, rfl, rfl, hkp⟩ := hrel
    by_cases hlt : k < len
    · have z1 : (0 : Int) ≤ (k : Int) := by omega
      have z2 : (k : Int) < (len : Int) := by omega
      have z3 : (k : Int) ≤ 1000 := by omega
      obtain ⟨x, hx, hx1, hx2, hc⟩ := HX.out k hlt
      have hc := hc _ hkp
      have lb : b < wr.heap.size := cell_lt hc
      have hs := sum_take_succ l (k := k) (by rw [← HL.out]; exact hlt)
      have hb := HSUB.out k hk
      rw [hx] at hs
      have HSS := Lib.hid hs; have HKP := Lib.hid hkp
      generalize (l.take k).sum = U at *
      have h1 : ¬ (x : Int) < 0 := by omega
      have h2 : ¬ 1099511627775 < (x : Int) := by omega
      have wk : IntKind.i64.wrap (U + (x : Int)) = U + (x : Int) := IntWalk.i64_in _ (by omega)
      have wk2 : IntKind.i64.wrap ((k : Int) + 1) = (k : Int) + 1 := IntWalk.i64_in _ (by omega)
      clear hs hkp hx hb
      go_wp2_with fail
      exact ⟨⟨k + 1, by omega, by go_num, by rw [HSS.out], HKP.out⟩, by simp [intOf]; omega⟩
    · have z2 : ¬ (k : Int) < (len : Int) := by omega
      have hke : (l.take k).sum = (Sn : Int) := by rw [List.take_of_length_le (by rw [← HL.out]; omega), HS.out]
      rw [hke]
      have z4 : ¬ (1000 : Int) < (len : Int) := by omega
      have z5 : ((Sn : Int) == 0) = false := by simp; omega
      have e1 : IntKind.i64.wrap (-t) = -t := IntWalk.i64_in _ (by omega)
      have K := hkp
      clear hke hkp
      go_upto_region 12 with fail
      go_cut [8, 9] (fun n s wx => n = .int .i64 (N : Int) ∧ s = .int .i64 1 ∧ Kp w wx)
      case first =>
        have e3 : max t (-t) = (N : Int) := by have := HN.out; omega
        have HE := Lib.hid e3
        clear e3
        go_wp2_with fail
        go_meet
        exact ⟨by first | rw [HE.out] | (have := HE.out; go_num), rfl, K⟩
      case rest =>
        clear K e1
        obtain ⟨rfl, rfl, K⟩ := hcut
        go_upto_if 62 with fail
        go_cut [9] (fun s wx => s = .int .i64 sg ∧ Kp w wx)
        case first =>
          by_cases ht : t < 0
          · have e3 := Lib.hid (show sg = -1 by rw [← HSG.out]; unfold sgT; rw [if_pos ht])
            go_wp2_with fail
            go_meet
            exact ⟨by rw [e3.out], K⟩
          · have e3 := Lib.hid (show sg = 1 by rw [← HSG.out]; unfold sgT; rw [if_neg ht])
            go_wp2_with fail
            go_meet
            exact ⟨by rw [e3.out], K⟩
        case rest =>
          clear K
          obtain ⟨rfl, K⟩ := hcut
          have hm1 := fun w => run_make_row' (P := Try.prog) 22 3 (.int .i64 0) 8 Try.underlying22 infoI rfl .i64 .i64 len (by omega) (by omega) w
          have hm2 := fun w => run_make_row' (P := Try.prog) 46 4 (.bool false) 1 Try.underlying46 infoB rfl .i64 .i64 len (by omega) (by omega) w
          obtain ⟨W0, hW0⟩ : ∃ W, W = wc := ⟨_, rfl⟩
          rw [← hW0] at K ⊢
          have KW := Lib.hid K
          clear K hW0
          go_upto_region 18 with fail
          obtain ⟨gO, hgO⟩ : ∃ g, W0.heap.size = g := ⟨_, rfl⟩
          obtain ⟨gH, hgH⟩ : ∃ g, W0.heap.size + 1 = g := ⟨_, rfl⟩
          obtain ⟨w3, hw3⟩ : ∃ W, (W0.alloc (.cells (madeCells #[.int .i64 0] len) 3)).alloc (.cells (madeCells #[.bool false] len) 4) = W := ⟨_, rfl⟩
          have M0 : Me2 W0 gO gH (List.replicate len 0) (List.replicate len false) w3 := by
            rw [← hw3, ← hgO, ← hgH]
            refine ⟨kp_alloc (kp_alloc (kp_refl _) _) _, ?_, ?_⟩
            · rw [madeCells_row]; exact (RowB.new W0).kp (kp_alloc (kp_refl _) _)
            · have h := RowT.new (W0.alloc (.cells (madeCells #[.int .i64 0] len) 3)) len
              rwa [show (W0.alloc (.cells (madeCells #[.int .i64 0] len) 3)).heap.size = W0.heap.size + 1 by simp [go_sem]] at h
          rw [hw3, hgO, show gO + 1 = gH by omega]
          have lo1 : W0.heap.size ≤ gO := by omega
          have lo2 : W0.heap.size ≤ gH := by omega
          have ne : gO ≠ gH := by omega
          have HM0 := Lib.hid M0
          clear hw3 hgO hgH M0 hm1 hm2
          have hq0 : Hid (∀ k, k < len → ∃ q : Nat, (qL N Sn l).getD k 0 = (q : Int) ∧ q ≤ N) := Lib.hid (fun k hk => by
            have h := qL_bd HAN.out HS.out hS1 (n := N) k
            exact ⟨((qL N Sn l).getD k 0).toNat, by omega, by omega⟩)
          go_wp2_with fail
          go_loopw [10, 13] (fun lf i wr => ∃ k : Nat, k ≤ len ∧ i = .int .i64 k ∧ lf = .int .i64 ((N : Int) - ((qL N Sn l).take k).sum) ∧ Me2 W0 gO gH (fillL (qL N Sn l) k) (List.replicate len false) wr) (fun _ i _ => len - (intOf i).toNat)
          case atStart => exact ⟨0, by omega, rfl, by simp, by have h := fill_zero (qL N Sn l); rw [qL_len, ← HL.out] at h; rw [h]; exact HM0.out⟩
          case round =>
            obtain ⟨k, hk, rfl, rfl, hm⟩ := hrel
            have HM := Lib.hid hm
            clear hm
            by_cases hlt2 : k < len
            · have y1 : (0 : Int) ≤ (k : Int) := by omega
              have y2 : (k : Int) < (len : Int) := by omega
              obtain ⟨x, hx, hx1, hx2, hc⟩ := HX.out k hlt2
              have hc := hc _ (kp_trans KW.out HM.out.k)
              have lb : b < wr.heap.size := cell_lt hc
              have hqk := qL_get N Sn l (k := k) (by rw [← HL.out]; exact hlt2)
              rw [hx, Int.toNat_natCast] at hqk
              have hqN : N * x / Sn ≤ N := quo_le hx2
              have cf := fun w => rfloor_core (N : Int) (x : Int) (Sn : Int) (by unfold I64; omega) (by unfold I64; omega) (by unfold I64; omega) (by omega) w
              rw [fl_pos N x Sn hS1 (by omega)] at cf
              have hsu := take_sum_succ (qL N Sn l) (k := k) (by rw [qL_len, ← HL.out]; exact hlt2)
              have hq1 := qs_bd (n := N) HAN.out HS.out hS1 k
              have hq2 := qs_bd (n := N) HAN.out HS.out hS1 (k + 1)
              have hset := fill_set (qL N Sn l) (k := k) (by rw [qL_len, ← HL.out]; exact hlt2)
              have hgt := HM.out.o.cell (i := k) (by rw [fill_len _ (by rw [qL_len, ← HL.out]; omega), qL_len, ← HL.out]; exact hlt2)
              rw [hqk] at hsu hset
              generalize N * x / Sn = q at *
              generalize ((qL N Sn l).take k).sum = Q at *
              have CF := Lib.hid cf; have HSE := Lib.hid hset; have HSU := Lib.hid hsu
              have wi1 : IntKind.i64.wrap ((N : Int) - Q - (q : Int)) = (N : Int) - Q - (q : Int) := IntWalk.i64_in _ (by rw [hsu] at hq2; omega)
              have wi2 : IntKind.i64.wrap ((k : Int) + 1) = (k : Int) + 1 := IntWalk.i64_in _ (by omega)
              clear cf hset hsu hqk hx hq1 hq2 hgt
              go_upto_region 22 with (go_at_call 27; refine (CF.out _).mono ?_; rintro e w4 ⟨rfl, hk4⟩; have M4 := Lib.hid (HM.out.kp hk4); clear hk4)
              have la := M4.out.o.cell (i := k) (by rw [fill_len _ (by rw [qL_len, ← HL.out]; omega), qL_len, ← HL.out]; exact hlt2)
              have fa := M4.out.o.froz k
              have lA := M4.out.o.lt
              generalize (fillL (qL N Sn l) k).getD k 0 = v1 at la
              go_wp2_with fail
              have M5 := M4.out.seto lo1 ne k (q : Int)
              rw [HSE.out] at M5
              exact ⟨⟨k + 1, by omega, by go_num, by rw [HSU.out]; congr 1; omega, M5⟩, by simp [intOf]; omega⟩
            · obtain rfl : len = k := by omega
              have e1 : fillL (qL N Sn l) len = qL N Sn l := by have h := fill_all (qL N Sn l); rw [qL_len, ← HL.out] at h; exact h
              have e4 : (qL N Sn l).take len = qL N Sn l := List.take_of_length_le (by rw [qL_len, ← HL.out]; exact Nat.le_refl _)
              have M1 := HM.out
              rw [e1] at M1
              rw [e4]
              obtain ⟨lf, hlf⟩ : ∃ lf : Nat, (N : Int) - (qL N Sn l).sum = (lf : Int) := ⟨((N : Int) - (qL N Sn l).sum).toNat, by have := (left_bd (n := N) HAN.out HS.out hS1).1; omega⟩
              have hlfl : lf ≤ len := by have := (left_bd (n := N) HAN.out HS.out hS1).2; have := HL.out; omega
              have HLF := Lib.hid hlf
              rw [hlf]
              obtain ⟨R, hR⟩ : ∃ R, rL N Sn l = R := ⟨_, rfl⟩
              obtain ⟨Q, hQ⟩ : ∃ Q, qL N Sn l = Q := ⟨_, rfl⟩
              have hRl : R.length = len := by rw [← hR, rL_len, ← HL.out]
              have hQl : Q.length = len := by rw [← hQ, qL_len, ← HL.out]
              rw [hQ] at M1
              have HM1 : Hid (Me2 W0 gO gH Q (hadL R 0) wr) := Lib.hid (by rw [hadL_zero, hRl]; exact M1)
              have HRE : Hid (∀ k, k < len → ∀ x q : Nat, l.getD k 0 = (x : Int) → Q.getD k 0 = (q : Int) → (N : Int) * (x : Int) - (q : Int) * (Sn : Int) = R.getD k 0) := Lib.hid (fun k hk x q hx hq => by
                have h := rest_eq (n := N) (s := Sn) (l := l) (k := k) (by rw [← HL.out]; exact hk) (by omega)
                rw [hQ, hR, hx, hq] at h
                exact h)
              rw [hQ] at hq0
              have HRL := Lib.hid hRl; have HQL := Lib.hid hQl; have HR := Lib.hid hR; have HQ := Lib.hid hQ
              clear e1 e4 M1 HM hlf hR hQ hRl hQl HM0
              go_wp2_with fail
              go_loopw [10] (fun lv wr => ∃ tt : Nat, tt ≤ lf ∧ lv = .int .i64 ((lf : Int) - (tt : Int)) ∧ Me2 W0 gO gH Q (hadL R tt) wr) (fun lv _ => (intOf lv).toNat)
              case atStart => exact ⟨0, by omega, by go_num, HM1.out⟩
              case round =>
                obtain ⟨tt, htt, rfl, hm⟩ := hrel
                have HM := Lib.hid hm
                clear hm HM1
                by_cases hlt3 : tt < lf
                · have y3 : (0 : Int) < (lf : Int) - (tt : Int) := by omega
                  have y4 : IntKind.i64.wrap ((lf : Int) - (tt : Int) - 1) = (lf : Int) - (tt : Int) - 1 := IntWalk.i64_in _ (by omega)
                  go_wp2_with fail
                  go_loopw [16, 17] (fun bv i wr => ∃ (k : Nat) (bn : Int), k ≤ len ∧ i = .int .i64 k ∧ bv = .int .i64 bn ∧ Best R tt k bn ∧ Me2 W0 gO gH Q (hadL R tt) wr) (fun _ i _ => len - (intOf i).toNat)
                  case atStart => exact ⟨0, -1, by omega, rfl, rfl, best_start _ _, HM.out⟩
                  case round =>
                    obtain ⟨k, bn, hk, rfl, rfl, hbe, hm⟩ := hrel
                    have HM2 := Lib.hid hm; have HBE := Lib.hid hbe
                    clear hm hbe
                    by_cases hlt4 : k < len
                    · have y1 : (0 : Int) ≤ (k : Int) := by omega
                      have y2 : (k : Int) < (len : Int) := by omega
                      have wi2 : IntKind.i64.wrap ((k : Int) + 1) = (k : Int) + 1 := IntWalk.i64_in _ (by omega)
                      have ch := HM2.out.h.cell (i := k) (by rw [hadL_len, HRL.out]; exact hlt4)
                      rw [hadL_get R tt (by rw [HRL.out]; exact hlt4)] at ch
                      have lH := HM2.out.h.lt
                      by_cases hh : rnk R k < tt
                      · rw [decide_eq_true hh] at ch
                        go_upto_region 29 with fail
                        go_quiet (fail)
                        go_wp2_with fail
                        exact ⟨⟨k + 1, bn, by omega, by go_num, rfl, best_had HBE.out hh, HM2.out.kp (by first | exact kp_refl _ | exact kp_drewN (kp_refl _) _)⟩, by simp [intOf]; omega⟩
                      · rw [decide_eq_false hh] at ch
                        have hh' : tt ≤ rnk R k := by omega
                        rcases best_range HBE.out with rfl | ⟨kb, rfl, hkb⟩
                        · go_upto_region 29 with fail
                          go_quiet (fail)
                          go_wp2_with fail
                          exact ⟨⟨k + 1, (k : Int), by omega, by go_num, rfl, best_first HBE.out hh', HM2.out.kp (by first | exact kp_refl _ | exact kp_drewN (kp_refl _) _)⟩, by simp [intOf]; omega⟩
                        · have y5 : ¬ (kb : Int) < 0 := by omega
                          have y6 : (0 : Int) ≤ (kb : Int) := by omega
                          have y7 : (kb : Int) < (len : Int) := by omega
                          obtain ⟨x, hx, hx1, hx2, hc⟩ := HX.out k hlt4
                          obtain ⟨xb, hxb, hxb1, hxb2, hcb⟩ := HX.out kb (by omega)
                          obtain ⟨q, hq, hqN⟩ := hq0.out k hlt4
                          obtain ⟨qb, hqb, hqbN⟩ := hq0.out kb (by omega)
                          have cx := hc _ (kp_trans KW.out HM2.out.k)
                          have cxb := hcb _ (kp_trans KW.out HM2.out.k)
                          have cq := HM2.out.o.cell (i := k) (by rw [HQL.out]; exact hlt4)
                          have cqb := HM2.out.o.cell (i := kb) (by rw [HQL.out]; omega)
                          rw [hq] at cq; rw [hqb] at cqb
                          have r1 := HRE.out k hlt4 x q hx hq
                          have r2 := HRE.out kb (by omega) xb qb hxb hqb
                          have cg := fun w => greater_any (N : Int) (x : Int) (q : Int) (xb : Int) (qb : Int) (Sn : Int) (by unfold I64; omega) (by unfold I64; omega) (by unfold I64; omega) (by unfold I64; omega) (by unfold I64; omega) (by unfold I64; omega) w
                          rw [r1, r2] at cg
                          have lO := HM2.out.o.lt
                          have lb : b < wr.heap.size := cell_lt cx
                          have K : Kp wr wr := kp_refl _
                          clear hc hcb r1 r2 hx hxb hq hqb
                          by_cases hg : R.getD kb 0 < R.getD k 0
                          · rw [decide_eq_true hg] at cg
                            have CG := Lib.hid cg
                            clear cg
                            go_upto_region 29 with fail
                            go_region_held3 (fun w' => Kp wr w' ∧ w'.cell? ⟨gH, k, none⟩ = some (.bool false) ∧ w'.cell? ⟨b, off + k, none⟩ = some (.int .i64 (x : Int)) ∧ w'.cell? ⟨b, off + kb, none⟩ = some (.int .i64 (xb : Int)) ∧ w'.cell? ⟨gO, k, none⟩ = some (.int .i64 (q : Int)) ∧ w'.cell? ⟨gO, kb, none⟩ = some (.int .i64 (qb : Int))) ((first | exact ⟨K, ch, cx, cxb, cq, cqb⟩ | exact ⟨kp_drew K, ch, cx, cxb, cq, cqb⟩))
                              ((go_at_call 28; refine (CG.out _).mono ?_; rintro e w6 ⟨rfl, hk6⟩; replace ch : w6.cell? ⟨gH, k, none⟩ = some (.bool false) := kp_cell hk6 ch; replace cx : w6.cell? ⟨b, off + k, none⟩ = some (.int .i64 (x : Int)) := kp_cell hk6 cx; replace cxb : w6.cell? ⟨b, off + kb, none⟩ = some (.int .i64 (xb : Int)) := kp_cell hk6 cxb; replace cq : w6.cell? ⟨gO, k, none⟩ = some (.int .i64 (q : Int)) := kp_cell hk6 cq; replace cqb : w6.cell? ⟨gO, kb, none⟩ = some (.int .i64 (qb : Int)) := kp_cell hk6 cqb; replace K : Kp wr w6 := kp_trans (by first | exact K | exact kp_drew K) hk6; clear hk6))
                            go_wp2_with fail
                            exact ⟨⟨k + 1, (k : Int), by omega, by go_num, rfl, best_more HBE.out hh' hg, HM2.out.kp K⟩, by simp [intOf]; omega⟩
                          · rw [decide_eq_false hg] at cg
                            have CG := Lib.hid cg
                            clear cg
                            go_upto_region 29 with fail
                            go_region_held3 (fun w' => Kp wr w' ∧ w'.cell? ⟨gH, k, none⟩ = some (.bool false) ∧ w'.cell? ⟨b, off + k, none⟩ = some (.int .i64 (x : Int)) ∧ w'.cell? ⟨b, off + kb, none⟩ = some (.int .i64 (xb : Int)) ∧ w'.cell? ⟨gO, k, none⟩ = some (.int .i64 (q : Int)) ∧ w'.cell? ⟨gO, kb, none⟩ = some (.int .i64 (qb : Int))) ((first | exact ⟨K, ch, cx, cxb, cq, cqb⟩ | exact ⟨kp_drew K, ch, cx, cxb, cq, cqb⟩))
                              ((go_at_call 28; refine (CG.out _).mono ?_; rintro e w6 ⟨rfl, hk6⟩; replace ch : w6.cell? ⟨gH, k, none⟩ = some (.bool false) := kp_cell hk6 ch; replace cx : w6.cell? ⟨b, off + k, none⟩ = some (.int .i64 (x : Int)) := kp_cell hk6 cx; replace cxb : w6.cell? ⟨b, off + kb, none⟩ = some (.int .i64 (xb : Int)) := kp_cell hk6 cxb; replace cq : w6.cell? ⟨gO, k, none⟩ = some (.int .i64 (q : Int)) := kp_cell hk6 cq; replace cqb : w6.cell? ⟨gO, kb, none⟩ = some (.int .i64 (qb : Int)) := kp_cell hk6 cqb; replace K : Kp wr w6 := kp_trans (by first | exact K | exact kp_drew K) hk6; clear hk6))
                            go_wp2_with fail
                            exact ⟨⟨k + 1, (kb : Int), by omega, by go_num, rfl, best_not HBE.out (by omega), HM2.out.kp K⟩, by simp [intOf]; omega⟩
                    · obtain rfl : len = k := by omega
                      have hbe := HBE.out
                      rw [← HRL.out] at hbe
                      obtain ⟨kb, rfl, hkb, hrk⟩ := best_end hbe (by rw [HRL.out]; omega)
                      rw [HRL.out] at hkb
                      have y6 : (0 : Int) ≤ (kb : Int) := by omega
                      have y7 : (kb : Int) < (len : Int) := by omega
                      have ch := HM2.out.h.cell (i := kb) (by rw [hadL_len, HRL.out]; exact hkb)
                      have fh := HM2.out.h.froz kb
                      have lH := HM2.out.h.lt
                      generalize (hadL R tt).getD kb false = v1 at ch
                      clear hbe
                      go_wp2_with fail
                      have M5 := HM2.out.seth lo2 ne kb true
                      rw [hadL_set (by rw [HRL.out]; exact hkb) hrk] at M5
                      exact ⟨⟨tt + 1, by omega, by go_num, M5⟩, by simp [intOf]; omega⟩
                · obtain rfl : lf = tt := by omega
                  have y3 : ¬ (0 : Int) < (lf : Int) - (lf : Int) := by omega
                  have hPl : (partsL t l).length = Q.length := by rw [partsL_len, HQL.out, ← HL.out]
                  have hPg : Hid (∀ k, k < len → (partsL t l).getD k 0 = sg * (Q.getD k 0 + if rnk R k < lf then 1 else 0)) := Lib.hid (fun k hk => by
                    rw [partsL_get t l (by rw [← HL.out]; exact hk), HSG.out]
                    have e2 : l.sum.toNat = Sn := by rw [HS.out]; simp
                    unfold leftT absT
                    rw [HN.out, e2, HQ.out, HR.out]
                    have h3 := HLF.out
                    rw [HQ.out] at h3
                    rw [h3]
                    by_cases hg : rnk R k < lf
                    · rw [if_pos hg, if_pos (by omega)]
                    · rw [if_neg hg, if_neg (by omega)])
                  obtain ⟨P, hP⟩ : ∃ P, partsL t l = P := ⟨_, rfl⟩
                  rw [hP] at hPl hPg
                  have HPP := Lib.hid hP
                  have HPL := Lib.hid hPl
                  have hsgc : Hid (sg = 1 ∨ sg = -1) := Lib.hid (by rw [← HSG.out]; unfold sgT; split <;> simp)
                  clear hPl
                  go_wp2_with fail
                  go_loopw [18] (fun i wr => ∃ k : Nat, k ≤ len ∧ i = .int .i64 k ∧ Me2 W0 gO gH (mixL P Q k) (hadL R lf) wr) (fun i _ => len - (intOf i).toNat)
                  case atStart => exact ⟨0, by omega, rfl, by rw [mix_zero]; exact HM.out⟩
                  case round =>
                    obtain ⟨k, hk, rfl, hm⟩ := hrel
                    have HM3 := Lib.hid hm
                    clear hm
                    by_cases hlt5 : k < len
                    · have y1 : (0 : Int) ≤ (k : Int) := by omega
                      have y2 : (k : Int) < (len : Int) := by omega
                      have wi2 : IntKind.i64.wrap ((k : Int) + 1) = (k : Int) + 1 := IntWalk.i64_in _ (by omega)
                      have ch := HM3.out.h.cell (i := k) (by rw [hadL_len, HRL.out]; exact hlt5)
                      rw [hadL_get R lf (by rw [HRL.out]; exact hlt5)] at ch
                      have lH := HM3.out.h.lt
                      have ca := HM3.out.o.cell (i := k) (by rw [mix_len HPL.out, HQL.out]; exact hlt5)
                      rw [mix_get HPL.out (by rw [HQL.out]; exact hlt5)] at ca
                      have fa := HM3.out.o.froz k
                      have lO := HM3.out.o.lt
                      obtain ⟨q, hq, hqN⟩ := hq0.out k hlt5
                      have hpg := hPg.out k hlt5
                      rw [hq] at ca hpg
                      by_cases hh : rnk R k < lf
                      · rw [decide_eq_true hh] at ch
                        rw [if_pos hh] at hpg
                        have HPK := Lib.hid hpg
                        have u1 : IntKind.i64.wrap ((q : Int) + 1) = (q : Int) + 1 := IntWalk.i64_in _ (by omega)
                        have u2 : IntKind.i64.wrap (sg * ((q : Int) + 1)) = sg * ((q : Int) + 1) := IntWalk.i64_in _ (by rcases hsgc.out with h | h <;> rw [h] <;> omega)
                        clear hpg hq
                        go_wp2_with fail
                        have M6 := (HM3.out.seto lo1 ne k ((q : Int) + 1)).seto lo1 ne k (sg * ((q : Int) + 1))
                        rw [List.set_set, mix_set HPL.out (by rw [HQL.out]; exact hlt5) _ HPK.out.symm] at M6
                        exact ⟨⟨k + 1, by omega, by go_num, M6⟩, by simp [intOf]; omega⟩
                      · rw [decide_eq_false hh] at ch
                        rw [if_neg hh, Int.add_zero] at hpg
                        have HPK := Lib.hid hpg
                        have u2 : IntKind.i64.wrap (sg * (q : Int)) = sg * (q : Int) := IntWalk.i64_in _ (by rcases hsgc.out with h | h <;> rw [h] <;> omega)
                        clear hpg hq
                        go_wp2_with fail
                        have M6 := HM3.out.seto lo1 ne k (sg * (q : Int))
                        rw [mix_set HPL.out (by rw [HQL.out]; exact hlt5) _ HPK.out.symm] at M6
                        exact ⟨⟨k + 1, by omega, by go_num, M6⟩, by simp [intOf]; omega⟩
                    · obtain rfl : len = k := by omega
                      have M7 := HM3.out
                      have e9 : mixL P Q len = P := by have h := mix_all HPL.out; rw [HQL.out] at h; exact h
                      rw [e9] at M7
                      have HM7 := Lib.hid M7
                      have HPN := Lib.hid (show P.length = len by rw [HPL.out, HQL.out])
                      clear M7 e9
                      go_wp2_with fail
                      go_ret2
                      have ow := HM7.out.o.own (B := w.heap.size) (Nat.le_trans (Below.size KW.out) lo1) (by rw [HPN.out]; omega)
                      rw [HPN.out] at ow
                      exact ⟨⟨_, rfl, by rw [HPP.out]; exact ow⟩, kp_trans KW.out HM7.out.k⟩
/-- The document's Split, all its ways. -/
theorem rsplit_any (t : Int) (s : Value) (l : List Int) (w : World) (hR : RdI w s l) (hl : l.length ≤ 1100) :
    Calls Try.prog 9 #[.int .i64 t, s] w fun e w' => (∃ v, e = .returned (.tuple #[v, .int .i64 (splitE t l)]) ∧ OwnI w' w.heap.size v (splitR t l)) ∧ Kp w w' := by
  obtain ⟨a, cap, rfl, hsh⟩ := hR.shape
  by_cases h0 : mchk t = 0
  · by_cases hw : (weighR l).2 = true
    · have e0 : splitE t l = 0 := by unfold splitE; rw [if_pos h0, if_pos hw]
      have e1 : splitR t l = partsL t l := by unfold splitR; rw [if_pos e0]
      have h1 : (weighR l).1 = l.sum := by
        unfold weighR at hw ⊢
        split
        · rename_i h2; rw [if_pos h2] at hw; simp at hw
        · rfl
      have hw2 : weighR l = (l.sum, true) := Prod.ext h1 hw
      rw [e1, e0]
      exact rsplit_core t a _ cap l w rfl (weigh_true hw2).2.2 h0 hw2 hR
    · have e0 : splitE t l = 2 := by unfold splitE; rw [if_pos h0, if_neg hw]
      have e1 : splitR t l = [] := by unfold splitR; rw [if_neg (by rw [e0]; omega)]
      rw [e0, e1]
      refine (rsplit_bad2 t a _ cap l w rfl (by omega) h0 (by simpa using hw) hsh).mono ?_
      rintro e w' ⟨rfl, k⟩
      exact ⟨⟨_, rfl, World.ownsRow_nil _ _ _ _⟩, k⟩
  · have e0 : splitE t l = 5 := by unfold splitE; rw [if_neg h0]
    have e1 : splitR t l = [] := by unfold splitR; rw [if_neg (by rw [e0]; omega)]
    rw [e0, e1]
    refine (rsplit_bad1 t _ w h0).mono ?_
    rintro e w' ⟨rfl, k⟩
    exact ⟨⟨_, rfl, World.ownsRow_nil _ _ _ _⟩, k⟩
end Go.Proofs.Ytcmijedhjebpkaa
