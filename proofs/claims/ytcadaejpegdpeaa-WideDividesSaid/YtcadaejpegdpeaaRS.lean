/- Numbers stored cell by cell; the document's sum. -/
import Derived.Test.YtcadaejpegdpeaaRI
import Derived.Test.YtcadaejpegdpeaaAI
import Derived.Test.YtcadaejpegdpeaaCellD0
import Derived.Deep.RegionHeld3
namespace Go.Proofs.Ytcadaejpegdpeaa
open Go.RowKit Go.Proofs.Num Go.Proofs.Geo
theorem NumB.put {w : World} {B : Nat} {n : Bool} {e0 e1 e2 e3 e4 e5 e6 e7 e8 e9 e10 e11 : Int} (h : NumB w B n [e0, e1, e2, e3, e4, e5, e6, e7, e8, e9, e10, e11]) (s : Bool) (f0 f1 f2 f3 f4 f5 f6 f7 f8 f9 f10 f11 : Int) : NumB (((((((((((((w.setCell ⟨B, 0, none⟩ (.bool s)).setCell ⟨B, 1, none⟩ (.int .i64 f0)).setCell ⟨B, 2, none⟩ (.int .i64 f1)).setCell ⟨B, 3, none⟩ (.int .i64 f2)).setCell ⟨B, 4, none⟩ (.int .i64 f3)).setCell ⟨B, 5, none⟩ (.int .i64 f4)).setCell ⟨B, 6, none⟩ (.int .i64 f5)).setCell ⟨B, 7, none⟩ (.int .i64 f6)).setCell ⟨B, 8, none⟩ (.int .i64 f7)).setCell ⟨B, 9, none⟩ (.int .i64 f8)).setCell ⟨B, 10, none⟩ (.int .i64 f9)).setCell ⟨B, 11, none⟩ (.int .i64 f10)).setCell ⟨B, 12, none⟩ (.int .i64 f11)) B s [f0, f1, f2, f3, f4, f5, f6, f7, f8, f9, f10, f11] :=
  ((((((((((((h.setSgn s).set 0 f0).set 1 f1).set 2 f2).set 3 f3).set 4 f4).set 5 f5).set 6 f6).set 7 f7).set 8 f8).set 9 f9).set 10 f10).set 11 f11
theorem NumB.offput {w : World} {B B' : Nat} {n : Bool} {E : List Int} (h : NumB w B' n E) (hne : B' ≠ B) (s : Bool) (f0 f1 f2 f3 f4 f5 f6 f7 f8 f9 f10 f11 : Int) : NumB (((((((((((((w.setCell ⟨B, 0, none⟩ (.bool s)).setCell ⟨B, 1, none⟩ (.int .i64 f0)).setCell ⟨B, 2, none⟩ (.int .i64 f1)).setCell ⟨B, 3, none⟩ (.int .i64 f2)).setCell ⟨B, 4, none⟩ (.int .i64 f3)).setCell ⟨B, 5, none⟩ (.int .i64 f4)).setCell ⟨B, 6, none⟩ (.int .i64 f5)).setCell ⟨B, 7, none⟩ (.int .i64 f6)).setCell ⟨B, 8, none⟩ (.int .i64 f7)).setCell ⟨B, 9, none⟩ (.int .i64 f8)).setCell ⟨B, 10, none⟩ (.int .i64 f9)).setCell ⟨B, 11, none⟩ (.int .i64 f10)).setCell ⟨B, 12, none⟩ (.int .i64 f11)) B' n E :=
  ((((((((((((h.off (a := ⟨B, 0, none⟩) _ hne).off (a := ⟨B, 1, none⟩) _ hne).off (a := ⟨B, 2, none⟩) _ hne).off (a := ⟨B, 3, none⟩) _ hne).off (a := ⟨B, 4, none⟩) _ hne).off (a := ⟨B, 5, none⟩) _ hne).off (a := ⟨B, 6, none⟩) _ hne).off (a := ⟨B, 7, none⟩) _ hne).off (a := ⟨B, 8, none⟩) _ hne).off (a := ⟨B, 9, none⟩) _ hne).off (a := ⟨B, 10, none⟩) _ hne).off (a := ⟨B, 11, none⟩) _ hne).off (a := ⟨B, 12, none⟩) _ hne
theorem kp_put {W w : World} (h : Kp W w) {B : Nat} (hB : W.heap.size ≤ B) (s : Bool) (f0 f1 f2 f3 f4 f5 f6 f7 f8 f9 f10 f11 : Int) : Kp W (((((((((((((w.setCell ⟨B, 0, none⟩ (.bool s)).setCell ⟨B, 1, none⟩ (.int .i64 f0)).setCell ⟨B, 2, none⟩ (.int .i64 f1)).setCell ⟨B, 3, none⟩ (.int .i64 f2)).setCell ⟨B, 4, none⟩ (.int .i64 f3)).setCell ⟨B, 5, none⟩ (.int .i64 f4)).setCell ⟨B, 6, none⟩ (.int .i64 f5)).setCell ⟨B, 7, none⟩ (.int .i64 f6)).setCell ⟨B, 8, none⟩ (.int .i64 f7)).setCell ⟨B, 9, none⟩ (.int .i64 f8)).setCell ⟨B, 10, none⟩ (.int .i64 f9)).setCell ⟨B, 11, none⟩ (.int .i64 f10)).setCell ⟨B, 12, none⟩ (.int .i64 f11)) :=
  kp_set (kp_set (kp_set (kp_set (kp_set (kp_set (kp_set (kp_set (kp_set (kp_set (kp_set (kp_set (kp_set h (a := ⟨B, 0, none⟩) hB _) (a := ⟨B, 1, none⟩) hB _) (a := ⟨B, 2, none⟩) hB _) (a := ⟨B, 3, none⟩) hB _) (a := ⟨B, 4, none⟩) hB _) (a := ⟨B, 5, none⟩) hB _) (a := ⟨B, 6, none⟩) hB _) (a := ⟨B, 7, none⟩) hB _) (a := ⟨B, 8, none⟩) hB _) (a := ⟨B, 9, none⟩) hB _) (a := ⟨B, 10, none⟩) hB _) (a := ⟨B, 11, none⟩) hB _) (a := ⟨B, 12, none⟩) hB _
theorem num12 (V : Int) : ∃ (s : Bool) (e0 e1 e2 e3 e4 e5 e6 e7 e8 e9 e10 e11 : Int), numI V = numC s [e0, e1, e2, e3, e4, e5, e6, e7, e8, e9, e10, e11] ∧ d12 V.natAbs = [e0, e1, e2, e3, e4, e5, e6, e7, e8, e9, e10, e11] ∧ s = decide (V < 0) :=
  ⟨_, _, _, _, _, _, _, _, _, _, _, _, _, rfl, rfl, rfl⟩
theorem numB_I {w : World} {B : Nat} {V : Int} (h : NumB w B (decide (V < 0)) (d12 V.natAbs)) {s : Bool} {e0 e1 e2 e3 e4 e5 e6 e7 e8 e9 e10 e11 : Int} (e : d12 V.natAbs = [e0, e1, e2, e3, e4, e5, e6, e7, e8, e9, e10, e11]) (es : s = decide (V < 0)) : NumB w B s [e0, e1, e2, e3, e4, e5, e6, e7, e8, e9, e10, e11] := by rw [es, ← e]; exact h
theorem numB_back {w : World} {B : Nat} {V : Int} {s : Bool} {e0 e1 e2 e3 e4 e5 e6 e7 e8 e9 e10 e11 : Int} (h : NumB w B s [e0, e1, e2, e3, e4, e5, e6, e7, e8, e9, e10, e11]) (e : d12 V.natAbs = [e0, e1, e2, e3, e4, e5, e6, e7, e8, e9, e10, e11]) (es : s = decide (V < 0)) : NumB w B (decide (V < 0)) (d12 V.natAbs) := by rw [e, ← es]; exact h
theorem run_cells_num {w : World} {B : Nat} {neg : Bool} {E : List Int} (V : Int) (h : NumB w B neg E) : (storeCells ⟨B, 0, none⟩ (numI V).toList).run Try.prog w = .ok () (w.setRow B (numI V)) := by
  have := run_storeCells_from (P := Try.prog) B 44 (numI V).toList 0 _ w h.1 (by rw [numC_size h.2, Nat.zero_add, Array.length_toList]; exact numC_size (d12_length _)) (fun v hv => (Array.all_eq_true_iff_forall_mem.1 (show (numI V).all (·.oneCell') = true from numC_one _ _)) v (Array.mem_toList_iff.1 hv))
  simpa using this
set_option maxHeartbeats 8000000 in
set_option maxRecDepth 100000 in
theorem rsum_any (v : Value) (l : List Int) (w : World) (h : RdI w v l) : Calls Try.prog 20 #[v] w fun e w' => e = .returned (.tuple #[.int .i64 (sumI l.sum).1, .int .i64 (sumI l.sum).2]) ∧ Kp w w' := by
  have hi := h.2.1
  have hlen := h.1
  have hsm : ∀ k, Sm (l.take k).sum ∧ ∀ x, I64 x → ((l.take k).sum.natAbs : Int) + x.natAbs < top12 := fun k => by
    have hb := sum_bd (l.take k) fun x hx => hi x (List.mem_of_mem_take hx)
    have hl : (l.take k).length ≤ 20000000000000 := by rw [List.length_take]; omega
    refine ⟨by unfold Sm top12; omega, fun x hx => by unfold I64 at hx; unfold top12; omega⟩
  obtain ⟨a, cap, rfl, hs⟩ := h.shape
  obtain ⟨n, hn⟩ : ∃ n, l.length = n := ⟨_, rfl⟩
  have HN := Lib.hid hn
  have HS := Lib.hid hs
  have HI := Lib.hid hi
  have HSM := Lib.hid hsm
  have hT := told_any l.sum (by have := (hsm l.length).1; rwa [List.take_length] at this)
  obtain ⟨r1, hr1⟩ : ∃ r, (sumI l.sum).1 = r := ⟨_, rfl⟩
  obtain ⟨r2, hr2⟩ : ∃ r, (sumI l.sum).2 = r := ⟨_, rfl⟩
  rw [hr1, hr2] at hT ⊢
  have HT := Lib.hid hT
  rw [hn] at hlen ⊢
  clear hs hi hn h hsm hT hr1 hr2
  go_enter Try.func20, Try.ntmps20
  go_upto_region 2 with fail
  obtain ⟨W, hW⟩ : ∃ W, w.alloc (.cells #[.bool false, .int .i64 0, .int .i64 0, .int .i64 0, .int .i64 0, .int .i64 0, .int .i64 0, .int .i64 0, .int .i64 0, .int .i64 0, .int .i64 0, .int .i64 0, .int .i64 0] 44) = W := ⟨_, rfl⟩
  have hx : NumB W w.heap.size (decide ((l.take 0).sum < 0)) (d12 (l.take 0).sum.natAbs) := by rw [← hW, List.take_zero]; exact NumB.new w false numZ rfl
  have hk : Kp w W := by rw [← hW]; exact kp_alloc (kp_refl _) _
  rw [hW]; clear hW
  have HX := Lib.hid hx
  have HK := Lib.hid hk
  clear hx hk
  go_wp2_with fail
  go_loopw [5] (fun i wr => ∃ k : Nat, k ≤ n ∧ i = .int .i64 k ∧ NumB wr w.heap.size (decide ((l.take k).sum < 0)) (d12 (l.take k).sum.natAbs) ∧ Kp w wr) (fun i _ => n - (intOf i).toNat)
  case atStart => exact ⟨0, by omega, rfl, HX.out, HK.out⟩
  case round =>
    obtain ⟨k, hk, rfl, hx, hkp⟩ := hrel
    by_cases hlt : k < n
    · have hlt' : k < l.length := by rw [HN.out]; exact hlt
      have ht := sum_take l k hlt'
      have hx64 := HI.out _ (List.getElem_mem hlt')
      have hc : ∃ b off, a = some ⟨b, off, none⟩ ∧ wr.cell? ⟨b, off + k, none⟩ = some (.int .i64 l[k]) := by
        rcases HS.out with e | ⟨b, off, ha, hp⟩
        · rw [e] at hlt'; simp at hlt'
        · exact ⟨b, off, ha, kp_cell hkp (hp k hlt')⟩
      obtain ⟨b, off, rfl, y0⟩ := hc
      have c1 := of_any _ hx64
      have c2 := plus_any (l.take k).sum _ ((HSM.out k).2 _ hx64)
      rw [← ht] at c2
      generalize l[k]'hlt' = x at *
      obtain ⟨s, e0, e1, e2, e3, e4, e5, e6, e7, e8, e9, e10, e11, eI, eD, eS⟩ := num12 (l.take k).sum
      have hx2 := numB_I hx eD eS
      rw [eI] at c2
      have c3 : ∀ w : World, Calls Try.prog 34 #[.agg #[.bool s, .int .i64 e0, .int .i64 e1, .int .i64 e2, .int .i64 e3, .int .i64 e4, .int .i64 e5, .int .i64 e6, .int .i64 e7, .int .i64 e8, .int .i64 e9, .int .i64 e10, .int .i64 e11], .agg (numI x)] w fun e w' => e = .returned (.agg (numI (l.take (k + 1)).sum)) ∧ Kp w w' := c2
      have C1 := Lib.hid c1
      obtain ⟨V2, hV2⟩ : ∃ V2, (l.take (k + 1)).sum = V2 := ⟨_, rfl⟩
      rw [hV2] at c3
      have HV2 := Lib.hid hV2
      have C3 := Lib.hid c3
      clear hV2
      have x0 : wr.cell? ⟨w.heap.size, 0, none⟩ = some (.bool s) := hx2.sgn
      have x1 : wr.cell? ⟨w.heap.size, 1, none⟩ = some (.int .i64 e0) := hx2.cell 0 (by simp)
      have x2 : wr.cell? ⟨w.heap.size, 2, none⟩ = some (.int .i64 e1) := hx2.cell 1 (by simp)
      have x3 : wr.cell? ⟨w.heap.size, 3, none⟩ = some (.int .i64 e2) := hx2.cell 2 (by simp)
      have x4 : wr.cell? ⟨w.heap.size, 4, none⟩ = some (.int .i64 e3) := hx2.cell 3 (by simp)
      have x5 : wr.cell? ⟨w.heap.size, 5, none⟩ = some (.int .i64 e4) := hx2.cell 4 (by simp)
      have x6 : wr.cell? ⟨w.heap.size, 6, none⟩ = some (.int .i64 e5) := hx2.cell 5 (by simp)
      have x7 : wr.cell? ⟨w.heap.size, 7, none⟩ = some (.int .i64 e6) := hx2.cell 6 (by simp)
      have x8 : wr.cell? ⟨w.heap.size, 8, none⟩ = some (.int .i64 e7) := hx2.cell 7 (by simp)
      have x9 : wr.cell? ⟨w.heap.size, 9, none⟩ = some (.int .i64 e8) := hx2.cell 8 (by simp)
      have x10 : wr.cell? ⟨w.heap.size, 10, none⟩ = some (.int .i64 e9) := hx2.cell 9 (by simp)
      have x11 : wr.cell? ⟨w.heap.size, 11, none⟩ = some (.int .i64 e10) := hx2.cell 10 (by simp)
      have x12 : wr.cell? ⟨w.heap.size, 12, none⟩ = some (.int .i64 e11) := hx2.cell 11 (by simp)
      have HXB := Lib.hid hx2
      have K : Kp w wr := hkp
      have HB := Lib.hid (show w.heap.size ≤ w.heap.size from Nat.le_refl _)
      have b1 : 0 ≤ (k : Int) := by omega
      have b2 : (k : Int) < (n : Int) := by omega
      have l0 : w.heap.size < wr.heap.size := cell_lt x0
      clear hx hx2 hkp ht hx64 c1 c2 c3 eI eD eS hlt'
      go_upto_region 5 with fail
      go_region_with (first
          | (go_at_call 28; refine (C1.out _).mono ?_; rintro e w5 ⟨rfl, hk⟩; replace x0 : w5.cell? ⟨w.heap.size, 0, none⟩ = some (.bool s) := kp_cell hk (by first | exact x0 | exact cell_d x0); replace x1 : w5.cell? ⟨w.heap.size, 1, none⟩ = some (.int .i64 e0) := kp_cell hk (by first | exact x1 | exact cell_d x1); replace x2 : w5.cell? ⟨w.heap.size, 2, none⟩ = some (.int .i64 e1) := kp_cell hk (by first | exact x2 | exact cell_d x2); replace x3 : w5.cell? ⟨w.heap.size, 3, none⟩ = some (.int .i64 e2) := kp_cell hk (by first | exact x3 | exact cell_d x3); replace x4 : w5.cell? ⟨w.heap.size, 4, none⟩ = some (.int .i64 e3) := kp_cell hk (by first | exact x4 | exact cell_d x4); replace x5 : w5.cell? ⟨w.heap.size, 5, none⟩ = some (.int .i64 e4) := kp_cell hk (by first | exact x5 | exact cell_d x5); replace x6 : w5.cell? ⟨w.heap.size, 6, none⟩ = some (.int .i64 e5) := kp_cell hk (by first | exact x6 | exact cell_d x6); replace x7 : w5.cell? ⟨w.heap.size, 7, none⟩ = some (.int .i64 e6) := kp_cell hk (by first | exact x7 | exact cell_d x7); replace x8 : w5.cell? ⟨w.heap.size, 8, none⟩ = some (.int .i64 e7) := kp_cell hk (by first | exact x8 | exact cell_d x8); replace x9 : w5.cell? ⟨w.heap.size, 9, none⟩ = some (.int .i64 e8) := kp_cell hk (by first | exact x9 | exact cell_d x9); replace x10 : w5.cell? ⟨w.heap.size, 10, none⟩ = some (.int .i64 e9) := kp_cell hk (by first | exact x10 | exact cell_d x10); replace x11 : w5.cell? ⟨w.heap.size, 11, none⟩ = some (.int .i64 e10) := kp_cell hk (by first | exact x11 | exact cell_d x11); replace x12 : w5.cell? ⟨w.heap.size, 12, none⟩ = some (.int .i64 e11) := kp_cell hk (by first | exact x12 | exact cell_d x12); replace y0 : w5.cell? ⟨b, off + k, none⟩ = some (.int .i64 x) := kp_cell hk (by first | exact y0 | exact cell_d y0); replace HXB := Lib.hid (HXB.out.kp (by first | exact hk | exact kp_trans (kp_drew (kp_refl _)) hk)); replace K : Kp w w5 := kp_trans (by first | exact K | exact kp_drew K) hk; clear hk)
          | (go_at_call 34; refine (C3.out _).mono ?_; rintro e w6 ⟨rfl, hk⟩; replace x0 : w6.cell? ⟨w.heap.size, 0, none⟩ = some (.bool s) := kp_cell hk (by first | exact x0 | exact cell_d x0); replace x1 : w6.cell? ⟨w.heap.size, 1, none⟩ = some (.int .i64 e0) := kp_cell hk (by first | exact x1 | exact cell_d x1); replace x2 : w6.cell? ⟨w.heap.size, 2, none⟩ = some (.int .i64 e1) := kp_cell hk (by first | exact x2 | exact cell_d x2); replace x3 : w6.cell? ⟨w.heap.size, 3, none⟩ = some (.int .i64 e2) := kp_cell hk (by first | exact x3 | exact cell_d x3); replace x4 : w6.cell? ⟨w.heap.size, 4, none⟩ = some (.int .i64 e3) := kp_cell hk (by first | exact x4 | exact cell_d x4); replace x5 : w6.cell? ⟨w.heap.size, 5, none⟩ = some (.int .i64 e4) := kp_cell hk (by first | exact x5 | exact cell_d x5); replace x6 : w6.cell? ⟨w.heap.size, 6, none⟩ = some (.int .i64 e5) := kp_cell hk (by first | exact x6 | exact cell_d x6); replace x7 : w6.cell? ⟨w.heap.size, 7, none⟩ = some (.int .i64 e6) := kp_cell hk (by first | exact x7 | exact cell_d x7); replace x8 : w6.cell? ⟨w.heap.size, 8, none⟩ = some (.int .i64 e7) := kp_cell hk (by first | exact x8 | exact cell_d x8); replace x9 : w6.cell? ⟨w.heap.size, 9, none⟩ = some (.int .i64 e8) := kp_cell hk (by first | exact x9 | exact cell_d x9); replace x10 : w6.cell? ⟨w.heap.size, 10, none⟩ = some (.int .i64 e9) := kp_cell hk (by first | exact x10 | exact cell_d x10); replace x11 : w6.cell? ⟨w.heap.size, 11, none⟩ = some (.int .i64 e10) := kp_cell hk (by first | exact x11 | exact cell_d x11); replace x12 : w6.cell? ⟨w.heap.size, 12, none⟩ = some (.int .i64 e11) := kp_cell hk (by first | exact x12 | exact cell_d x12); replace y0 : w6.cell? ⟨b, off + k, none⟩ = some (.int .i64 x) := kp_cell hk (by first | exact y0 | exact cell_d y0); have HX6 := Lib.hid (HXB.out.kp (by first | exact hk | exact kp_trans (kp_drew (kp_refl _)) hk)); replace K : Kp w w6 := kp_trans (by first | exact K | exact kp_drew K) hk; have hst := run_cells_num V2 HX6.out; clear hk))
      all_goals go_wp2_with fail
      all_goals exact ⟨⟨k + 1, by omega, by go_num, by rw [HV2.out]; exact HX6.out.row (d12_length _), kp_row K (Nat.le_refl _) _⟩, by simp [intOf]; omega⟩
    · obtain rfl : k = n := by omega
      rw [← HN.out, List.take_length] at hx
      have hX := Lib.hid hx
      have hK := Lib.hid hkp
      clear hx hkp
      go_wp2_with (first
        | ((with_reducible refine at_slot 19 ?_); refine wpList_load_row rfl 44 _ rfl (w.heap.size) rfl 44 _ (0, 0) _ hX.out.1 Try.underlying44 rfl (info_num' (d12_length _)) ?_)
        | (go_at_call 39; refine (HT.out _).mono ?_; rintro e w4 ⟨rfl, hk⟩; have k4 := Lib.hid (kp_trans hK.out hk); clear hk))
      go_ret2
      exact ⟨rfl, k4.out⟩
end Go.Proofs.Ytcadaejpegdpeaa
