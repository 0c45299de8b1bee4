/- Contracts of numbers in digits: carried. -/
import Derived.Test.YtcmijedhjebpkaaN1
import Derived.IntWalk
import Derived.BigRegion
import Derived.RegionTactic
import Derived.Deep.DeepCutAuto
namespace Go.Proofs.Ytcmijedhjebpkaa
open Go.RowKit Go.Proofs.Num
theorem hv_carry (E : List Int) (k : Nat) (h : k + 1 < E.length) : hv ((E.set (k + 1) (E[k + 1] + E[k] / 65536)).set k (E[k] % 65536)) = hv E := by
  induction E generalizing k with
  | nil => simp at h
  | cons d l ih =>
    cases k with
    | zero =>
      cases l with
      | nil => simp at h
      | cons e l =>
        simp only [Nat.zero_add, List.getElem_cons_succ, List.getElem_cons_zero, List.set_cons_succ, List.set_cons_zero, hv]
        omega
    | succ k =>
      simp only [List.getElem_cons_succ, List.set_cons_succ, hv]
      rw [ih k (by simpa using h)]

/-- The digits while the first k are carried. -/
def Carr (V : Int) (k : Nat) (E : List Int) : Prop :=
  E.length = 12 ∧ hv E = V ∧ ∀ j (h : j < E.length), 0 ≤ E[j] ∧ (j < k → E[j] < 65536) ∧ (j = k → E[j] ≤ 4398046511104) ∧ (k < j → E[j] ≤ 2199023255552)
theorem Carr.step {V : Int} {k : Nat} {E : List Int} (h : Carr V k E) (hk : k < 11) : Carr V (k + 1) ((E.set (k + 1) (E[k + 1]'(by have := h.1; omega) + E[k]'(by have := h.1; omega) / 65536)).set k (E[k]'(by have := h.1; omega) % 65536)) := by
  obtain ⟨hl, hh, hb⟩ := h
  refine ⟨by simp [hl], by rw [hv_carry E k (by omega), hh], fun j hj => ?_⟩
  have hj' : j < E.length := by simpa using hj
  rw [List.getElem_set, List.getElem_set]
  have b0 := hb k (by omega)
  have b1 := hb (k + 1) (by omega)
  have b2 := hb j hj'
  by_cases e1 : k = j
  · subst e1; rw [if_pos rfl]; omega
  · rw [if_neg e1]
    by_cases e2 : k + 1 = j
    · subst e2; rw [if_pos rfl]; omega
    · rw [if_neg e2]; omega
theorem twelve {E : List Int} (h : E.length = 12) : ∃ e0 e1 e2 e3 e4 e5 e6 e7 e8 e9 e10 e11, E = [e0, e1, e2, e3, e4, e5, e6, e7, e8, e9, e10, e11] := by
  match E, h with
  | [e0, e1, e2, e3, e4, e5, e6, e7, e8, e9, e10, e11], _ => exact ⟨e0, e1, e2, e3, e4, e5, e6, e7, e8, e9, e10, e11, rfl⟩

theorem Carr.done {V : Int} {E : List Int} (h : Carr V 11 E) (ht : V < top12) : E = d12 V := by
  obtain ⟨hl, hh, hb⟩ := h
  obtain ⟨e0, e1, e2, e3, e4, e5, e6, e7, e8, e9, e10, e11, rfl⟩ := twelve hl
  have hin : ∀ d ∈ [e0, e1, e2, e3, e4, e5, e6, e7, e8, e9, e10, e11], 0 ≤ d ∧ d < 65536 := by
    have b := fun j (hj : j < 12) => hb j (by simpa using hj)
    have b0 := b 0 (by omega)
    have b1 := b 1 (by omega)
    have b2 := b 2 (by omega)
    have b3 := b 3 (by omega)
    have b4 := b 4 (by omega)
    have b5 := b 5 (by omega)
    have b6 := b 6 (by omega)
    have b7 := b 7 (by omega)
    have b8 := b 8 (by omega)
    have b9 := b 9 (by omega)
    have b10 := b 10 (by omega)
    have b11 := b 11 (by omega)
    simp at b0 b1 b2 b3 b4 b5 b6 b7 b8 b9 b10 b11
    rw [hv12] at hh
    unfold top12 at ht
    intro d hd
    simp only [List.mem_cons, List.not_mem_nil, or_false] at hd
    omega
  have g := fun j (hj : j < 12) => dg_of _ hin j (by simpa using hj)
  rw [hh] at g
  have g0 := g 0 (by omega)
  have g1 := g 1 (by omega)
  have g2 := g 2 (by omega)
  have g3 := g 3 (by omega)
  have g4 := g 4 (by omega)
  have g5 := g 5 (by omega)
  have g6 := g 6 (by omega)
  have g7 := g 7 (by omega)
  have g8 := g 8 (by omega)
  have g9 := g 9 (by omega)
  have g10 := g 10 (by omega)
  have g11 := g 11 (by omega)
  simp at g0 g1 g2 g3 g4 g5 g6 g7 g8 g9 g10 g11
  show _ = [dg V 0, dg V 1, dg V 2, dg V 3, dg V 4, dg V 5, dg V 6, dg V 7, dg V 8, dg V 9, dg V 10, dg V 11]
  rw [← g0, ← g1, ← g2, ← g3, ← g4, ← g5, ← g6, ← g7, ← g8, ← g9, ← g10, ← g11]

def numZ : List Int := [0, 0, 0, 0, 0, 0, 0, 0, 0, 0, 0, 0]
theorem d12_length (V : Int) : (d12 V).length = 12 := by simp [d12]

set_option maxHeartbeats 8000000 in
set_option maxRecDepth 100000 in
theorem carried_any (neg : Bool) (D : List Int) (V : Int) (hl : D.length = 12) (hv0 : hv D = V) (hb : ∀ d ∈ D, 0 ≤ d ∧ d ≤ 2199023255552) (ht : V < top12) (w : World) :
    Calls Try.prog 43 #[.agg (numC neg D)] w fun e w' => e = .returned (.agg (numC (neg && !allZ (d12 V)) (d12 V))) ∧ Kp w w' := by
  have H0 : Carr V 0 D := by
    refine ⟨hl, hv0, fun j hj => ?_⟩
    have := hb _ (List.getElem_mem hj)
    omega
  have HC := Lib.hid H0
  have HT := Lib.hid ht
  have HL := Lib.hid hl
  clear H0 hv0 hb ht hl
  go_enter Try.func43, Try.ntmps43
  go_upto_region 1 with fail
  obtain ⟨W, hW⟩ : ∃ W, (w.alloc (.cells (numC neg D) 69)).alloc (.cells #[.bool false, .int .i64 0, .int .i64 0, .int .i64 0, .int .i64 0, .int .i64 0, .int .i64 0, .int .i64 0, .int .i64 0, .int .i64 0, .int .i64 0, .int .i64 0, .int .i64 0] 69) = W := ⟨_, rfl⟩
  have HN : NumB W w.heap.size neg D := by rw [← hW]; exact (NumB.new w neg D HL.out).a _
  have HR : NumB W (w.heap.size + 1) false numZ := by
    rw [← hW]
    have h := NumB.new (w.alloc (.cells (numC neg D) 69)) false numZ rfl
    rwa [World.size_alloc] at h
  have HK : Kp w W := by rw [← hW]; exact kp_alloc (kp_alloc (kp_refl _) _) _
  rw [hW]; clear hW
  have HN := Lib.hid HN
  have HR := Lib.hid HR
  have HK := Lib.hid HK
  go_wp2_with fail
  go_loopw [3] (fun i wr => ∃ k : Nat, k ≤ 11 ∧ i = .int .i64 k ∧ ∃ E, Carr V k E ∧ NumB wr w.heap.size neg E ∧ NumB wr (w.heap.size + 1) false numZ ∧ Kp w wr) (fun i _ => 11 - (intOf i).toNat)
  case atStart => exact ⟨0, by omega, rfl, _, HC.out, HN.out, HR.out, HK.out⟩
  case round =>
    obtain ⟨k, hk, rfl, E, hc, hn, hr, hkp⟩ := hrel
    by_cases hlt : k < 11
    · have hl := hc.1
      have b0 := hc.2.2 k (by omega)
      have b1 := hc.2.2 (k + 1) (by omega)
      have x0 := hn.cell k (by omega)
      have x1 := hn.cell (k + 1) (by omega)
      have y0 := hn.froz (1 + k)
      have y1 := hn.froz (1 + (k + 1))
      have wk : IntKind.i64.wrap ((k : Int) + 1) = (k : Int) + 1 := IntWalk.i64_in _ (by omega)
      have wt : ((k : Int) + 1).toNat = k + 1 := by omega
      have wb : 0 ≤ (k : Int) + 1 ∧ (k : Int) + 1 < 12 := by omega
      have hst := hc.step hlt
      have hns := (hn.set (k + 1) (E[k + 1]'(by omega) + E[k]'(by omega) / 65536)).set k (E[k]'(by omega) % 65536)
      have hrs := (hr.off (a := ⟨w.heap.size, 1 + (k + 1), none⟩) (.int .i64 (E[k + 1]'(by omega) + E[k]'(by omega) / 65536)) (by simp)).off (a := ⟨w.heap.size, 1 + k, none⟩) (.int .i64 (E[k]'(by omega) % 65536)) (by simp)
      have hks := kp_set (kp_set hkp (a := ⟨w.heap.size, 1 + (k + 1), none⟩) (by simp) (.int .i64 (E[k + 1]'(by omega) + E[k]'(by omega) / 65536))) (a := ⟨w.heap.size, 1 + k, none⟩) (by simp) (.int .i64 (E[k]'(by omega) % 65536))
      generalize E[k]'(by omega) = p at *
      generalize E[k + 1]'(by omega) = q at *
      have HS := Lib.hid hst
      have HN2 := Lib.hid hns
      have HR2 := Lib.hid hrs
      have HK2 := Lib.hid hks
      obtain ⟨b01, b02, b03, b04⟩ := b0
      obtain ⟨b11, b12, b13, b14⟩ := b1
      have p2 : p ≤ 4398046511104 := b03 rfl
      have q2 : q ≤ 2199023255552 := b14 (by omega)
      clear hst hns hn hr hrs hks hkp hc b02 b03 b04 b12 b13 b14 hl
      have wq : p.tdiv 65536 = p / 65536 := Int.tdiv_eq_ediv_of_nonneg b01
      have wr1 : p.tmod 65536 = p % 65536 := Int.tmod_eq_emod_of_nonneg b01
      have wp : IntKind.i64.wrap (q + p / 65536) = q + p / 65536 := IntWalk.i64_in _ (by omega)
      have wp2 : wrap64 (q + p / 65536) = q + p / 65536 := by rw [← IntWalk.i64_left]; exact wp
      go_wp2_with fail
      go_region
      go_wp2_with fail
      exact ⟨⟨k + 1, by omega, by go_num, _, HS.out, HN2.out.drew, HR2.out.drew, kp_drew HK2.out⟩, by simp [intOf]; omega⟩
    · obtain rfl : k = 11 := by omega
      have hE := hc.done HT.out
      subst hE
      have hN := Lib.hid hn
      have hR := Lib.hid hr
      have hK := Lib.hid hkp
      clear HN HR HK HC hc hn hr hkp
      cases hz : allZ (d12 V)
      · go_wp2_with (first
          | ((with_reducible refine at_slot 31 ?_); refine wpList_load_row rfl 69 _ rfl (w.heap.size) rfl 69 _ (0, 0) _ hN.out.1 Try.underlying69 rfl (info_num' (d12_length V)) ?_)
          | (go_at_call 63; refine (zero_any _ _ (d12_length V) _).mono ?_; rintro e w2 ⟨rfl, hk⟩; have n2 := Lib.hid (hN.out.kp hk); have r2 := Lib.hid (hR.out.kp hk); have k2 := Lib.hid (kp_trans hK.out hk); clear hk; rw [hz])
          | ((with_reducible refine at_slot 34 ?_); refine wpList_load_row rfl 69 _ rfl (w.heap.size) rfl 69 _ (0, 0) _ n2.out.1 Try.underlying69 rfl (info_num' (d12_length V)) ?_)
          | ((with_reducible refine at_store 69 ?_); refine wpList_store_row rfl 69 _ _ rfl (w.heap.size + 1) (numC neg (d12 V)) rfl rfl 69 _ r2.out.1 (info_num' (d12_length V)) (by rw [numC_size r2.out.2, numC_size (d12_length V)]) (numC_one _ _) ?_))
        refine bodyPost_ret (v := .agg (numC neg (d12 V))) (results_cell_row rfl _ _ (w.heap.size + 1) 69 _ (0, 0) _ rfl (r2.out.row (neg' := neg) (d12_length V)).1 Try.underlying69 rfl (info_num' (d12_length V))) rfl ?_
        exact ⟨by simp [hz], kp_row k2.out (by simp) _⟩
      · go_wp2_with (first
          | ((with_reducible refine at_slot 31 ?_); refine wpList_load_row rfl 69 _ rfl (w.heap.size) rfl 69 _ (0, 0) _ hN.out.1 Try.underlying69 rfl (info_num' (d12_length V)) ?_)
          | (go_at_call 63; refine (zero_any _ _ (d12_length V) _).mono ?_; rintro e w2 ⟨rfl, hk⟩; have s0 := (hN.out.kp hk).sgn; have t0 := (hN.out.kp hk).froz 0; have n2 := Lib.hid ((hN.out.kp hk).setSgn false); have r2 := Lib.hid ((hR.out.kp hk).off (a := ⟨w.heap.size, 0, none⟩) (.bool false) (by simp)); have k2 := Lib.hid (kp_set (kp_trans hK.out hk) (a := ⟨w.heap.size, 0, none⟩) (by simp) (.bool false)); clear hk; rw [hz])
          | ((with_reducible refine at_slot 34 ?_); refine wpList_load_row rfl 69 _ rfl (w.heap.size) rfl 69 _ (0, 0) _ n2.out.1 Try.underlying69 rfl (info_num' (d12_length V)) ?_)
          | ((with_reducible refine at_store 69 ?_); refine wpList_store_row rfl 69 _ _ rfl (w.heap.size + 1) (numC false (d12 V)) rfl rfl 69 _ r2.out.1 (info_num' (d12_length V)) (by rw [numC_size r2.out.2, numC_size (d12_length V)]) (numC_one _ _) ?_))
        refine bodyPost_ret (v := .agg (numC false (d12 V))) (results_cell_row rfl _ _ (w.heap.size + 1) 69 _ (0, 0) _ rfl (r2.out.row (neg' := false) (d12_length V)).1 Try.underlying69 rfl (info_num' (d12_length V))) rfl ?_
        exact ⟨by simp [hz], kp_row k2.out (by simp) _⟩
end Go.Proofs.Ytcmijedhjebpkaa
