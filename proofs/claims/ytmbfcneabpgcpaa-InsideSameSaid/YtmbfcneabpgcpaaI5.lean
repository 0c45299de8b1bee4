/- Contracts: inside.In. -/
import Derived.Test.YtmbfcneabpgcpaaI4
import Derived.RegionIn
import Derived.Shelf.RegionOpen
namespace Go.Proofs.Ytmbfcneabpgcpaa
open Go.RowKit Go.Proofs.Geo Go.Shelf
attribute [local go_sem] Oper.semAt_some

theorem below_of_drew {W w1 : World} (h : Kp W.drew w1) : Below W.heap.size W w1 := by
  have k : Below W.drew.heap.size W.drew w1 := h
  exact ⟨k.os, k.tape, k.output, k.size, k.block⟩
theorem keep_of_drew {r : Nat} {W w1 : World} (h : Kp W.drew w1) : KeepBut r W w1 := KeepBut.of_below (below_of_drew h)

set_option maxRecDepth 100000 in
set_option maxHeartbeats 4000000 in
theorem in_any (px py : Int) (a : Option Addr) (len cap : Nat) (l : List Pt) (w : World) (hp : PtsV w a len l) (hl : l.length ≤ 10000000000000) :
    Calls Try.prog 13 #[pv px py, .slice a len cap] w fun e w' => e = .returned (.bool (inB (px, py) l)) ∧ Kp w w' := by
  refine (callsIn_wide (n := 9)).1 ?_
  refine callsIn_of_wp_marks Try.func13 rfl trivial ?_ rfl
  simp only [Try.ntmps13, List.size_toArray, List.length_cons, List.length_nil, Nat.reduceAdd, Nat.reduceSub, Array.replicate_succ, Array.replicate_zero, List.push_toArray, List.append_toArray, List.nil_append, List.cons_append]
  gi_wp2_with (refine ⟨trivial, ?_⟩; gi_at_call 32; refine (pairs_in Fence.wide _ trivial rfl _ _ _ _).mono ?_; rintro e w' ⟨rfl, rfl⟩)
  obtain ⟨W0, hW0⟩ : ∃ W0, (((w.alloc (.cells #[.int .i64 px, .int .i64 py] 23)).alloc (.cells #[.bool false] 4)).alloc (.cells #[.slice a len cap] 28)) = W0 := ⟨_, rfl⟩
  have hB0 : Below w.heap.size w W0 := by rw [← hW0]; exact (((Below.refl _ w).alloc (Nat.le_refl _) _).alloc (by simp) _).alloc (by simp; omega) _
  have hsz : W0.heap.size = w.heap.size + 3 := by rw [← hW0]; simp
  have c0 : W0.cell? ⟨w.heap.size, 0, none⟩ = some (.int .i64 px) := by rw [← hW0]; simp [go_sem]
  have c1 : W0.cell? ⟨w.heap.size, 1, none⟩ = some (.int .i64 py) := by rw [← hW0]; simp [go_sem]
  have c2 : W0.cell? ⟨w.heap.size + 1, 0, none⟩ = some (.bool false) := by rw [← hW0]; simp [go_sem]
  have f2 : W0.frozen? ⟨w.heap.size + 1, 0, none⟩ = false := by rw [← hW0]; simp [go_sem]
  have c3 : W0.cell? ⟨w.heap.size + 1 + 1, 0, none⟩ = some (.slice a len cap) := by rw [← hW0]; simp [go_sem]
  rw [hW0]
  clear hW0
  refine range_all rfl (by omega) (gf := 42) (lb := #[.pointer (some ⟨w.heap.size + 1 + 1, 0, none⟩)]) rfl trivial (enters_of Try.func42 (by kernel_rfl) rfl)
    (seq_pairs Fence.wide _ trivial rfl (by omega) (w.heap.size + 1 + 1) (w.heap.size + 1) len cap a l W0 c3 (by omega) w hp hB0 (by omega) hl) (by omega) (fun _ => rfl)
    (fun pre W => (W.cell? ⟨w.heap.size, 0, none⟩ = some (.int .i64 px) ∧ W.cell? ⟨w.heap.size, 1, none⟩ = some (.int .i64 py)) ∧ W.cell? ⟨w.heap.size + 1, 0, none⟩ = some (.bool (parP (px, py) pre)) ∧ W.frozen? ⟨w.heap.size + 1, 0, none⟩ = false ∧ Below w.heap.size w W)
    ?hI ⟨⟨c0, c1⟩, c2, f2, hB0⟩
    (TwoAt (w.heap.size + 3) (fun x A B => #[pv px py, .slice a len cap, .pointer (some ⟨w.heap.size, 0, none⟩), undef, .bool false, .pointer (some ⟨w.heap.size + 1, 0, none⟩), A, B, .slice a len cap,
      .func (.func 42) #[] #[.pointer (some ⟨w.heap.size + 1 + 1, 0, none⟩)], pv x.1.1 x.1.2, pv x.2.1 x.2.2, undef, undef, undef, undef, undef, undef, undef])) (fun x a' A B h k => h.keep k) ?assign ?body ?done
  case hI =>
    rintro pre A B ⟨⟨h1, h2⟩, h3, h4, h5⟩ hs hb
    rw [hsz] at hb
    exact ⟨⟨(hb.cell (p := ⟨w.heap.size, 0, none⟩) (by show w.heap.size < _; omega)).trans h1, (hb.cell (p := ⟨w.heap.size, 1, none⟩) (by show w.heap.size < _; omega)).trans h2⟩,
      (hb.cell (p := ⟨w.heap.size + 1, 0, none⟩) (by show w.heap.size + 1 < _; omega)).trans h3, (hb.frozen (p := ⟨w.heap.size + 1, 0, none⟩) (by show w.heap.size + 1 < _; omega)).trans h4, h5.trans (hb.mono (by omega))⟩
  case assign =>
    intro y x W K hs hK
    gi_wp2
    exact hK _ _ (((Below.refl _ W).alloc (Nat.le_refl _) _).alloc (by simp) _) ⟨W.heap.size, W.heap.size + 1, by omega, by omega, by simp [go_sem], by simp [go_sem], by simp [go_sem], by simp [go_sem], rfl⟩
  case body =>
    rintro y pre x a' W hs ⟨⟨i0, i1⟩, i2, i3, hB⟩ ⟨B1, B2, g1, g2, d0, d1, d2, d3, rfl⟩ hlt
    have HS := Lib.hid (parP_snoc (px, py) pre x)
    obtain ⟨x1, x2⟩ := x
    obtain ⟨x11, x12⟩ := x1
    obtain ⟨x21, x22⟩ := x2
    have hBW := Lib.hid hB
    have hzs : w.heap.size + 3 ≤ W.heap.size := by omega
    have hz0 : w.heap.size < W.heap.size := by omega
    have hz1 : w.heap.size + 1 < W.heap.size := by omega
    clear hB
    dsimp only at d0 d1 d2 d3
    generalize hnn : parP (px, py) pre = N at *
    clear hnn
    have HS2 : Hid ((N == cnt (px, py) (x11, x12) (x21, x22)) = !parP (px, py) (pre ++ [((x11, x12), (x21, x22))])) := by
      show _ = _
      rw [HS.out]; generalize cnt (px, py) (x11, x12) (x21, x22) = C; cases N <;> cases C <;> rfl
    have hmx : Try.prog.follows .mixedOrders = true := by kernel_rfl
    gi_wp2
    gi_region_with_o (refine ⟨trivial, ?_⟩; gi_at_call 17; refine (CallsIn.inRound y (callsIn_wide.2 (counts_any _ _ _ _ _ _ _))).mono ?_; rintro e w1 ⟨rfl, hk⟩; have e0 : w1.cell? ⟨w.heap.size, 0, none⟩ = some (.int .i64 px) := kp_cell (W := W.drew) hk i0; have e1 : w1.cell? ⟨w.heap.size, 1, none⟩ = some (.int .i64 py) := kp_cell (W := W.drew) hk i1; have e2 : w1.cell? ⟨w.heap.size + 1, 0, none⟩ = some (.bool N) := kp_cell (W := W.drew) hk i2; have e3 : w1.frozen? ⟨w.heap.size + 1, 0, none⟩ = false := kp_froz (W := W.drew) hk i2 i3)
    all_goals gi_wp2
    all_goals exact ⟨KeepBut.trans (keep_of_drew (by assumption)) (KeepBut.setCell _ _ _), HS2.out, Below.setCell (hBW.out.trans ((below_of_drew (by assumption)).mono (by omega))) (p := ⟨w.heap.size + 1, 0, none⟩) (by simp) _⟩
  case done =>
    rintro D W hD ⟨⟨i0, i1⟩, i2, i3, hB⟩ hK
    rw [parP_pairs] at i2
    gi_wp2
    refine ⟨by simp, .inl ⟨_, _, rfl, run_takeDeferred hK, ?_⟩⟩
    exact ⟨_, results_tmp rfl _ _ _, rfl, hB.trans (belowK_b (w := w) (Nat.le_refl _) W D _ _ (by omega) hK rfl rfl)⟩

theorem in_rdC (px py : Int) (v : Value) (l : List Pt) (w : World) (h : RdC w v l) :
    Calls Try.prog 13 #[pv px py, v] w fun e w' => e = .returned (.bool (inB (px, py) l)) ∧ Kp w w' := by
  obtain ⟨a, len, cap, rfl, hp⟩ := rd_ptsV h
  exact in_any px py a len cap l w hp h.1
theorem in_rd (px py : Int) (v : Value) (l : List Pt) (w : World) (h : Rd w v l) :
    Calls Try.prog 13 #[pv px py, v] w fun e w' => e = .returned (.bool (inB (px, py) l)) ∧ Kp w w' := in_rdC px py v l w h.toC
end Go.Proofs.Ytmbfcneabpgcpaa
