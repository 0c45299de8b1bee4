/- The contract of join, of the inside's chapter. -/
import Derived.Test.YtmbfcneabpgcpaaO
import Derived.Test.YtmbfcneabpgcpaaInsidePlain2
import Derived.Laws.AppendOwnNone
import Derived.Deep.DeepCutAuto
namespace Go.Proofs.Ytmbfcneabpgcpaa
open Go.RowKit Go.Proofs.Geo

theorem cells_kp {w w' : World} {ad : Addr} {xs : List Value} (h : ∀ j u, xs[j]? = some u → w.cell? (ad.add j) = some u) (k : Kp w w') : ∀ j u, xs[j]? = some u → w'.cell? (ad.add j) = some u := fun j u hj => kp_cell k (h j u hj)
theorem kp_grown_own {W w w' : World} {v : Value} {n : Nat} {xs : List Value} (h : Kp W w) (hg : w.grownBy w' v.ownBlock) (ho : w.ownsRow W.heap.size 23 2 v n xs) : Kp W w' :=
  Below.grown h hg (Below.size h) fun k hk => (World.ownsRow.lt ho k hk).1
set_option maxHeartbeats 8000000 in
set_option maxRecDepth 100000 in
theorem join_any (ax ay bx bY : Int) (v1 v2 : Value) (l m : List Pt) (w : World) (h1 : RdC w v1 l) (h2 : RdC w v2 m) (hl : l.length ≤ 10000) (hm : m.length ≤ 10000) :
    Calls Try.prog 25 #[pv ax ay, v1, pv bx bY, v2] w (RetRd w ((ax, ay) :: (l ++ (bx, bY) :: m))) := by
  obtain ⟨i0, hi, hz0, hz1, hz2⟩ := info_parts infoPt
  have HI := Lib.hid hi
  have HZ0 := Lib.hid hz0
  have HZ1 := Lib.hid hz1
  have HZ2 := Lib.hid hz2
  have HN : Hid (l.length ≤ 10000 ∧ m.length ≤ 10000) := Lib.hid ⟨hl, hm⟩
  clear hi hz0 hz1 hz2 hl hm
  obtain ⟨_, h1⟩ := h1
  obtain ⟨_, h2⟩ := h2
  rcases h1 with ⟨rfl, rfl⟩ | ⟨ad1, cap1, rfl, h1⟩
  · rcases h2 with ⟨rfl, rfl⟩ | ⟨ad2, cap2, rfl, h2⟩
    · skip
      go_enter Try.func25, Try.ntmps25
      go_upto_region 1 with fail
      obtain ⟨W0, hW0⟩ : ∃ W0, ((w.alloc (.cells #[.int .i64 ax, .int .i64 ay] 23)).alloc (.cells #[.int .i64 bx, .int .i64 bY] 23)) = W0 := ⟨_, rfl⟩
      have c0_0 : W0.cell? ⟨w.heap.size, 0, none⟩ = some (.int .i64 ax) := by rw [← hW0]; simp [go_sem]
      have c0_1 : W0.cell? ⟨w.heap.size, 1, none⟩ = some (.int .i64 ay) := by rw [← hW0]; simp [go_sem]
      have c1_0 : W0.cell? ⟨w.heap.size + 1, 0, none⟩ = some (.int .i64 bx) := by rw [← hW0]; simp [go_sem]
      have c1_1 : W0.cell? ⟨w.heap.size + 1, 1, none⟩ = some (.int .i64 bY) := by rw [← hW0]; simp [go_sem]
      have l0_0 : w.heap.size < W0.heap.size := cell_lt c0_0
      have l1_0 : w.heap.size + 1 < W0.heap.size := cell_lt c1_0
      have K0 : Hid (Kp w W0) := by show Kp w W0; rw [← hW0]; exact kp_alloc (kp_alloc (kp_refl _) _) _
      have HO0 : Hid (OwnP (W0.alloc (.cells #[.int .i64 ax, .int .i64 ay] 23)) W0.heap.size (.slice (some ⟨W0.heap.size, 0, none⟩) 1 1) [(ax, ay)]) := Lib.hid (OwnP.lit W0 [(ax, ay)] _ rfl (by simp))
      have KA : Hid (Kp W0 (W0.alloc (.cells #[.int .i64 ax, .int .i64 ay] 23))) := Lib.hid (kp_alloc (kp_refl _) _)
      rw [hW0]; clear hW0
      go_wp2_with (first
        | (at_builtin; refine wpList_append_own_none rfl (.tmp 11) (.tmp 12) 28 rfl W0.heap.size 23 i0 2 Try.underlying28 HI.out _ _ _ rfl HO0.out rfl ?_)
        | (at_builtin; refine wpList_append_own _ rfl (.tmp 14) (.tmp 16) 28 rfl W0.heap.size 23 i0 (.agg #[.int .i64 0, .int .i64 0]) 2 16 Try.underlying28 HI.out HZ0.out HZ1.out HZ2.out rfl (by decide) _ _ _ rfl (HO0.out.kp (kp_alloc (kp_refl _) _)) ⟨W0.heap.size + 1, 0, none⟩ _ _ (flat [(bx, bY)]) rfl rfl (by have h := cell_two_pt (W0.alloc (.cells #[.int .i64 ax, .int .i64 ay] 23)) bx bY 23; rw [World.size_alloc] at h; exact h) (flat_one _) (by have := HN.out; unfold maxLen; (try simp) <;> omega) (by have := HN.out; (try simp) <;> omega) (Below.size (kp_alloc KA.out _)) ?_; intro u2 w2 hown hg _; have HO2 : Hid (OwnP w2 W0.heap.size u2 ([(ax, ay)] ++ [(bx, bY)])) := Lib.hid (OwnP.append hown); have K2 : Hid (Kp W0 w2) := Lib.hid (kp_grown_own (kp_alloc KA.out _) hg (HO0.out.kp (kp_alloc (kp_refl _) _))); clear hown hg)
        | (at_builtin; refine wpList_append_own_none rfl (.tmp 17) (.tmp 18) 28 rfl W0.heap.size 23 i0 2 Try.underlying28 HI.out _ _ _ rfl HO2.out rfl ?_))
      go_ret
      refine ⟨u2, rfl, ?_, kp_trans K0.out K2.out⟩
      have := (HO2.out).rd (by have := HN.out; simp <;> omega)
      simpa using this
    · skip
      have H2 := Lib.hid h2; clear h2
      go_enter Try.func25, Try.ntmps25
      go_upto_region 1 with fail
      obtain ⟨W0, hW0⟩ : ∃ W0, ((w.alloc (.cells #[.int .i64 ax, .int .i64 ay] 23)).alloc (.cells #[.int .i64 bx, .int .i64 bY] 23)) = W0 := ⟨_, rfl⟩
      have c0_0 : W0.cell? ⟨w.heap.size, 0, none⟩ = some (.int .i64 ax) := by rw [← hW0]; simp [go_sem]
      have c0_1 : W0.cell? ⟨w.heap.size, 1, none⟩ = some (.int .i64 ay) := by rw [← hW0]; simp [go_sem]
      have c1_0 : W0.cell? ⟨w.heap.size + 1, 0, none⟩ = some (.int .i64 bx) := by rw [← hW0]; simp [go_sem]
      have c1_1 : W0.cell? ⟨w.heap.size + 1, 1, none⟩ = some (.int .i64 bY) := by rw [← hW0]; simp [go_sem]
      have l0_0 : w.heap.size < W0.heap.size := cell_lt c0_0
      have l1_0 : w.heap.size + 1 < W0.heap.size := cell_lt c1_0
      have K0 : Hid (Kp w W0) := by show Kp w W0; rw [← hW0]; exact kp_alloc (kp_alloc (kp_refl _) _) _
      have HO0 : Hid (OwnP (W0.alloc (.cells #[.int .i64 ax, .int .i64 ay] 23)) W0.heap.size (.slice (some ⟨W0.heap.size, 0, none⟩) 1 1) [(ax, ay)]) := Lib.hid (OwnP.lit W0 [(ax, ay)] _ rfl (by simp))
      have KA : Hid (Kp W0 (W0.alloc (.cells #[.int .i64 ax, .int .i64 ay] 23))) := Lib.hid (kp_alloc (kp_refl _) _)
      rw [hW0]; clear hW0
      go_wp2_with (first
        | (at_builtin; refine wpList_append_own_none rfl (.tmp 11) (.tmp 12) 28 rfl W0.heap.size 23 i0 2 Try.underlying28 HI.out _ _ _ rfl HO0.out rfl ?_)
        | (at_builtin; refine wpList_append_own _ rfl (.tmp 14) (.tmp 16) 28 rfl W0.heap.size 23 i0 (.agg #[.int .i64 0, .int .i64 0]) 2 16 Try.underlying28 HI.out HZ0.out HZ1.out HZ2.out rfl (by decide) _ _ _ rfl (HO0.out.kp (kp_alloc (kp_refl _) _)) ⟨W0.heap.size + 1, 0, none⟩ _ _ (flat [(bx, bY)]) rfl rfl (by have h := cell_two_pt (W0.alloc (.cells #[.int .i64 ax, .int .i64 ay] 23)) bx bY 23; rw [World.size_alloc] at h; exact h) (flat_one _) (by have := HN.out; unfold maxLen; (try simp) <;> omega) (by have := HN.out; (try simp) <;> omega) (Below.size (kp_alloc KA.out _)) ?_; intro u2 w2 hown hg _; have HO2 : Hid (OwnP w2 W0.heap.size u2 ([(ax, ay)] ++ [(bx, bY)])) := Lib.hid (OwnP.append hown); have K2 : Hid (Kp W0 w2) := Lib.hid (kp_grown_own (kp_alloc KA.out _) hg (HO0.out.kp (kp_alloc (kp_refl _) _))); clear hown hg)
        | (at_builtin; refine wpList_append_own _ rfl (.tmp 17) (.tmp 18) 28 rfl W0.heap.size 23 i0 (.agg #[.int .i64 0, .int .i64 0]) 2 16 Try.underlying28 HI.out HZ0.out HZ1.out HZ2.out rfl (by decide) _ _ _ rfl HO2.out ad2 _ _ (flat m) rfl (flat_len _) (cells_kp (cells_kp H2.out K0.out) K2.out) (flat_one _) (by have := HN.out; unfold maxLen; (try simp) <;> omega) (by have := HN.out; (try simp) <;> omega) (Below.size K2.out) ?_; intro u3 w3 hown hg _; have HO3 : Hid (OwnP w3 W0.heap.size u3 (([(ax, ay)] ++ [(bx, bY)]) ++ m)) := Lib.hid (OwnP.append hown); have K3 : Hid (Kp W0 w3) := Lib.hid (kp_grown_own K2.out hg HO2.out); clear hown hg))
      go_ret
      refine ⟨u3, rfl, ?_, kp_trans K0.out K3.out⟩
      have := (HO3.out).rd (by have := HN.out; simp <;> omega)
      simpa using this
  · rcases h2 with ⟨rfl, rfl⟩ | ⟨ad2, cap2, rfl, h2⟩
    · skip
      have H1 := Lib.hid h1; clear h1
      go_enter Try.func25, Try.ntmps25
      go_upto_region 1 with fail
      obtain ⟨W0, hW0⟩ : ∃ W0, ((w.alloc (.cells #[.int .i64 ax, .int .i64 ay] 23)).alloc (.cells #[.int .i64 bx, .int .i64 bY] 23)) = W0 := ⟨_, rfl⟩
      have c0_0 : W0.cell? ⟨w.heap.size, 0, none⟩ = some (.int .i64 ax) := by rw [← hW0]; simp [go_sem]
      have c0_1 : W0.cell? ⟨w.heap.size, 1, none⟩ = some (.int .i64 ay) := by rw [← hW0]; simp [go_sem]
      have c1_0 : W0.cell? ⟨w.heap.size + 1, 0, none⟩ = some (.int .i64 bx) := by rw [← hW0]; simp [go_sem]
      have c1_1 : W0.cell? ⟨w.heap.size + 1, 1, none⟩ = some (.int .i64 bY) := by rw [← hW0]; simp [go_sem]
      have l0_0 : w.heap.size < W0.heap.size := cell_lt c0_0
      have l1_0 : w.heap.size + 1 < W0.heap.size := cell_lt c1_0
      have K0 : Hid (Kp w W0) := by show Kp w W0; rw [← hW0]; exact kp_alloc (kp_alloc (kp_refl _) _) _
      have HO0 : Hid (OwnP (W0.alloc (.cells #[.int .i64 ax, .int .i64 ay] 23)) W0.heap.size (.slice (some ⟨W0.heap.size, 0, none⟩) 1 1) [(ax, ay)]) := Lib.hid (OwnP.lit W0 [(ax, ay)] _ rfl (by simp))
      have KA : Hid (Kp W0 (W0.alloc (.cells #[.int .i64 ax, .int .i64 ay] 23))) := Lib.hid (kp_alloc (kp_refl _) _)
      rw [hW0]; clear hW0
      go_wp2_with (first
        | (at_builtin; refine wpList_append_own _ rfl (.tmp 11) (.tmp 12) 28 rfl W0.heap.size 23 i0 (.agg #[.int .i64 0, .int .i64 0]) 2 16 Try.underlying28 HI.out HZ0.out HZ1.out HZ2.out rfl (by decide) _ _ _ rfl HO0.out ad1 _ _ (flat l) rfl (flat_len _) (cells_kp (cells_kp H1.out K0.out) KA.out) (flat_one _) (by have := HN.out; unfold maxLen; (try simp) <;> omega) (by have := HN.out; (try simp) <;> omega) (Below.size KA.out) ?_; intro u1 w1 hown hg _; have HO1 : Hid (OwnP w1 W0.heap.size u1 ([(ax, ay)] ++ l)) := Lib.hid (OwnP.append hown); have K1 : Hid (Kp W0 w1) := Lib.hid (kp_grown_own KA.out hg HO0.out); have b0 : w1.cell? ⟨w.heap.size + 1, 0, none⟩ = some (.int .i64 bx) := kp_cell K1.out c1_0; have b1 : w1.cell? ⟨w.heap.size + 1, 1, none⟩ = some (.int .i64 bY) := kp_cell K1.out c1_1; clear hown hg)
        | (at_builtin; refine wpList_append_own _ rfl (.tmp 14) (.tmp 16) 28 rfl W0.heap.size 23 i0 (.agg #[.int .i64 0, .int .i64 0]) 2 16 Try.underlying28 HI.out HZ0.out HZ1.out HZ2.out rfl (by decide) _ _ _ rfl (HO1.out.kp (kp_alloc (kp_refl _) _)) ⟨w1.heap.size, 0, none⟩ _ _ (flat [(bx, bY)]) rfl rfl (cell_two_pt _ _ _ _) (flat_one _) (by have := HN.out; unfold maxLen; (try simp) <;> omega) (by have := HN.out; (try simp) <;> omega) (Below.size (kp_alloc K1.out _)) ?_; intro u2 w2 hown hg _; have HO2 : Hid (OwnP w2 W0.heap.size u2 (([(ax, ay)] ++ l) ++ [(bx, bY)])) := Lib.hid (OwnP.append hown); have K2 : Hid (Kp W0 w2) := Lib.hid (kp_grown_own (kp_alloc K1.out _) hg (HO1.out.kp (kp_alloc (kp_refl _) _))); clear hown hg)
        | (at_builtin; refine wpList_append_own_none rfl (.tmp 17) (.tmp 18) 28 rfl W0.heap.size 23 i0 2 Try.underlying28 HI.out _ _ _ rfl HO2.out rfl ?_))
      go_ret
      refine ⟨u2, rfl, ?_, kp_trans K0.out K2.out⟩
      have := (HO2.out).rd (by have := HN.out; simp <;> omega)
      simpa using this
    · skip
      have H1 := Lib.hid h1; clear h1
      have H2 := Lib.hid h2; clear h2
      go_enter Try.func25, Try.ntmps25
      go_upto_region 1 with fail
      obtain ⟨W0, hW0⟩ : ∃ W0, ((w.alloc (.cells #[.int .i64 ax, .int .i64 ay] 23)).alloc (.cells #[.int .i64 bx, .int .i64 bY] 23)) = W0 := ⟨_, rfl⟩
      have c0_0 : W0.cell? ⟨w.heap.size, 0, none⟩ = some (.int .i64 ax) := by rw [← hW0]; simp [go_sem]
      have c0_1 : W0.cell? ⟨w.heap.size, 1, none⟩ = some (.int .i64 ay) := by rw [← hW0]; simp [go_sem]
      have c1_0 : W0.cell? ⟨w.heap.size + 1, 0, none⟩ = some (.int .i64 bx) := by rw [← hW0]; simp [go_sem]
      have c1_1 : W0.cell? ⟨w.heap.size + 1, 1, none⟩ = some (.int .i64 bY) := by rw [← hW0]; simp [go_sem]
      have l0_0 : w.heap.size < W0.heap.size := cell_lt c0_0
      have l1_0 : w.heap.size + 1 < W0.heap.size := cell_lt c1_0
      have K0 : Hid (Kp w W0) := by show Kp w W0; rw [← hW0]; exact kp_alloc (kp_alloc (kp_refl _) _) _
      have HO0 : Hid (OwnP (W0.alloc (.cells #[.int .i64 ax, .int .i64 ay] 23)) W0.heap.size (.slice (some ⟨W0.heap.size, 0, none⟩) 1 1) [(ax, ay)]) := Lib.hid (OwnP.lit W0 [(ax, ay)] _ rfl (by simp))
      have KA : Hid (Kp W0 (W0.alloc (.cells #[.int .i64 ax, .int .i64 ay] 23))) := Lib.hid (kp_alloc (kp_refl _) _)
      rw [hW0]; clear hW0
      go_wp2_with (first
        | (at_builtin; refine wpList_append_own _ rfl (.tmp 11) (.tmp 12) 28 rfl W0.heap.size 23 i0 (.agg #[.int .i64 0, .int .i64 0]) 2 16 Try.underlying28 HI.out HZ0.out HZ1.out HZ2.out rfl (by decide) _ _ _ rfl HO0.out ad1 _ _ (flat l) rfl (flat_len _) (cells_kp (cells_kp H1.out K0.out) KA.out) (flat_one _) (by have := HN.out; unfold maxLen; (try simp) <;> omega) (by have := HN.out; (try simp) <;> omega) (Below.size KA.out) ?_; intro u1 w1 hown hg _; have HO1 : Hid (OwnP w1 W0.heap.size u1 ([(ax, ay)] ++ l)) := Lib.hid (OwnP.append hown); have K1 : Hid (Kp W0 w1) := Lib.hid (kp_grown_own KA.out hg HO0.out); have b0 : w1.cell? ⟨w.heap.size + 1, 0, none⟩ = some (.int .i64 bx) := kp_cell K1.out c1_0; have b1 : w1.cell? ⟨w.heap.size + 1, 1, none⟩ = some (.int .i64 bY) := kp_cell K1.out c1_1; clear hown hg)
        | (at_builtin; refine wpList_append_own _ rfl (.tmp 14) (.tmp 16) 28 rfl W0.heap.size 23 i0 (.agg #[.int .i64 0, .int .i64 0]) 2 16 Try.underlying28 HI.out HZ0.out HZ1.out HZ2.out rfl (by decide) _ _ _ rfl (HO1.out.kp (kp_alloc (kp_refl _) _)) ⟨w1.heap.size, 0, none⟩ _ _ (flat [(bx, bY)]) rfl rfl (cell_two_pt _ _ _ _) (flat_one _) (by have := HN.out; unfold maxLen; (try simp) <;> omega) (by have := HN.out; (try simp) <;> omega) (Below.size (kp_alloc K1.out _)) ?_; intro u2 w2 hown hg _; have HO2 : Hid (OwnP w2 W0.heap.size u2 (([(ax, ay)] ++ l) ++ [(bx, bY)])) := Lib.hid (OwnP.append hown); have K2 : Hid (Kp W0 w2) := Lib.hid (kp_grown_own (kp_alloc K1.out _) hg (HO1.out.kp (kp_alloc (kp_refl _) _))); clear hown hg)
        | (at_builtin; refine wpList_append_own _ rfl (.tmp 17) (.tmp 18) 28 rfl W0.heap.size 23 i0 (.agg #[.int .i64 0, .int .i64 0]) 2 16 Try.underlying28 HI.out HZ0.out HZ1.out HZ2.out rfl (by decide) _ _ _ rfl HO2.out ad2 _ _ (flat m) rfl (flat_len _) (cells_kp (cells_kp H2.out K0.out) K2.out) (flat_one _) (by have := HN.out; unfold maxLen; (try simp) <;> omega) (by have := HN.out; (try simp) <;> omega) (Below.size K2.out) ?_; intro u3 w3 hown hg _; have HO3 : Hid (OwnP w3 W0.heap.size u3 ((([(ax, ay)] ++ l) ++ [(bx, bY)]) ++ m)) := Lib.hid (OwnP.append hown); have K3 : Hid (Kp W0 w3) := Lib.hid (kp_grown_own K2.out hg HO2.out); clear hown hg))
      go_ret
      refine ⟨u3, rfl, ?_, kp_trans K0.out K3.out⟩
      have := (HO3.out).rd (by have := HN.out; simp <;> omega)
      simpa using this
end Go.Proofs.Ytmbfcneabpgcpaa
