/- Contracts: 'parts' of the document's numbers. -/
import Derived.Test.YtcmijedhjebpkaaPTP
namespace Go.Proofs.Ytcmijedhjebpkaa
open Go.RowKit Go.Proofs.Num Go.Proofs.Geo
set_option maxHeartbeats 8000000 in
set_option maxRecDepth 100000 in
theorem parts_any (p s : Bool) (X C : Nat) (hX : X ≤ 85070591730234615865843651857942052864) (hC0 : 0 < C) (hC : C ≤ 9223372036854775808) (w : World) : Calls Try.prog 39 #[.agg (numC p (d12 (X : Int))), .agg (numC s (d12 (C : Int)))] w fun e w' =>
    e = .returned (.tuple #[.agg (numC false (d12 ((X / C : Nat) : Int))), .int .i64 (cmpI ((X % C + X % C : Nat) : Int) (C : Int)), .bool (!decide (X % C = 0))]) ∧ Kp w w' := by
  have hXk : ∀ k, ((X / 2 ^ k / C : Nat) : Int) ≤ 85070591730234615865843651857942052864 := fun k => by have := div_le_nat X k C; omega
  have hRk : ∀ k, X / 2 ^ k % C < C := fun k => Nat.mod_lt _ hC0
  have h192 : X / 2 ^ 192 = 0 := Nat.div_eq_of_lt (Nat.lt_of_le_of_lt hX (by decide))
  have HXK := Lib.hid hXk
  have HRK := Lib.hid hRk
  have H192 := Lib.hid h192
  have HC0 := Lib.hid hC0
  have HC := Lib.hid hC
  clear hX hXk hRk h192 hC0 hC
  have HXN := Lib.hid (show ∀ j, 0 ≤ dg (X : Int) j ∧ dg (X : Int) j < 65536 from fun j => dg_bd _ j)
  go_enter Try.func39, Try.ntmps39
  go_upto_region 2 with fail
  obtain ⟨W, hW⟩ : ∃ W, (((((w.alloc (.cells (numC p (d12 (X : Int))) 69)).alloc (.cells (numC s (d12 (C : Int))) 69)).alloc (.cells #[.bool false, .int .i64 0, .int .i64 0, .int .i64 0, .int .i64 0, .int .i64 0, .int .i64 0, .int .i64 0, .int .i64 0, .int .i64 0, .int .i64 0, .int .i64 0, .int .i64 0] 69)).alloc (.cells #[.bool false, .int .i64 0, .int .i64 0, .int .i64 0, .int .i64 0, .int .i64 0, .int .i64 0, .int .i64 0, .int .i64 0, .int .i64 0, .int .i64 0, .int .i64 0, .int .i64 0] 69)).alloc (.cells #[.bool false, .int .i64 0, .int .i64 0, .int .i64 0, .int .i64 0, .int .i64 0, .int .i64 0, .int .i64 0, .int .i64 0, .int .i64 0, .int .i64 0, .int .i64 0, .int .i64 0] 69)) = W := ⟨_, rfl⟩
  have hP : PS w W p s X C 0 0 := by
    rw [← hW]
    have a0 := NumB.new w p (d12 (X : Int)) (d12_length _)
    have a1 := NumB.new (w.alloc (.cells (numC p (d12 (X : Int))) 69)) s (d12 (C : Int)) (d12_length _)
    rw [World.size_alloc] at a1
    have a2 := NumB.new ((w.alloc (.cells (numC p (d12 (X : Int))) 69)).alloc (.cells (numC s (d12 (C : Int))) 69)) false numZ rfl
    rw [World.size_alloc, World.size_alloc] at a2
    have a3 := NumB.new (((w.alloc (.cells (numC p (d12 (X : Int))) 69)).alloc (.cells (numC s (d12 (C : Int))) 69)).alloc (.cells #[.bool false, .int .i64 0, .int .i64 0, .int .i64 0, .int .i64 0, .int .i64 0, .int .i64 0, .int .i64 0, .int .i64 0, .int .i64 0, .int .i64 0, .int .i64 0, .int .i64 0] 69)) false numZ rfl
    rw [World.size_alloc, World.size_alloc, World.size_alloc] at a3
    have a4 := NumB.new ((((w.alloc (.cells (numC p (d12 (X : Int))) 69)).alloc (.cells (numC s (d12 (C : Int))) 69)).alloc (.cells #[.bool false, .int .i64 0, .int .i64 0, .int .i64 0, .int .i64 0, .int .i64 0, .int .i64 0, .int .i64 0, .int .i64 0, .int .i64 0, .int .i64 0, .int .i64 0, .int .i64 0] 69)).alloc (.cells #[.bool false, .int .i64 0, .int .i64 0, .int .i64 0, .int .i64 0, .int .i64 0, .int .i64 0, .int .i64 0, .int .i64 0, .int .i64 0, .int .i64 0, .int .i64 0, .int .i64 0] 69)) false numZ rfl
    rw [World.size_alloc, World.size_alloc, World.size_alloc, World.size_alloc] at a4
    exact ⟨(((a0.a _).a _).a _).a _, ((a1.a _).a _).a _, (a2.a _).a _, a3.a _, a4, kp_alloc (kp_alloc (kp_alloc (kp_alloc (kp_alloc (kp_refl _) _) _) _) _) _⟩
  rw [hW]; clear hW
  have HP := Lib.hid hP
  clear hP
  go_wp2_with fail
  go_loopw [9] (fun i wr => ∃ (k : Nat) (s' : Bool) (v : Int), k ≤ 192 ∧ i = .int .i64 v ∧ v + 1 = (k : Int) ∧ PS w wr p s' X C (X / 2 ^ k / C) (X / 2 ^ k % C)) (fun i _ => (intOf i + 1).toNat)
  case atStart => exact ⟨192, s, 191, by omega, rfl, by simp, by rw [H192.out, Nat.zero_div, Nat.zero_mod]; exact HP.out⟩
  case round =>
    obtain ⟨k, s', v, hk, rfl, hv, hp⟩ := hrel
    clear HP
    rcases Nat.eq_zero_or_pos k with rfl | hk0
    · obtain rfl : v = -1 := by omega
      rw [Nat.pow_zero, Nat.div_one] at hp
      have hR := HRK.out 0
      rw [Nat.pow_zero, Nat.div_one] at hR
      obtain ⟨Q, eQ⟩ : ∃ Q, X / C = Q := ⟨_, rfl⟩
      obtain ⟨R, eR⟩ : ∃ R, X % C = R := ⟨_, rfl⟩
      have HQR := Lib.hid (And.intro eQ eR)
      rw [eQ, eR] at hp
      rw [eR] at hR
      have hC' := HC.out
      have hCop : (C : Int) < top12 := by unfold top12; omega
      have hRop : ((R + R : Nat) : Int) < top12 := by unfold top12; omega
      have hRo : (R : Int) < top12 := by unfold top12; omega
      have cp := plusN R R hRop
      have cs := size_num false s' ((R + R : Nat) : Int) (C : Int) (sh12_zero (by omega) hRop) (sh12_zero (by omega) hCop)
      have cz := zero_any false (d12 (R : Int)) (d12_length _)
      rw [allZ_d12 (by omega) hRo] at cz
      have ez : decide ((R : Int) = 0) = decide (R = 0) := by simp
      rw [ez] at cz
      obtain ⟨f0, f1, f2, f3, f4, f5, f6, f7, f8, f9, f10, f11, eDq⟩ := num12n Q
      obtain ⟨e0, e1, e2, e3, e4, e5, e6, e7, e8, e9, e10, e11, eDr⟩ := num12n R
      obtain ⟨g0, g1, g2, g3, g4, g5, g6, g7, g8, g9, g10, g11, eDc⟩ := num12n C
      rw [eDr] at cp cz
      rw [eDc] at cs
      have hq : numI (Q : Int) = #[.bool false, .int .i64 f0, .int .i64 f1, .int .i64 f2, .int .i64 f3, .int .i64 f4, .int .i64 f5, .int .i64 f6, .int .i64 f7, .int .i64 f8, .int .i64 f9, .int .i64 f10, .int .i64 f11] := by rw [numI_nat, eDq]; rfl
      obtain ⟨V, hV⟩ : ∃ V, numC false (d12 ((R + R : Nat) : Int)) = V := ⟨_, rfl⟩
      rw [hV] at cp cs
      have cp' : ∀ w : World, Calls Try.prog 41 #[.agg #[.bool false, .int .i64 e0, .int .i64 e1, .int .i64 e2, .int .i64 e3, .int .i64 e4, .int .i64 e5, .int .i64 e6, .int .i64 e7, .int .i64 e8, .int .i64 e9, .int .i64 e10, .int .i64 e11], .agg #[.bool false, .int .i64 e0, .int .i64 e1, .int .i64 e2, .int .i64 e3, .int .i64 e4, .int .i64 e5, .int .i64 e6, .int .i64 e7, .int .i64 e8, .int .i64 e9, .int .i64 e10, .int .i64 e11]] w fun e w' => e = .returned (.agg V) ∧ Kp w w' := cp
      have cs' : ∀ w : World, Calls Try.prog 62 #[.agg V, .agg #[.bool s', .int .i64 g0, .int .i64 g1, .int .i64 g2, .int .i64 g3, .int .i64 g4, .int .i64 g5, .int .i64 g6, .int .i64 g7, .int .i64 g8, .int .i64 g9, .int .i64 g10, .int .i64 g11]] w fun e w' => e = .returned (.int .i64 (cmpI ((R + R : Nat) : Int) (C : Int))) ∧ Kp w w' := cs
      have cz' : ∀ w : World, Calls Try.prog 63 #[.agg #[.bool false, .int .i64 e0, .int .i64 e1, .int .i64 e2, .int .i64 e3, .int .i64 e4, .int .i64 e5, .int .i64 e6, .int .i64 e7, .int .i64 e8, .int .i64 e9, .int .i64 e10, .int .i64 e11]] w fun e w' => e = .returned (.bool (decide (R = 0))) ∧ Kp w w' := cz
      have CP := Lib.hid cp'
      have CS := Lib.hid cs'
      have CZ := Lib.hid cz'
      have HQ := Lib.hid hq
      have P := Lib.hid (show PZ w wr s' C Q R from ⟨hp.c, ⟨_, _, hp.z⟩, hp.q, hp.r, hp.k⟩)
      have hxq := hp.q
      have hxr := hp.r
      have hxc := hp.c
      rw [eDq] at hxq
      rw [eDr] at hxr
      rw [eDc] at hxc
      have z0 : wr.cell? ⟨w.heap.size + 1 + 1 + 1, 0, none⟩ = some (.bool false) := hxq.sgn
      have z1 : wr.cell? ⟨w.heap.size + 1 + 1 + 1, 1, none⟩ = some (.int .i64 f0) := hxq.cell 0 (by simp)
      have z2 : wr.cell? ⟨w.heap.size + 1 + 1 + 1, 2, none⟩ = some (.int .i64 f1) := hxq.cell 1 (by simp)
      have z3 : wr.cell? ⟨w.heap.size + 1 + 1 + 1, 3, none⟩ = some (.int .i64 f2) := hxq.cell 2 (by simp)
      have z4 : wr.cell? ⟨w.heap.size + 1 + 1 + 1, 4, none⟩ = some (.int .i64 f3) := hxq.cell 3 (by simp)
      have z5 : wr.cell? ⟨w.heap.size + 1 + 1 + 1, 5, none⟩ = some (.int .i64 f4) := hxq.cell 4 (by simp)
      have z6 : wr.cell? ⟨w.heap.size + 1 + 1 + 1, 6, none⟩ = some (.int .i64 f5) := hxq.cell 5 (by simp)
      have z7 : wr.cell? ⟨w.heap.size + 1 + 1 + 1, 7, none⟩ = some (.int .i64 f6) := hxq.cell 6 (by simp)
      have z8 : wr.cell? ⟨w.heap.size + 1 + 1 + 1, 8, none⟩ = some (.int .i64 f7) := hxq.cell 7 (by simp)
      have z9 : wr.cell? ⟨w.heap.size + 1 + 1 + 1, 9, none⟩ = some (.int .i64 f8) := hxq.cell 8 (by simp)
      have z10 : wr.cell? ⟨w.heap.size + 1 + 1 + 1, 10, none⟩ = some (.int .i64 f9) := hxq.cell 9 (by simp)
      have z11 : wr.cell? ⟨w.heap.size + 1 + 1 + 1, 11, none⟩ = some (.int .i64 f10) := hxq.cell 10 (by simp)
      have z12 : wr.cell? ⟨w.heap.size + 1 + 1 + 1, 12, none⟩ = some (.int .i64 f11) := hxq.cell 11 (by simp)
      have x0 : wr.cell? ⟨w.heap.size + 1 + 1 + 1 + 1, 0, none⟩ = some (.bool false) := hxr.sgn
      have x1 : wr.cell? ⟨w.heap.size + 1 + 1 + 1 + 1, 1, none⟩ = some (.int .i64 e0) := hxr.cell 0 (by simp)
      have x2 : wr.cell? ⟨w.heap.size + 1 + 1 + 1 + 1, 2, none⟩ = some (.int .i64 e1) := hxr.cell 1 (by simp)
      have x3 : wr.cell? ⟨w.heap.size + 1 + 1 + 1 + 1, 3, none⟩ = some (.int .i64 e2) := hxr.cell 2 (by simp)
      have x4 : wr.cell? ⟨w.heap.size + 1 + 1 + 1 + 1, 4, none⟩ = some (.int .i64 e3) := hxr.cell 3 (by simp)
      have x5 : wr.cell? ⟨w.heap.size + 1 + 1 + 1 + 1, 5, none⟩ = some (.int .i64 e4) := hxr.cell 4 (by simp)
      have x6 : wr.cell? ⟨w.heap.size + 1 + 1 + 1 + 1, 6, none⟩ = some (.int .i64 e5) := hxr.cell 5 (by simp)
      have x7 : wr.cell? ⟨w.heap.size + 1 + 1 + 1 + 1, 7, none⟩ = some (.int .i64 e6) := hxr.cell 6 (by simp)
      have x8 : wr.cell? ⟨w.heap.size + 1 + 1 + 1 + 1, 8, none⟩ = some (.int .i64 e7) := hxr.cell 7 (by simp)
      have x9 : wr.cell? ⟨w.heap.size + 1 + 1 + 1 + 1, 9, none⟩ = some (.int .i64 e8) := hxr.cell 8 (by simp)
      have x10 : wr.cell? ⟨w.heap.size + 1 + 1 + 1 + 1, 10, none⟩ = some (.int .i64 e9) := hxr.cell 9 (by simp)
      have x11 : wr.cell? ⟨w.heap.size + 1 + 1 + 1 + 1, 11, none⟩ = some (.int .i64 e10) := hxr.cell 10 (by simp)
      have x12 : wr.cell? ⟨w.heap.size + 1 + 1 + 1 + 1, 12, none⟩ = some (.int .i64 e11) := hxr.cell 11 (by simp)
      have y0 : wr.cell? ⟨w.heap.size + 1, 0, none⟩ = some (.bool s') := hxc.sgn
      have y1 : wr.cell? ⟨w.heap.size + 1, 1, none⟩ = some (.int .i64 g0) := hxc.cell 0 (by simp)
      have y2 : wr.cell? ⟨w.heap.size + 1, 2, none⟩ = some (.int .i64 g1) := hxc.cell 1 (by simp)
      have y3 : wr.cell? ⟨w.heap.size + 1, 3, none⟩ = some (.int .i64 g2) := hxc.cell 2 (by simp)
      have y4 : wr.cell? ⟨w.heap.size + 1, 4, none⟩ = some (.int .i64 g3) := hxc.cell 3 (by simp)
      have y5 : wr.cell? ⟨w.heap.size + 1, 5, none⟩ = some (.int .i64 g4) := hxc.cell 4 (by simp)
      have y6 : wr.cell? ⟨w.heap.size + 1, 6, none⟩ = some (.int .i64 g5) := hxc.cell 5 (by simp)
      have y7 : wr.cell? ⟨w.heap.size + 1, 7, none⟩ = some (.int .i64 g6) := hxc.cell 6 (by simp)
      have y8 : wr.cell? ⟨w.heap.size + 1, 8, none⟩ = some (.int .i64 g7) := hxc.cell 7 (by simp)
      have y9 : wr.cell? ⟨w.heap.size + 1, 9, none⟩ = some (.int .i64 g8) := hxc.cell 8 (by simp)
      have y10 : wr.cell? ⟨w.heap.size + 1, 10, none⟩ = some (.int .i64 g9) := hxc.cell 9 (by simp)
      have y11 : wr.cell? ⟨w.heap.size + 1, 11, none⟩ = some (.int .i64 g10) := hxc.cell 10 (by simp)
      have y12 : wr.cell? ⟨w.heap.size + 1, 12, none⟩ = some (.int .i64 g11) := hxc.cell 11 (by simp)
      clear hxq hxr hxc cp cs cz cp' cs' cz' eDq eDr eDc hV hR hC' hCop hRop hRo ez eQ eR hp hv hk hq
      go_upto_region 13 with fail
      go_region_held3 (fun w' => w'.cell? ⟨w.heap.size + 1 + 1 + 1, 0, none⟩ = some (.bool false) ∧ w'.cell? ⟨w.heap.size + 1 + 1 + 1, 1, none⟩ = some (.int .i64 f0) ∧ w'.cell? ⟨w.heap.size + 1 + 1 + 1, 2, none⟩ = some (.int .i64 f1) ∧ w'.cell? ⟨w.heap.size + 1 + 1 + 1, 3, none⟩ = some (.int .i64 f2) ∧ w'.cell? ⟨w.heap.size + 1 + 1 + 1, 4, none⟩ = some (.int .i64 f3) ∧ w'.cell? ⟨w.heap.size + 1 + 1 + 1, 5, none⟩ = some (.int .i64 f4) ∧ w'.cell? ⟨w.heap.size + 1 + 1 + 1, 6, none⟩ = some (.int .i64 f5) ∧ w'.cell? ⟨w.heap.size + 1 + 1 + 1, 7, none⟩ = some (.int .i64 f6) ∧ w'.cell? ⟨w.heap.size + 1 + 1 + 1, 8, none⟩ = some (.int .i64 f7) ∧ w'.cell? ⟨w.heap.size + 1 + 1 + 1, 9, none⟩ = some (.int .i64 f8) ∧ w'.cell? ⟨w.heap.size + 1 + 1 + 1, 10, none⟩ = some (.int .i64 f9) ∧ w'.cell? ⟨w.heap.size + 1 + 1 + 1, 11, none⟩ = some (.int .i64 f10) ∧ w'.cell? ⟨w.heap.size + 1 + 1 + 1, 12, none⟩ = some (.int .i64 f11) ∧ w'.cell? ⟨w.heap.size + 1 + 1 + 1 + 1, 0, none⟩ = some (.bool false) ∧ w'.cell? ⟨w.heap.size + 1 + 1 + 1 + 1, 1, none⟩ = some (.int .i64 e0) ∧ w'.cell? ⟨w.heap.size + 1 + 1 + 1 + 1, 2, none⟩ = some (.int .i64 e1) ∧ w'.cell? ⟨w.heap.size + 1 + 1 + 1 + 1, 3, none⟩ = some (.int .i64 e2) ∧ w'.cell? ⟨w.heap.size + 1 + 1 + 1 + 1, 4, none⟩ = some (.int .i64 e3) ∧ w'.cell? ⟨w.heap.size + 1 + 1 + 1 + 1, 5, none⟩ = some (.int .i64 e4) ∧ w'.cell? ⟨w.heap.size + 1 + 1 + 1 + 1, 6, none⟩ = some (.int .i64 e5) ∧ w'.cell? ⟨w.heap.size + 1 + 1 + 1 + 1, 7, none⟩ = some (.int .i64 e6) ∧ w'.cell? ⟨w.heap.size + 1 + 1 + 1 + 1, 8, none⟩ = some (.int .i64 e7) ∧ w'.cell? ⟨w.heap.size + 1 + 1 + 1 + 1, 9, none⟩ = some (.int .i64 e8) ∧ w'.cell? ⟨w.heap.size + 1 + 1 + 1 + 1, 10, none⟩ = some (.int .i64 e9) ∧ w'.cell? ⟨w.heap.size + 1 + 1 + 1 + 1, 11, none⟩ = some (.int .i64 e10) ∧ w'.cell? ⟨w.heap.size + 1 + 1 + 1 + 1, 12, none⟩ = some (.int .i64 e11) ∧ w'.cell? ⟨w.heap.size + 1, 0, none⟩ = some (.bool s') ∧ w'.cell? ⟨w.heap.size + 1, 1, none⟩ = some (.int .i64 g0) ∧ w'.cell? ⟨w.heap.size + 1, 2, none⟩ = some (.int .i64 g1) ∧ w'.cell? ⟨w.heap.size + 1, 3, none⟩ = some (.int .i64 g2) ∧ w'.cell? ⟨w.heap.size + 1, 4, none⟩ = some (.int .i64 g3) ∧ w'.cell? ⟨w.heap.size + 1, 5, none⟩ = some (.int .i64 g4) ∧ w'.cell? ⟨w.heap.size + 1, 6, none⟩ = some (.int .i64 g5) ∧ w'.cell? ⟨w.heap.size + 1, 7, none⟩ = some (.int .i64 g6) ∧ w'.cell? ⟨w.heap.size + 1, 8, none⟩ = some (.int .i64 g7) ∧ w'.cell? ⟨w.heap.size + 1, 9, none⟩ = some (.int .i64 g8) ∧ w'.cell? ⟨w.heap.size + 1, 10, none⟩ = some (.int .i64 g9) ∧ w'.cell? ⟨w.heap.size + 1, 11, none⟩ = some (.int .i64 g10) ∧ w'.cell? ⟨w.heap.size + 1, 12, none⟩ = some (.int .i64 g11)) ((first | (with_reducible exact ⟨z0, z1, z2, z3, z4, z5, z6, z7, z8, z9, z10, z11, z12, x0, x1, x2, x3, x4, x5, x6, x7, x8, x9, x10, x11, x12, y0, y1, y2, y3, y4, y5, y6, y7, y8, y9, y10, y11, y12⟩) | (with_reducible exact ⟨cell_d z0, cell_d z1, cell_d z2, cell_d z3, cell_d z4, cell_d z5, cell_d z6, cell_d z7, cell_d z8, cell_d z9, cell_d z10, cell_d z11, cell_d z12, cell_d x0, cell_d x1, cell_d x2, cell_d x3, cell_d x4, cell_d x5, cell_d x6, cell_d x7, cell_d x8, cell_d x9, cell_d x10, cell_d x11, cell_d x12, cell_d y0, cell_d y1, cell_d y2, cell_d y3, cell_d y4, cell_d y5, cell_d y6, cell_d y7, cell_d y8, cell_d y9, cell_d y10, cell_d y11, cell_d y12⟩) | (with_reducible exact ⟨cell_offrow z0 (by omega) _, cell_offrow z1 (by omega) _, cell_offrow z2 (by omega) _, cell_offrow z3 (by omega) _, cell_offrow z4 (by omega) _, cell_offrow z5 (by omega) _, cell_offrow z6 (by omega) _, cell_offrow z7 (by omega) _, cell_offrow z8 (by omega) _, cell_offrow z9 (by omega) _, cell_offrow z10 (by omega) _, cell_offrow z11 (by omega) _, cell_offrow z12 (by omega) _, cell_offrow x0 (by omega) _, cell_offrow x1 (by omega) _, cell_offrow x2 (by omega) _, cell_offrow x3 (by omega) _, cell_offrow x4 (by omega) _, cell_offrow x5 (by omega) _, cell_offrow x6 (by omega) _, cell_offrow x7 (by omega) _, cell_offrow x8 (by omega) _, cell_offrow x9 (by omega) _, cell_offrow x10 (by omega) _, cell_offrow x11 (by omega) _, cell_offrow x12 (by omega) _, cell_offrow y0 (by omega) _, cell_offrow y1 (by omega) _, cell_offrow y2 (by omega) _, cell_offrow y3 (by omega) _, cell_offrow y4 (by omega) _, cell_offrow y5 (by omega) _, cell_offrow y6 (by omega) _, cell_offrow y7 (by omega) _, cell_offrow y8 (by omega) _, cell_offrow y9 (by omega) _, cell_offrow y10 (by omega) _, cell_offrow y11 (by omega) _, cell_offrow y12 (by omega) _⟩)))
        (first
        | (go_at_call 41; refine (CP.out _).mono ?_; rintro e w31 ⟨rfl, hk⟩; rw [← HQ.out]; replace z0 : w31.cell? ⟨w.heap.size + 1 + 1 + 1, 0, none⟩ = some (.bool false) := kp_cell hk (by first | exact z0 | exact cell_d z0); replace z1 : w31.cell? ⟨w.heap.size + 1 + 1 + 1, 1, none⟩ = some (.int .i64 f0) := kp_cell hk (by first | exact z1 | exact cell_d z1); replace z2 : w31.cell? ⟨w.heap.size + 1 + 1 + 1, 2, none⟩ = some (.int .i64 f1) := kp_cell hk (by first | exact z2 | exact cell_d z2); replace z3 : w31.cell? ⟨w.heap.size + 1 + 1 + 1, 3, none⟩ = some (.int .i64 f2) := kp_cell hk (by first | exact z3 | exact cell_d z3); replace z4 : w31.cell? ⟨w.heap.size + 1 + 1 + 1, 4, none⟩ = some (.int .i64 f3) := kp_cell hk (by first | exact z4 | exact cell_d z4); replace z5 : w31.cell? ⟨w.heap.size + 1 + 1 + 1, 5, none⟩ = some (.int .i64 f4) := kp_cell hk (by first | exact z5 | exact cell_d z5); replace z6 : w31.cell? ⟨w.heap.size + 1 + 1 + 1, 6, none⟩ = some (.int .i64 f5) := kp_cell hk (by first | exact z6 | exact cell_d z6); replace z7 : w31.cell? ⟨w.heap.size + 1 + 1 + 1, 7, none⟩ = some (.int .i64 f6) := kp_cell hk (by first | exact z7 | exact cell_d z7); replace z8 : w31.cell? ⟨w.heap.size + 1 + 1 + 1, 8, none⟩ = some (.int .i64 f7) := kp_cell hk (by first | exact z8 | exact cell_d z8); replace z9 : w31.cell? ⟨w.heap.size + 1 + 1 + 1, 9, none⟩ = some (.int .i64 f8) := kp_cell hk (by first | exact z9 | exact cell_d z9); replace z10 : w31.cell? ⟨w.heap.size + 1 + 1 + 1, 10, none⟩ = some (.int .i64 f9) := kp_cell hk (by first | exact z10 | exact cell_d z10); replace z11 : w31.cell? ⟨w.heap.size + 1 + 1 + 1, 11, none⟩ = some (.int .i64 f10) := kp_cell hk (by first | exact z11 | exact cell_d z11); replace z12 : w31.cell? ⟨w.heap.size + 1 + 1 + 1, 12, none⟩ = some (.int .i64 f11) := kp_cell hk (by first | exact z12 | exact cell_d z12); replace x0 : w31.cell? ⟨w.heap.size + 1 + 1 + 1 + 1, 0, none⟩ = some (.bool false) := kp_cell hk (by first | exact x0 | exact cell_d x0); replace x1 : w31.cell? ⟨w.heap.size + 1 + 1 + 1 + 1, 1, none⟩ = some (.int .i64 e0) := kp_cell hk (by first | exact x1 | exact cell_d x1); replace x2 : w31.cell? ⟨w.heap.size + 1 + 1 + 1 + 1, 2, none⟩ = some (.int .i64 e1) := kp_cell hk (by first | exact x2 | exact cell_d x2); replace x3 : w31.cell? ⟨w.heap.size + 1 + 1 + 1 + 1, 3, none⟩ = some (.int .i64 e2) := kp_cell hk (by first | exact x3 | exact cell_d x3); replace x4 : w31.cell? ⟨w.heap.size + 1 + 1 + 1 + 1, 4, none⟩ = some (.int .i64 e3) := kp_cell hk (by first | exact x4 | exact cell_d x4); replace x5 : w31.cell? ⟨w.heap.size + 1 + 1 + 1 + 1, 5, none⟩ = some (.int .i64 e4) := kp_cell hk (by first | exact x5 | exact cell_d x5); replace x6 : w31.cell? ⟨w.heap.size + 1 + 1 + 1 + 1, 6, none⟩ = some (.int .i64 e5) := kp_cell hk (by first | exact x6 | exact cell_d x6); replace x7 : w31.cell? ⟨w.heap.size + 1 + 1 + 1 + 1, 7, none⟩ = some (.int .i64 e6) := kp_cell hk (by first | exact x7 | exact cell_d x7); replace x8 : w31.cell? ⟨w.heap.size + 1 + 1 + 1 + 1, 8, none⟩ = some (.int .i64 e7) := kp_cell hk (by first | exact x8 | exact cell_d x8); replace x9 : w31.cell? ⟨w.heap.size + 1 + 1 + 1 + 1, 9, none⟩ = some (.int .i64 e8) := kp_cell hk (by first | exact x9 | exact cell_d x9); replace x10 : w31.cell? ⟨w.heap.size + 1 + 1 + 1 + 1, 10, none⟩ = some (.int .i64 e9) := kp_cell hk (by first | exact x10 | exact cell_d x10); replace x11 : w31.cell? ⟨w.heap.size + 1 + 1 + 1 + 1, 11, none⟩ = some (.int .i64 e10) := kp_cell hk (by first | exact x11 | exact cell_d x11); replace x12 : w31.cell? ⟨w.heap.size + 1 + 1 + 1 + 1, 12, none⟩ = some (.int .i64 e11) := kp_cell hk (by first | exact x12 | exact cell_d x12); replace y0 : w31.cell? ⟨w.heap.size + 1, 0, none⟩ = some (.bool s') := kp_cell hk (by first | exact y0 | exact cell_d y0); replace y1 : w31.cell? ⟨w.heap.size + 1, 1, none⟩ = some (.int .i64 g0) := kp_cell hk (by first | exact y1 | exact cell_d y1); replace y2 : w31.cell? ⟨w.heap.size + 1, 2, none⟩ = some (.int .i64 g1) := kp_cell hk (by first | exact y2 | exact cell_d y2); replace y3 : w31.cell? ⟨w.heap.size + 1, 3, none⟩ = some (.int .i64 g2) := kp_cell hk (by first | exact y3 | exact cell_d y3); replace y4 : w31.cell? ⟨w.heap.size + 1, 4, none⟩ = some (.int .i64 g3) := kp_cell hk (by first | exact y4 | exact cell_d y4); replace y5 : w31.cell? ⟨w.heap.size + 1, 5, none⟩ = some (.int .i64 g4) := kp_cell hk (by first | exact y5 | exact cell_d y5); replace y6 : w31.cell? ⟨w.heap.size + 1, 6, none⟩ = some (.int .i64 g5) := kp_cell hk (by first | exact y6 | exact cell_d y6); replace y7 : w31.cell? ⟨w.heap.size + 1, 7, none⟩ = some (.int .i64 g6) := kp_cell hk (by first | exact y7 | exact cell_d y7); replace y8 : w31.cell? ⟨w.heap.size + 1, 8, none⟩ = some (.int .i64 g7) := kp_cell hk (by first | exact y8 | exact cell_d y8); replace y9 : w31.cell? ⟨w.heap.size + 1, 9, none⟩ = some (.int .i64 g8) := kp_cell hk (by first | exact y9 | exact cell_d y9); replace y10 : w31.cell? ⟨w.heap.size + 1, 10, none⟩ = some (.int .i64 g9) := kp_cell hk (by first | exact y10 | exact cell_d y10); replace y11 : w31.cell? ⟨w.heap.size + 1, 11, none⟩ = some (.int .i64 g10) := kp_cell hk (by first | exact y11 | exact cell_d y11); replace y12 : w31.cell? ⟨w.heap.size + 1, 12, none⟩ = some (.int .i64 g11) := kp_cell hk (by first | exact y12 | exact cell_d y12); replace P := Lib.hid (P.out.kp (by first | exact hk | exact kp_trans (kp_drew (kp_refl _)) hk)); clear hk)
        | (go_at_call 62; refine (CS.out _).mono ?_; rintro e w32 ⟨rfl, hk⟩; replace z0 : w32.cell? ⟨w.heap.size + 1 + 1 + 1, 0, none⟩ = some (.bool false) := kp_cell hk (by first | exact z0 | exact cell_d z0); replace z1 : w32.cell? ⟨w.heap.size + 1 + 1 + 1, 1, none⟩ = some (.int .i64 f0) := kp_cell hk (by first | exact z1 | exact cell_d z1); replace z2 : w32.cell? ⟨w.heap.size + 1 + 1 + 1, 2, none⟩ = some (.int .i64 f1) := kp_cell hk (by first | exact z2 | exact cell_d z2); replace z3 : w32.cell? ⟨w.heap.size + 1 + 1 + 1, 3, none⟩ = some (.int .i64 f2) := kp_cell hk (by first | exact z3 | exact cell_d z3); replace z4 : w32.cell? ⟨w.heap.size + 1 + 1 + 1, 4, none⟩ = some (.int .i64 f3) := kp_cell hk (by first | exact z4 | exact cell_d z4); replace z5 : w32.cell? ⟨w.heap.size + 1 + 1 + 1, 5, none⟩ = some (.int .i64 f4) := kp_cell hk (by first | exact z5 | exact cell_d z5); replace z6 : w32.cell? ⟨w.heap.size + 1 + 1 + 1, 6, none⟩ = some (.int .i64 f5) := kp_cell hk (by first | exact z6 | exact cell_d z6); replace z7 : w32.cell? ⟨w.heap.size + 1 + 1 + 1, 7, none⟩ = some (.int .i64 f6) := kp_cell hk (by first | exact z7 | exact cell_d z7); replace z8 : w32.cell? ⟨w.heap.size + 1 + 1 + 1, 8, none⟩ = some (.int .i64 f7) := kp_cell hk (by first | exact z8 | exact cell_d z8); replace z9 : w32.cell? ⟨w.heap.size + 1 + 1 + 1, 9, none⟩ = some (.int .i64 f8) := kp_cell hk (by first | exact z9 | exact cell_d z9); replace z10 : w32.cell? ⟨w.heap.size + 1 + 1 + 1, 10, none⟩ = some (.int .i64 f9) := kp_cell hk (by first | exact z10 | exact cell_d z10); replace z11 : w32.cell? ⟨w.heap.size + 1 + 1 + 1, 11, none⟩ = some (.int .i64 f10) := kp_cell hk (by first | exact z11 | exact cell_d z11); replace z12 : w32.cell? ⟨w.heap.size + 1 + 1 + 1, 12, none⟩ = some (.int .i64 f11) := kp_cell hk (by first | exact z12 | exact cell_d z12); replace x0 : w32.cell? ⟨w.heap.size + 1 + 1 + 1 + 1, 0, none⟩ = some (.bool false) := kp_cell hk (by first | exact x0 | exact cell_d x0); replace x1 : w32.cell? ⟨w.heap.size + 1 + 1 + 1 + 1, 1, none⟩ = some (.int .i64 e0) := kp_cell hk (by first | exact x1 | exact cell_d x1); replace x2 : w32.cell? ⟨w.heap.size + 1 + 1 + 1 + 1, 2, none⟩ = some (.int .i64 e1) := kp_cell hk (by first | exact x2 | exact cell_d x2); replace x3 : w32.cell? ⟨w.heap.size + 1 + 1 + 1 + 1, 3, none⟩ = some (.int .i64 e2) := kp_cell hk (by first | exact x3 | exact cell_d x3); replace x4 : w32.cell? ⟨w.heap.size + 1 + 1 + 1 + 1, 4, none⟩ = some (.int .i64 e3) := kp_cell hk (by first | exact x4 | exact cell_d x4); replace x5 : w32.cell? ⟨w.heap.size + 1 + 1 + 1 + 1, 5, none⟩ = some (.int .i64 e4) := kp_cell hk (by first | exact x5 | exact cell_d x5); replace x6 : w32.cell? ⟨w.heap.size + 1 + 1 + 1 + 1, 6, none⟩ = some (.int .i64 e5) := kp_cell hk (by first | exact x6 | exact cell_d x6); replace x7 : w32.cell? ⟨w.heap.size + 1 + 1 + 1 + 1, 7, none⟩ = some (.int .i64 e6) := kp_cell hk (by first | exact x7 | exact cell_d x7); replace x8 : w32.cell? ⟨w.heap.size + 1 + 1 + 1 + 1, 8, none⟩ = some (.int .i64 e7) := kp_cell hk (by first | exact x8 | exact cell_d x8); replace x9 : w32.cell? ⟨w.heap.size + 1 + 1 + 1 + 1, 9, none⟩ = some (.int .i64 e8) := kp_cell hk (by first | exact x9 | exact cell_d x9); replace x10 : w32.cell? ⟨w.heap.size + 1 + 1 + 1 + 1, 10, none⟩ = some (.int .i64 e9) := kp_cell hk (by first | exact x10 | exact cell_d x10); replace x11 : w32.cell? ⟨w.heap.size + 1 + 1 + 1 + 1, 11, none⟩ = some (.int .i64 e10) := kp_cell hk (by first | exact x11 | exact cell_d x11); replace x12 : w32.cell? ⟨w.heap.size + 1 + 1 + 1 + 1, 12, none⟩ = some (.int .i64 e11) := kp_cell hk (by first | exact x12 | exact cell_d x12); replace y0 : w32.cell? ⟨w.heap.size + 1, 0, none⟩ = some (.bool s') := kp_cell hk (by first | exact y0 | exact cell_d y0); replace y1 : w32.cell? ⟨w.heap.size + 1, 1, none⟩ = some (.int .i64 g0) := kp_cell hk (by first | exact y1 | exact cell_d y1); replace y2 : w32.cell? ⟨w.heap.size + 1, 2, none⟩ = some (.int .i64 g1) := kp_cell hk (by first | exact y2 | exact cell_d y2); replace y3 : w32.cell? ⟨w.heap.size + 1, 3, none⟩ = some (.int .i64 g2) := kp_cell hk (by first | exact y3 | exact cell_d y3); replace y4 : w32.cell? ⟨w.heap.size + 1, 4, none⟩ = some (.int .i64 g3) := kp_cell hk (by first | exact y4 | exact cell_d y4); replace y5 : w32.cell? ⟨w.heap.size + 1, 5, none⟩ = some (.int .i64 g4) := kp_cell hk (by first | exact y5 | exact cell_d y5); replace y6 : w32.cell? ⟨w.heap.size + 1, 6, none⟩ = some (.int .i64 g5) := kp_cell hk (by first | exact y6 | exact cell_d y6); replace y7 : w32.cell? ⟨w.heap.size + 1, 7, none⟩ = some (.int .i64 g6) := kp_cell hk (by first | exact y7 | exact cell_d y7); replace y8 : w32.cell? ⟨w.heap.size + 1, 8, none⟩ = some (.int .i64 g7) := kp_cell hk (by first | exact y8 | exact cell_d y8); replace y9 : w32.cell? ⟨w.heap.size + 1, 9, none⟩ = some (.int .i64 g8) := kp_cell hk (by first | exact y9 | exact cell_d y9); replace y10 : w32.cell? ⟨w.heap.size + 1, 10, none⟩ = some (.int .i64 g9) := kp_cell hk (by first | exact y10 | exact cell_d y10); replace y11 : w32.cell? ⟨w.heap.size + 1, 11, none⟩ = some (.int .i64 g10) := kp_cell hk (by first | exact y11 | exact cell_d y11); replace y12 : w32.cell? ⟨w.heap.size + 1, 12, none⟩ = some (.int .i64 g11) := kp_cell hk (by first | exact y12 | exact cell_d y12); replace P := Lib.hid (P.out.kp (by first | exact hk | exact kp_trans (kp_drew (kp_refl _)) hk)); clear hk)
        | (go_at_call 63; refine (CZ.out _).mono ?_; rintro e w33 ⟨rfl, hk⟩; replace z0 : w33.cell? ⟨w.heap.size + 1 + 1 + 1, 0, none⟩ = some (.bool false) := kp_cell hk (by first | exact z0 | exact cell_d z0); replace z1 : w33.cell? ⟨w.heap.size + 1 + 1 + 1, 1, none⟩ = some (.int .i64 f0) := kp_cell hk (by first | exact z1 | exact cell_d z1); replace z2 : w33.cell? ⟨w.heap.size + 1 + 1 + 1, 2, none⟩ = some (.int .i64 f1) := kp_cell hk (by first | exact z2 | exact cell_d z2); replace z3 : w33.cell? ⟨w.heap.size + 1 + 1 + 1, 3, none⟩ = some (.int .i64 f2) := kp_cell hk (by first | exact z3 | exact cell_d z3); replace z4 : w33.cell? ⟨w.heap.size + 1 + 1 + 1, 4, none⟩ = some (.int .i64 f3) := kp_cell hk (by first | exact z4 | exact cell_d z4); replace z5 : w33.cell? ⟨w.heap.size + 1 + 1 + 1, 5, none⟩ = some (.int .i64 f4) := kp_cell hk (by first | exact z5 | exact cell_d z5); replace z6 : w33.cell? ⟨w.heap.size + 1 + 1 + 1, 6, none⟩ = some (.int .i64 f5) := kp_cell hk (by first | exact z6 | exact cell_d z6); replace z7 : w33.cell? ⟨w.heap.size + 1 + 1 + 1, 7, none⟩ = some (.int .i64 f6) := kp_cell hk (by first | exact z7 | exact cell_d z7); replace z8 : w33.cell? ⟨w.heap.size + 1 + 1 + 1, 8, none⟩ = some (.int .i64 f7) := kp_cell hk (by first | exact z8 | exact cell_d z8); replace z9 : w33.cell? ⟨w.heap.size + 1 + 1 + 1, 9, none⟩ = some (.int .i64 f8) := kp_cell hk (by first | exact z9 | exact cell_d z9); replace z10 : w33.cell? ⟨w.heap.size + 1 + 1 + 1, 10, none⟩ = some (.int .i64 f9) := kp_cell hk (by first | exact z10 | exact cell_d z10); replace z11 : w33.cell? ⟨w.heap.size + 1 + 1 + 1, 11, none⟩ = some (.int .i64 f10) := kp_cell hk (by first | exact z11 | exact cell_d z11); replace z12 : w33.cell? ⟨w.heap.size + 1 + 1 + 1, 12, none⟩ = some (.int .i64 f11) := kp_cell hk (by first | exact z12 | exact cell_d z12); replace x0 : w33.cell? ⟨w.heap.size + 1 + 1 + 1 + 1, 0, none⟩ = some (.bool false) := kp_cell hk (by first | exact x0 | exact cell_d x0); replace x1 : w33.cell? ⟨w.heap.size + 1 + 1 + 1 + 1, 1, none⟩ = some (.int .i64 e0) := kp_cell hk (by first | exact x1 | exact cell_d x1); replace x2 : w33.cell? ⟨w.heap.size + 1 + 1 + 1 + 1, 2, none⟩ = some (.int .i64 e1) := kp_cell hk (by first | exact x2 | exact cell_d x2); replace x3 : w33.cell? ⟨w.heap.size + 1 + 1 + 1 + 1, 3, none⟩ = some (.int .i64 e2) := kp_cell hk (by first | exact x3 | exact cell_d x3); replace x4 : w33.cell? ⟨w.heap.size + 1 + 1 + 1 + 1, 4, none⟩ = some (.int .i64 e3) := kp_cell hk (by first | exact x4 | exact cell_d x4); replace x5 : w33.cell? ⟨w.heap.size + 1 + 1 + 1 + 1, 5, none⟩ = some (.int .i64 e4) := kp_cell hk (by first | exact x5 | exact cell_d x5); replace x6 : w33.cell? ⟨w.heap.size + 1 + 1 + 1 + 1, 6, none⟩ = some (.int .i64 e5) := kp_cell hk (by first | exact x6 | exact cell_d x6); replace x7 : w33.cell? ⟨w.heap.size + 1 + 1 + 1 + 1, 7, none⟩ = some (.int .i64 e6) := kp_cell hk (by first | exact x7 | exact cell_d x7); replace x8 : w33.cell? ⟨w.heap.size + 1 + 1 + 1 + 1, 8, none⟩ = some (.int .i64 e7) := kp_cell hk (by first | exact x8 | exact cell_d x8); replace x9 : w33.cell? ⟨w.heap.size + 1 + 1 + 1 + 1, 9, none⟩ = some (.int .i64 e8) := kp_cell hk (by first | exact x9 | exact cell_d x9); replace x10 : w33.cell? ⟨w.heap.size + 1 + 1 + 1 + 1, 10, none⟩ = some (.int .i64 e9) := kp_cell hk (by first | exact x10 | exact cell_d x10); replace x11 : w33.cell? ⟨w.heap.size + 1 + 1 + 1 + 1, 11, none⟩ = some (.int .i64 e10) := kp_cell hk (by first | exact x11 | exact cell_d x11); replace x12 : w33.cell? ⟨w.heap.size + 1 + 1 + 1 + 1, 12, none⟩ = some (.int .i64 e11) := kp_cell hk (by first | exact x12 | exact cell_d x12); replace y0 : w33.cell? ⟨w.heap.size + 1, 0, none⟩ = some (.bool s') := kp_cell hk (by first | exact y0 | exact cell_d y0); replace y1 : w33.cell? ⟨w.heap.size + 1, 1, none⟩ = some (.int .i64 g0) := kp_cell hk (by first | exact y1 | exact cell_d y1); replace y2 : w33.cell? ⟨w.heap.size + 1, 2, none⟩ = some (.int .i64 g1) := kp_cell hk (by first | exact y2 | exact cell_d y2); replace y3 : w33.cell? ⟨w.heap.size + 1, 3, none⟩ = some (.int .i64 g2) := kp_cell hk (by first | exact y3 | exact cell_d y3); replace y4 : w33.cell? ⟨w.heap.size + 1, 4, none⟩ = some (.int .i64 g3) := kp_cell hk (by first | exact y4 | exact cell_d y4); replace y5 : w33.cell? ⟨w.heap.size + 1, 5, none⟩ = some (.int .i64 g4) := kp_cell hk (by first | exact y5 | exact cell_d y5); replace y6 : w33.cell? ⟨w.heap.size + 1, 6, none⟩ = some (.int .i64 g5) := kp_cell hk (by first | exact y6 | exact cell_d y6); replace y7 : w33.cell? ⟨w.heap.size + 1, 7, none⟩ = some (.int .i64 g6) := kp_cell hk (by first | exact y7 | exact cell_d y7); replace y8 : w33.cell? ⟨w.heap.size + 1, 8, none⟩ = some (.int .i64 g7) := kp_cell hk (by first | exact y8 | exact cell_d y8); replace y9 : w33.cell? ⟨w.heap.size + 1, 9, none⟩ = some (.int .i64 g8) := kp_cell hk (by first | exact y9 | exact cell_d y9); replace y10 : w33.cell? ⟨w.heap.size + 1, 10, none⟩ = some (.int .i64 g9) := kp_cell hk (by first | exact y10 | exact cell_d y10); replace y11 : w33.cell? ⟨w.heap.size + 1, 11, none⟩ = some (.int .i64 g10) := kp_cell hk (by first | exact y11 | exact cell_d y11); replace y12 : w33.cell? ⟨w.heap.size + 1, 12, none⟩ = some (.int .i64 g11) := kp_cell hk (by first | exact y12 | exact cell_d y12); have P33 := Lib.hid (P.out.kp (by first | exact hk | exact kp_trans (kp_drew (kp_refl _)) hk)); obtain ⟨nz, Ez, hz33⟩ := P33.out.z; have hst := run_cells_num (Q : Int) hz33; clear hk))
      all_goals go_wp2_with fail
      all_goals
        refine bodyPost_ret (v := .tuple #[.agg (numI (Q : Int)), .int .i64 (cmpI ((R : Int) + (R : Int)) (C : Int)), .bool (!decide (R = 0))]) (results_parts rfl _ _ (w.heap.size + 1 + 1) (Q : Int) _ _ rfl rfl rfl (setRow_heap _ _ _ _ _ _ hz33.1)) rfl ?_
        exact ⟨by rw [HQR.out.1, HQR.out.2, numI_nat, Int.natCast_add], kp_row P33.out.k (by omega) _⟩
    · obtain ⟨k, rfl⟩ : ∃ k', k = k' + 1 := ⟨k - 1, by omega⟩
      obtain rfl : v = (k : Int) := by omega
      clear hv hk0
      have c5 := plusN (X / 2 ^ (k + 1) / C) (X / 2 ^ (k + 1) / C) (by have := HXK.out (k + 1); unfold top12; omega)
      have c6 := plusN (X / 2 ^ (k + 1) % C) (X / 2 ^ (k + 1) % C) (by have := HRK.out (k + 1); have := HC.out; unfold top12; omega)
      have hbit := bit_dg X k
      have hpre := pre_bit X k
      have hmod := Nat.mod_lt (X / 2 ^ k) (show 0 < 2 by decide)
      have hdm1 := fun h => dm_lt (P := X / 2 ^ (k + 1)) (C := C) (b := X / 2 ^ k % 2) HC0.out h
      have hdm2 := fun h => dm_ge (P := X / 2 ^ (k + 1)) (C := C) (b := X / 2 ^ k % 2) HC0.out hmod h
      rw [← hpre] at hdm1 hdm2
      have hQ := HXK.out (k + 1)
      have hR := HRK.out (k + 1)
      obtain ⟨Q, eQ⟩ : ∃ Q, X / 2 ^ (k + 1) / C = Q := ⟨_, rfl⟩
      obtain ⟨R, eR⟩ : ∃ R, X / 2 ^ (k + 1) % C = R := ⟨_, rfl⟩
      obtain ⟨Q', eQ'⟩ : ∃ Q, X / 2 ^ k / C = Q := ⟨_, rfl⟩
      obtain ⟨R', eR'⟩ : ∃ R, X / 2 ^ k % C = R := ⟨_, rfl⟩
      obtain ⟨b, eb⟩ : ∃ b, X / 2 ^ k % 2 = b := ⟨_, rfl⟩
      obtain ⟨j, ej⟩ : ∃ j, k / 16 = j := ⟨_, rfl⟩
      obtain ⟨m, em⟩ : ∃ m, k % 16 = m := ⟨_, rfl⟩
      obtain ⟨D, eD⟩ : ∃ D, dg (X : Int) j = D := ⟨_, rfl⟩
      have hD := HXN.out j
      rw [eQ] at c5 hp hQ hdm1 hdm2
      rw [eR] at c6 hp hR hdm1 hdm2
      rw [eb] at hdm1 hdm2 hmod hbit
      rw [eQ', eR'] at hdm1 hdm2
      rw [ej, em, eD] at hbit
      rw [eD] at hD
      have hj : j < 12 := by omega
      have hm : m < 16 := by omega
      have t1 : (k : Int).tdiv 16 = (j : Int) := by rw [Int.tdiv_eq_ediv_of_nonneg (by omega)]; omega
      have t2 : (k : Int).tmod 16 = (m : Int) := by rw [Int.tmod_eq_emod_of_nonneg (by omega)]; omega
      have t3 : (k : Int) / 16 = (j : Int) := by omega
      have t4 : (k : Int) % 16 = (m : Int) := by omega
      clear hpre ej em
      have E := Lib.hid (And.intro eQ' eR')
      clear eQ eR eb eQ' eR'
      have b1 : 0 ≤ (k : Int) := by omega
      have C5 := Lib.hid c5
      have C6 := Lib.hid c6
      have HP := Lib.hid hp
      clear c5 c6 hp
      go_upto_region 6 with (first
        | ((with_reducible refine at_slot 14 ?_); refine wpList_load_row rfl 69 _ rfl (w.heap.size + 1 + 1 + 1) rfl 69 _ (0, 0) _ HP.out.q.1 Try.underlying69 rfl (info_num' (d12_length _)) ?_)
        | ((with_reducible refine at_slot 15 ?_); refine wpList_load_row rfl 69 _ rfl (w.heap.size + 1 + 1 + 1) rfl 69 _ (0, 0) _ HP.out.q.1 Try.underlying69 rfl (info_num' (d12_length _)) ?_)
        | (go_at_call 41; refine (C5.out _).mono ?_; rintro e w5 ⟨rfl, hk⟩; have P5 := Lib.hid (HP.out.kp hk); clear hk)
        | ((with_reducible refine at_store 69 ?_); refine wpList_store_row rfl 69 _ _ rfl (w.heap.size + 1 + 1 + 1) (numC false (d12 ((Q + Q : Nat) : Int))) rfl rfl 69 _ P5.out.q.1 (info_num' (d12_length _)) (by rw [numC_size P5.out.q.2, numC_size (d12_length _)]) (numC_one _ _) ?_))
      have P6 := Lib.hid (P5.out.setQ (Q + Q))
      obtain ⟨W6, hW6⟩ : ∃ W, w5.setRow (w.heap.size + 1 + 1 + 1) (numC false (d12 ((Q + Q : Nat) : Int))) = W := ⟨_, rfl⟩
      rw [hW6] at P6 ⊢
      clear hW6 P5 HP
      go_upto_region 7 with (first
        | ((with_reducible refine at_slot 17 ?_); refine wpList_load_row rfl 69 _ rfl (w.heap.size + 1 + 1 + 1 + 1) rfl 69 _ (0, 0) _ P6.out.r.1 Try.underlying69 rfl (info_num' (d12_length _)) ?_)
        | ((with_reducible refine at_slot 18 ?_); refine wpList_load_row rfl 69 _ rfl (w.heap.size + 1 + 1 + 1 + 1) rfl 69 _ (0, 0) _ P6.out.r.1 Try.underlying69 rfl (info_num' (d12_length _)) ?_)
        | (go_at_call 41; refine (C6.out _).mono ?_; rintro e w7 ⟨rfl, hk⟩; have P7 := Lib.hid (P6.out.kp hk); clear hk)
        | ((with_reducible refine at_store 69 ?_); refine wpList_store_row rfl 69 _ _ rfl (w.heap.size + 1 + 1 + 1 + 1) (numC false (d12 ((R + R : Nat) : Int))) rfl rfl 69 _ P7.out.r.1 (info_num' (d12_length _)) (by rw [numC_size P7.out.r.2, numC_size (d12_length _)]) (numC_one _ _) ?_))
      have P8 := Lib.hid (P7.out.setR (R + R))
      obtain ⟨W8, hW8⟩ : ∃ W, w7.setRow (w.heap.size + 1 + 1 + 1 + 1) (numC false (d12 ((R + R : Nat) : Int))) = W := ⟨_, rfl⟩
      rw [hW8] at P8 ⊢
      clear hW8 P7 P6
      have y0 : W8.cell? ⟨w.heap.size, 1 + j, none⟩ = some (.int .i64 D) := by have := P8.out.x.cell j (by rw [d12_length]; omega); rwa [d12_get, eD] at this
      have l8 := P8.out.x.lt
      have hbt : ((D / 2 ^ m).tmod 2 == 1) = decide (b = 1) := by
        rw [Int.tmod_eq_emod_of_nonneg (Int.ediv_nonneg hD.1 (Int.le_of_lt (Int.pow_pos (by decide)))), hbit]
        rcases (show b = 0 ∨ b = 1 by omega) with rfl | rfl <;> rfl
      go_upto_if 29 with fail
      go_cut [9] from 10 to 44 (fun s wx => s = .int .i64 (k : Int) ∧ PS w wx p s' X C (Q + Q) (R + R + b))
      case first =>
        by_cases hb : b = 1
        · subst hb
          rw [decide_eq_true rfl] at hbt
          have HB := Lib.hid hbt
          obtain ⟨e0, e1, e2, e3, e4, e5, e6, e7, e8, e9, e10, e11, eD8⟩ := num12n (R + R)
          obtain ⟨V2, hV2⟩ : ∃ V2 : Int, ((R + R + 1 : Nat) : Int) = V2 := ⟨_, rfl⟩
          have c8 := plus_any ((R + R : Nat) : Int) 1 (by have := HC.out; unfold top12; omega)
          rw [numI_nat, eD8, show ((R + R : Nat) : Int) + 1 = V2 by omega] at c8
          have c8' : ∀ w : World, Calls Try.prog 41 #[.agg #[.bool false, .int .i64 e0, .int .i64 e1, .int .i64 e2, .int .i64 e3, .int .i64 e4, .int .i64 e5, .int .i64 e6, .int .i64 e7, .int .i64 e8, .int .i64 e9, .int .i64 e10, .int .i64 e11], .agg (numI 1)] w fun e w' => e = .returned (.agg (numI V2)) ∧ Kp w w' := c8
          have c8o : ∀ w : World, Calls Try.prog 37 #[.int .i64 1] w fun e w' => e = .returned (.agg (numI 1)) ∧ Kp w w' := fun w => of_any 1 (by unfold I64; omega) w
          have C8 := Lib.hid c8'
          have C8O := Lib.hid c8o
          have HV2 := Lib.hid hV2
          have hx2 := P8.out.r
          rw [eD8] at hx2
          have x0 : W8.cell? ⟨w.heap.size + 1 + 1 + 1 + 1, 0, none⟩ = some (.bool false) := hx2.sgn
          have x1 : W8.cell? ⟨w.heap.size + 1 + 1 + 1 + 1, 1, none⟩ = some (.int .i64 e0) := hx2.cell 0 (by simp)
          have x2 : W8.cell? ⟨w.heap.size + 1 + 1 + 1 + 1, 2, none⟩ = some (.int .i64 e1) := hx2.cell 1 (by simp)
          have x3 : W8.cell? ⟨w.heap.size + 1 + 1 + 1 + 1, 3, none⟩ = some (.int .i64 e2) := hx2.cell 2 (by simp)
          have x4 : W8.cell? ⟨w.heap.size + 1 + 1 + 1 + 1, 4, none⟩ = some (.int .i64 e3) := hx2.cell 3 (by simp)
          have x5 : W8.cell? ⟨w.heap.size + 1 + 1 + 1 + 1, 5, none⟩ = some (.int .i64 e4) := hx2.cell 4 (by simp)
          have x6 : W8.cell? ⟨w.heap.size + 1 + 1 + 1 + 1, 6, none⟩ = some (.int .i64 e5) := hx2.cell 5 (by simp)
          have x7 : W8.cell? ⟨w.heap.size + 1 + 1 + 1 + 1, 7, none⟩ = some (.int .i64 e6) := hx2.cell 6 (by simp)
          have x8 : W8.cell? ⟨w.heap.size + 1 + 1 + 1 + 1, 8, none⟩ = some (.int .i64 e7) := hx2.cell 7 (by simp)
          have x9 : W8.cell? ⟨w.heap.size + 1 + 1 + 1 + 1, 9, none⟩ = some (.int .i64 e8) := hx2.cell 8 (by simp)
          have x10 : W8.cell? ⟨w.heap.size + 1 + 1 + 1 + 1, 10, none⟩ = some (.int .i64 e9) := hx2.cell 9 (by simp)
          have x11 : W8.cell? ⟨w.heap.size + 1 + 1 + 1 + 1, 11, none⟩ = some (.int .i64 e10) := hx2.cell 10 (by simp)
          have x12 : W8.cell? ⟨w.heap.size + 1 + 1 + 1 + 1, 12, none⟩ = some (.int .i64 e11) := hx2.cell 11 (by simp)
          go_upto_region 8 with fail
          clear hx2 c8 c8' c8o hV2 eD8 t1 t2 t3 t4 hbit hD eD y0 hdm1 hdm2 hR hQ HB hbt hm hj
          go_region_with (first
            | (go_at_call 37; refine (C8O.out _).mono ?_; rintro e w8 ⟨rfl, hk⟩; replace x0 : w8.cell? ⟨w.heap.size + 1 + 1 + 1 + 1, 0, none⟩ = some (.bool false) := kp_cell hk (by first | exact x0 | exact cell_d x0); replace x1 : w8.cell? ⟨w.heap.size + 1 + 1 + 1 + 1, 1, none⟩ = some (.int .i64 e0) := kp_cell hk (by first | exact x1 | exact cell_d x1); replace x2 : w8.cell? ⟨w.heap.size + 1 + 1 + 1 + 1, 2, none⟩ = some (.int .i64 e1) := kp_cell hk (by first | exact x2 | exact cell_d x2); replace x3 : w8.cell? ⟨w.heap.size + 1 + 1 + 1 + 1, 3, none⟩ = some (.int .i64 e2) := kp_cell hk (by first | exact x3 | exact cell_d x3); replace x4 : w8.cell? ⟨w.heap.size + 1 + 1 + 1 + 1, 4, none⟩ = some (.int .i64 e3) := kp_cell hk (by first | exact x4 | exact cell_d x4); replace x5 : w8.cell? ⟨w.heap.size + 1 + 1 + 1 + 1, 5, none⟩ = some (.int .i64 e4) := kp_cell hk (by first | exact x5 | exact cell_d x5); replace x6 : w8.cell? ⟨w.heap.size + 1 + 1 + 1 + 1, 6, none⟩ = some (.int .i64 e5) := kp_cell hk (by first | exact x6 | exact cell_d x6); replace x7 : w8.cell? ⟨w.heap.size + 1 + 1 + 1 + 1, 7, none⟩ = some (.int .i64 e6) := kp_cell hk (by first | exact x7 | exact cell_d x7); replace x8 : w8.cell? ⟨w.heap.size + 1 + 1 + 1 + 1, 8, none⟩ = some (.int .i64 e7) := kp_cell hk (by first | exact x8 | exact cell_d x8); replace x9 : w8.cell? ⟨w.heap.size + 1 + 1 + 1 + 1, 9, none⟩ = some (.int .i64 e8) := kp_cell hk (by first | exact x9 | exact cell_d x9); replace x10 : w8.cell? ⟨w.heap.size + 1 + 1 + 1 + 1, 10, none⟩ = some (.int .i64 e9) := kp_cell hk (by first | exact x10 | exact cell_d x10); replace x11 : w8.cell? ⟨w.heap.size + 1 + 1 + 1 + 1, 11, none⟩ = some (.int .i64 e10) := kp_cell hk (by first | exact x11 | exact cell_d x11); replace x12 : w8.cell? ⟨w.heap.size + 1 + 1 + 1 + 1, 12, none⟩ = some (.int .i64 e11) := kp_cell hk (by first | exact x12 | exact cell_d x12); replace P8 := Lib.hid (P8.out.kp (by first | exact hk | exact kp_trans (kp_drew (kp_refl _)) hk)); clear hk)
            | (go_at_call 41; refine (C8.out _).mono ?_; rintro e w9 ⟨rfl, hk⟩; replace x0 : w9.cell? ⟨w.heap.size + 1 + 1 + 1 + 1, 0, none⟩ = some (.bool false) := kp_cell hk (by first | exact x0 | exact cell_d x0); replace x1 : w9.cell? ⟨w.heap.size + 1 + 1 + 1 + 1, 1, none⟩ = some (.int .i64 e0) := kp_cell hk (by first | exact x1 | exact cell_d x1); replace x2 : w9.cell? ⟨w.heap.size + 1 + 1 + 1 + 1, 2, none⟩ = some (.int .i64 e1) := kp_cell hk (by first | exact x2 | exact cell_d x2); replace x3 : w9.cell? ⟨w.heap.size + 1 + 1 + 1 + 1, 3, none⟩ = some (.int .i64 e2) := kp_cell hk (by first | exact x3 | exact cell_d x3); replace x4 : w9.cell? ⟨w.heap.size + 1 + 1 + 1 + 1, 4, none⟩ = some (.int .i64 e3) := kp_cell hk (by first | exact x4 | exact cell_d x4); replace x5 : w9.cell? ⟨w.heap.size + 1 + 1 + 1 + 1, 5, none⟩ = some (.int .i64 e4) := kp_cell hk (by first | exact x5 | exact cell_d x5); replace x6 : w9.cell? ⟨w.heap.size + 1 + 1 + 1 + 1, 6, none⟩ = some (.int .i64 e5) := kp_cell hk (by first | exact x6 | exact cell_d x6); replace x7 : w9.cell? ⟨w.heap.size + 1 + 1 + 1 + 1, 7, none⟩ = some (.int .i64 e6) := kp_cell hk (by first | exact x7 | exact cell_d x7); replace x8 : w9.cell? ⟨w.heap.size + 1 + 1 + 1 + 1, 8, none⟩ = some (.int .i64 e7) := kp_cell hk (by first | exact x8 | exact cell_d x8); replace x9 : w9.cell? ⟨w.heap.size + 1 + 1 + 1 + 1, 9, none⟩ = some (.int .i64 e8) := kp_cell hk (by first | exact x9 | exact cell_d x9); replace x10 : w9.cell? ⟨w.heap.size + 1 + 1 + 1 + 1, 10, none⟩ = some (.int .i64 e9) := kp_cell hk (by first | exact x10 | exact cell_d x10); replace x11 : w9.cell? ⟨w.heap.size + 1 + 1 + 1 + 1, 11, none⟩ = some (.int .i64 e10) := kp_cell hk (by first | exact x11 | exact cell_d x11); replace x12 : w9.cell? ⟨w.heap.size + 1 + 1 + 1 + 1, 12, none⟩ = some (.int .i64 e11) := kp_cell hk (by first | exact x12 | exact cell_d x12); have P9 := Lib.hid (P8.out.kp (by first | exact hk | exact kp_trans (kp_drew (kp_refl _)) hk)); have hst := run_cells_num V2 P9.out.r; clear hk))
          all_goals go_wp2_with fail
          all_goals go_meet
          all_goals exact ⟨rfl, by rw [← HV2.out, numI_nat]; exact P9.out.setR _⟩
        · obtain rfl : b = 0 := by omega
          rw [decide_eq_false (by decide)] at hbt
          go_wp2_with fail
          go_meet
          exact ⟨rfl, P8.out⟩
      case rest =>
        obtain ⟨rfl, hp⟩ := hcut
        have hRb : R + R + b ≤ C + C := by omega
        have wk : IntKind.i64.wrap ((k : Int) - 1) = (k : Int) - 1 := IntWalk.i64_in _ (by omega)
        have wk2 : wrap64 ((k : Int) - 1) = (k : Int) - 1 := by rw [← IntWalk.i64_left]; exact wk
        rw [show 2 * R + b = R + R + b by omega] at hdm1 hdm2
        obtain ⟨T, hT⟩ : ∃ T, R + R + b = T := ⟨_, rfl⟩
        rw [hT] at hp hRb hdm1 hdm2
        have hTop : (T : Int) < top12 := by have := HC.out; unfold top12; omega
        have hCop : (C : Int) < top12 := by have := HC.out; unfold top12; omega
        have c9 := size_num false s' (T : Int) (C : Int) (sh12_zero (by omega) hTop) (sh12_zero (by omega) hCop)
        have HP := Lib.hid hp
        clear hp P8 y0 t1 t2 t3 t4 hbit hD eD hbt hT hmod l8 C5 C6 hm hj hTop hCop
        by_cases hlt : T < C
        · obtain ⟨e1, e2⟩ := hdm1 hlt
          rw [cmpI_lt (by omega)] at c9
          have C9 := Lib.hid c9
          clear c9 hdm1 hdm2 hlt
          go_wp2_with (first
            | ((with_reducible refine at_slot 33 ?_); refine wpList_load_row rfl 69 _ rfl (w.heap.size + 1 + 1 + 1 + 1) rfl 69 _ (0, 0) _ HP.out.r.1 Try.underlying69 rfl (info_num' (d12_length _)) ?_)
            | ((with_reducible refine at_slot 34 ?_); refine wpList_load_row rfl 69 _ rfl (w.heap.size + 1) rfl 69 _ (0, 0) _ HP.out.c.1 Try.underlying69 rfl (info_num' (d12_length _)) ?_)
            | (go_at_call 62; refine (C9.out _).mono ?_; rintro e w9 ⟨rfl, hk⟩; have P9 := Lib.hid (HP.out.kp hk); clear hk))
          go_roundw
          case rel => exact ⟨k, s', (k : Int) - 1, by omega, rfl, by omega, by rw [E.out.1, E.out.2, e1, e2]; exact P9.out⟩
          case measure => (simp [intOf]) <;> omega
        · obtain ⟨e1, e2⟩ := hdm2 (by omega)
          obtain ⟨z, hz⟩ : ∃ z, cmpI (T : Int) (C : Int) = z := ⟨_, rfl⟩
          have hz0 : 0 ≤ z := by
            rw [← hz]; rcases Nat.lt_or_ge C T with h | h
            · rw [cmpI_gt (by omega)]; omega
            · rw [cmpI_eq (by omega)]; exact Int.le_refl _
          rw [hz] at c9
          have C9 := Lib.hid c9
          clear c9 hdm1 hdm2 hz
          go_upto_region 10 with (first
            | ((with_reducible refine at_slot 33 ?_); refine wpList_load_row rfl 69 _ rfl (w.heap.size + 1 + 1 + 1 + 1) rfl 69 _ (0, 0) _ HP.out.r.1 Try.underlying69 rfl (info_num' (d12_length _)) ?_)
            | ((with_reducible refine at_slot 34 ?_); refine wpList_load_row rfl 69 _ rfl (w.heap.size + 1) rfl 69 _ (0, 0) _ HP.out.c.1 Try.underlying69 rfl (info_num' (d12_length _)) ?_)
            | (go_at_call 62; refine (C9.out _).mono ?_; rintro e w9 ⟨rfl, hk⟩; have P9 := Lib.hid (HP.out.kp hk); clear hk))
          have s9 := P9.out.c.sgn
          have f9 := P9.out.c.froz 0
          have l9 := P9.out.c.lt
          have P10 := Lib.hid (P9.out.setC false)
          go_upto_region 11 with fail
          obtain ⟨WX, hWX⟩ : ∃ W, w9.setCell ⟨w.heap.size + 1, 0, none⟩ (.bool false) = W := ⟨_, rfl⟩
          rw [hWX] at P10 ⊢
          clear hWX s9 f9 l9 P9 HP
          go_cut [9] from 10 to 44 (fun s wx => s = .int .i64 (k : Int) ∧ PS w wx p false X C (Q + Q) (T - C))
          case first =>
            obtain ⟨e0, e1, e2, e3, e4, e5, e6, e7, e8, e9, e10, e11, eDr⟩ := num12n T
            obtain ⟨g0, g1, g2, g3, g4, g5, g6, g7, g8, g9, g10, g11, eDc⟩ := num12n C
            obtain ⟨V2, hV2⟩ : ∃ V2 : Int, ((T - C : Nat) : Int) = V2 := ⟨_, rfl⟩
            have hC' := HC.out
            have cl := less_core false (C : Int) (-(C : Int)) (by omega) (by unfold top12; omega) (by simp)
            have cp := plus_any (T : Int) (-(C : Int)) (by unfold top12; omega)
            rw [numI_nat, eDr, show (T : Int) + -(C : Int) = V2 by omega] at cp
            rw [eDc] at cl
            have cl' : ∀ w : World, Calls Try.prog 44 #[.agg #[.bool false, .int .i64 g0, .int .i64 g1, .int .i64 g2, .int .i64 g3, .int .i64 g4, .int .i64 g5, .int .i64 g6, .int .i64 g7, .int .i64 g8, .int .i64 g9, .int .i64 g10, .int .i64 g11]] w fun e w' => e = .returned (.agg (numI (-(C : Int)))) ∧ Kp w w' := cl
            have cp' : ∀ w : World, Calls Try.prog 41 #[.agg #[.bool false, .int .i64 e0, .int .i64 e1, .int .i64 e2, .int .i64 e3, .int .i64 e4, .int .i64 e5, .int .i64 e6, .int .i64 e7, .int .i64 e8, .int .i64 e9, .int .i64 e10, .int .i64 e11], .agg (numI (-(C : Int)))] w fun e w' => e = .returned (.agg (numI V2)) ∧ Kp w w' := cp
            have CL := Lib.hid cl'
            have CP := Lib.hid cp'
            have HV2 := Lib.hid hV2
            have hx2 := P10.out.r
            have hy2 := P10.out.c
            rw [eDr] at hx2
            rw [eDc] at hy2
            have x0 : WX.cell? ⟨w.heap.size + 1 + 1 + 1 + 1, 0, none⟩ = some (.bool false) := hx2.sgn
            have x1 : WX.cell? ⟨w.heap.size + 1 + 1 + 1 + 1, 1, none⟩ = some (.int .i64 e0) := hx2.cell 0 (by simp)
            have x2 : WX.cell? ⟨w.heap.size + 1 + 1 + 1 + 1, 2, none⟩ = some (.int .i64 e1) := hx2.cell 1 (by simp)
            have x3 : WX.cell? ⟨w.heap.size + 1 + 1 + 1 + 1, 3, none⟩ = some (.int .i64 e2) := hx2.cell 2 (by simp)
            have x4 : WX.cell? ⟨w.heap.size + 1 + 1 + 1 + 1, 4, none⟩ = some (.int .i64 e3) := hx2.cell 3 (by simp)
            have x5 : WX.cell? ⟨w.heap.size + 1 + 1 + 1 + 1, 5, none⟩ = some (.int .i64 e4) := hx2.cell 4 (by simp)
            have x6 : WX.cell? ⟨w.heap.size + 1 + 1 + 1 + 1, 6, none⟩ = some (.int .i64 e5) := hx2.cell 5 (by simp)
            have x7 : WX.cell? ⟨w.heap.size + 1 + 1 + 1 + 1, 7, none⟩ = some (.int .i64 e6) := hx2.cell 6 (by simp)
            have x8 : WX.cell? ⟨w.heap.size + 1 + 1 + 1 + 1, 8, none⟩ = some (.int .i64 e7) := hx2.cell 7 (by simp)
            have x9 : WX.cell? ⟨w.heap.size + 1 + 1 + 1 + 1, 9, none⟩ = some (.int .i64 e8) := hx2.cell 8 (by simp)
            have x10 : WX.cell? ⟨w.heap.size + 1 + 1 + 1 + 1, 10, none⟩ = some (.int .i64 e9) := hx2.cell 9 (by simp)
            have x11 : WX.cell? ⟨w.heap.size + 1 + 1 + 1 + 1, 11, none⟩ = some (.int .i64 e10) := hx2.cell 10 (by simp)
            have x12 : WX.cell? ⟨w.heap.size + 1 + 1 + 1 + 1, 12, none⟩ = some (.int .i64 e11) := hx2.cell 11 (by simp)
            have y0 : WX.cell? ⟨w.heap.size + 1, 0, none⟩ = some (.bool false) := hy2.sgn
            have y1 : WX.cell? ⟨w.heap.size + 1, 1, none⟩ = some (.int .i64 g0) := hy2.cell 0 (by simp)
            have y2 : WX.cell? ⟨w.heap.size + 1, 2, none⟩ = some (.int .i64 g1) := hy2.cell 1 (by simp)
            have y3 : WX.cell? ⟨w.heap.size + 1, 3, none⟩ = some (.int .i64 g2) := hy2.cell 2 (by simp)
            have y4 : WX.cell? ⟨w.heap.size + 1, 4, none⟩ = some (.int .i64 g3) := hy2.cell 3 (by simp)
            have y5 : WX.cell? ⟨w.heap.size + 1, 5, none⟩ = some (.int .i64 g4) := hy2.cell 4 (by simp)
            have y6 : WX.cell? ⟨w.heap.size + 1, 6, none⟩ = some (.int .i64 g5) := hy2.cell 5 (by simp)
            have y7 : WX.cell? ⟨w.heap.size + 1, 7, none⟩ = some (.int .i64 g6) := hy2.cell 6 (by simp)
            have y8 : WX.cell? ⟨w.heap.size + 1, 8, none⟩ = some (.int .i64 g7) := hy2.cell 7 (by simp)
            have y9 : WX.cell? ⟨w.heap.size + 1, 9, none⟩ = some (.int .i64 g8) := hy2.cell 8 (by simp)
            have y10 : WX.cell? ⟨w.heap.size + 1, 10, none⟩ = some (.int .i64 g9) := hy2.cell 9 (by simp)
            have y11 : WX.cell? ⟨w.heap.size + 1, 11, none⟩ = some (.int .i64 g10) := hy2.cell 10 (by simp)
            have y12 : WX.cell? ⟨w.heap.size + 1, 12, none⟩ = some (.int .i64 g11) := hy2.cell 11 (by simp)
            clear hx2 hy2 cl cp cl' cp' hV2 eDr eDc hR hQ hRb hC'
            go_region_with (first
              | (go_at_call 44; refine (CL.out _).mono ?_; rintro e w11 ⟨rfl, hk⟩; replace x0 : w11.cell? ⟨w.heap.size + 1 + 1 + 1 + 1, 0, none⟩ = some (.bool false) := kp_cell hk (by first | exact x0 | exact cell_d x0); replace x1 : w11.cell? ⟨w.heap.size + 1 + 1 + 1 + 1, 1, none⟩ = some (.int .i64 e0) := kp_cell hk (by first | exact x1 | exact cell_d x1); replace x2 : w11.cell? ⟨w.heap.size + 1 + 1 + 1 + 1, 2, none⟩ = some (.int .i64 e1) := kp_cell hk (by first | exact x2 | exact cell_d x2); replace x3 : w11.cell? ⟨w.heap.size + 1 + 1 + 1 + 1, 3, none⟩ = some (.int .i64 e2) := kp_cell hk (by first | exact x3 | exact cell_d x3); replace x4 : w11.cell? ⟨w.heap.size + 1 + 1 + 1 + 1, 4, none⟩ = some (.int .i64 e3) := kp_cell hk (by first | exact x4 | exact cell_d x4); replace x5 : w11.cell? ⟨w.heap.size + 1 + 1 + 1 + 1, 5, none⟩ = some (.int .i64 e4) := kp_cell hk (by first | exact x5 | exact cell_d x5); replace x6 : w11.cell? ⟨w.heap.size + 1 + 1 + 1 + 1, 6, none⟩ = some (.int .i64 e5) := kp_cell hk (by first | exact x6 | exact cell_d x6); replace x7 : w11.cell? ⟨w.heap.size + 1 + 1 + 1 + 1, 7, none⟩ = some (.int .i64 e6) := kp_cell hk (by first | exact x7 | exact cell_d x7); replace x8 : w11.cell? ⟨w.heap.size + 1 + 1 + 1 + 1, 8, none⟩ = some (.int .i64 e7) := kp_cell hk (by first | exact x8 | exact cell_d x8); replace x9 : w11.cell? ⟨w.heap.size + 1 + 1 + 1 + 1, 9, none⟩ = some (.int .i64 e8) := kp_cell hk (by first | exact x9 | exact cell_d x9); replace x10 : w11.cell? ⟨w.heap.size + 1 + 1 + 1 + 1, 10, none⟩ = some (.int .i64 e9) := kp_cell hk (by first | exact x10 | exact cell_d x10); replace x11 : w11.cell? ⟨w.heap.size + 1 + 1 + 1 + 1, 11, none⟩ = some (.int .i64 e10) := kp_cell hk (by first | exact x11 | exact cell_d x11); replace x12 : w11.cell? ⟨w.heap.size + 1 + 1 + 1 + 1, 12, none⟩ = some (.int .i64 e11) := kp_cell hk (by first | exact x12 | exact cell_d x12); replace y0 : w11.cell? ⟨w.heap.size + 1, 0, none⟩ = some (.bool false) := kp_cell hk (by first | exact y0 | exact cell_d y0); replace y1 : w11.cell? ⟨w.heap.size + 1, 1, none⟩ = some (.int .i64 g0) := kp_cell hk (by first | exact y1 | exact cell_d y1); replace y2 : w11.cell? ⟨w.heap.size + 1, 2, none⟩ = some (.int .i64 g1) := kp_cell hk (by first | exact y2 | exact cell_d y2); replace y3 : w11.cell? ⟨w.heap.size + 1, 3, none⟩ = some (.int .i64 g2) := kp_cell hk (by first | exact y3 | exact cell_d y3); replace y4 : w11.cell? ⟨w.heap.size + 1, 4, none⟩ = some (.int .i64 g3) := kp_cell hk (by first | exact y4 | exact cell_d y4); replace y5 : w11.cell? ⟨w.heap.size + 1, 5, none⟩ = some (.int .i64 g4) := kp_cell hk (by first | exact y5 | exact cell_d y5); replace y6 : w11.cell? ⟨w.heap.size + 1, 6, none⟩ = some (.int .i64 g5) := kp_cell hk (by first | exact y6 | exact cell_d y6); replace y7 : w11.cell? ⟨w.heap.size + 1, 7, none⟩ = some (.int .i64 g6) := kp_cell hk (by first | exact y7 | exact cell_d y7); replace y8 : w11.cell? ⟨w.heap.size + 1, 8, none⟩ = some (.int .i64 g7) := kp_cell hk (by first | exact y8 | exact cell_d y8); replace y9 : w11.cell? ⟨w.heap.size + 1, 9, none⟩ = some (.int .i64 g8) := kp_cell hk (by first | exact y9 | exact cell_d y9); replace y10 : w11.cell? ⟨w.heap.size + 1, 10, none⟩ = some (.int .i64 g9) := kp_cell hk (by first | exact y10 | exact cell_d y10); replace y11 : w11.cell? ⟨w.heap.size + 1, 11, none⟩ = some (.int .i64 g10) := kp_cell hk (by first | exact y11 | exact cell_d y11); replace y12 : w11.cell? ⟨w.heap.size + 1, 12, none⟩ = some (.int .i64 g11) := kp_cell hk (by first | exact y12 | exact cell_d y12); replace P10 := Lib.hid (P10.out.kp (by first | exact hk | exact kp_trans (kp_drew (kp_refl _)) hk)); clear hk)
              | (go_at_call 41; refine (CP.out _).mono ?_; rintro e w12 ⟨rfl, hk⟩; replace x0 : w12.cell? ⟨w.heap.size + 1 + 1 + 1 + 1, 0, none⟩ = some (.bool false) := kp_cell hk (by first | exact x0 | exact cell_d x0); replace x1 : w12.cell? ⟨w.heap.size + 1 + 1 + 1 + 1, 1, none⟩ = some (.int .i64 e0) := kp_cell hk (by first | exact x1 | exact cell_d x1); replace x2 : w12.cell? ⟨w.heap.size + 1 + 1 + 1 + 1, 2, none⟩ = some (.int .i64 e1) := kp_cell hk (by first | exact x2 | exact cell_d x2); replace x3 : w12.cell? ⟨w.heap.size + 1 + 1 + 1 + 1, 3, none⟩ = some (.int .i64 e2) := kp_cell hk (by first | exact x3 | exact cell_d x3); replace x4 : w12.cell? ⟨w.heap.size + 1 + 1 + 1 + 1, 4, none⟩ = some (.int .i64 e3) := kp_cell hk (by first | exact x4 | exact cell_d x4); replace x5 : w12.cell? ⟨w.heap.size + 1 + 1 + 1 + 1, 5, none⟩ = some (.int .i64 e4) := kp_cell hk (by first | exact x5 | exact cell_d x5); replace x6 : w12.cell? ⟨w.heap.size + 1 + 1 + 1 + 1, 6, none⟩ = some (.int .i64 e5) := kp_cell hk (by first | exact x6 | exact cell_d x6); replace x7 : w12.cell? ⟨w.heap.size + 1 + 1 + 1 + 1, 7, none⟩ = some (.int .i64 e6) := kp_cell hk (by first | exact x7 | exact cell_d x7); replace x8 : w12.cell? ⟨w.heap.size + 1 + 1 + 1 + 1, 8, none⟩ = some (.int .i64 e7) := kp_cell hk (by first | exact x8 | exact cell_d x8); replace x9 : w12.cell? ⟨w.heap.size + 1 + 1 + 1 + 1, 9, none⟩ = some (.int .i64 e8) := kp_cell hk (by first | exact x9 | exact cell_d x9); replace x10 : w12.cell? ⟨w.heap.size + 1 + 1 + 1 + 1, 10, none⟩ = some (.int .i64 e9) := kp_cell hk (by first | exact x10 | exact cell_d x10); replace x11 : w12.cell? ⟨w.heap.size + 1 + 1 + 1 + 1, 11, none⟩ = some (.int .i64 e10) := kp_cell hk (by first | exact x11 | exact cell_d x11); replace x12 : w12.cell? ⟨w.heap.size + 1 + 1 + 1 + 1, 12, none⟩ = some (.int .i64 e11) := kp_cell hk (by first | exact x12 | exact cell_d x12); replace y0 : w12.cell? ⟨w.heap.size + 1, 0, none⟩ = some (.bool false) := kp_cell hk (by first | exact y0 | exact cell_d y0); replace y1 : w12.cell? ⟨w.heap.size + 1, 1, none⟩ = some (.int .i64 g0) := kp_cell hk (by first | exact y1 | exact cell_d y1); replace y2 : w12.cell? ⟨w.heap.size + 1, 2, none⟩ = some (.int .i64 g1) := kp_cell hk (by first | exact y2 | exact cell_d y2); replace y3 : w12.cell? ⟨w.heap.size + 1, 3, none⟩ = some (.int .i64 g2) := kp_cell hk (by first | exact y3 | exact cell_d y3); replace y4 : w12.cell? ⟨w.heap.size + 1, 4, none⟩ = some (.int .i64 g3) := kp_cell hk (by first | exact y4 | exact cell_d y4); replace y5 : w12.cell? ⟨w.heap.size + 1, 5, none⟩ = some (.int .i64 g4) := kp_cell hk (by first | exact y5 | exact cell_d y5); replace y6 : w12.cell? ⟨w.heap.size + 1, 6, none⟩ = some (.int .i64 g5) := kp_cell hk (by first | exact y6 | exact cell_d y6); replace y7 : w12.cell? ⟨w.heap.size + 1, 7, none⟩ = some (.int .i64 g6) := kp_cell hk (by first | exact y7 | exact cell_d y7); replace y8 : w12.cell? ⟨w.heap.size + 1, 8, none⟩ = some (.int .i64 g7) := kp_cell hk (by first | exact y8 | exact cell_d y8); replace y9 : w12.cell? ⟨w.heap.size + 1, 9, none⟩ = some (.int .i64 g8) := kp_cell hk (by first | exact y9 | exact cell_d y9); replace y10 : w12.cell? ⟨w.heap.size + 1, 10, none⟩ = some (.int .i64 g9) := kp_cell hk (by first | exact y10 | exact cell_d y10); replace y11 : w12.cell? ⟨w.heap.size + 1, 11, none⟩ = some (.int .i64 g10) := kp_cell hk (by first | exact y11 | exact cell_d y11); replace y12 : w12.cell? ⟨w.heap.size + 1, 12, none⟩ = some (.int .i64 g11) := kp_cell hk (by first | exact y12 | exact cell_d y12); have P12 := Lib.hid (P10.out.kp (by first | exact hk | exact kp_trans (kp_drew (kp_refl _)) hk)); have hst := run_cells_num V2 P12.out.r; clear hk))
            all_goals go_wp2_with fail
            all_goals go_meet
            all_goals exact ⟨rfl, by rw [← HV2.out, numI_nat]; exact P12.out.setR _⟩
          case rest =>
            obtain ⟨rfl, hp⟩ := hcut
            obtain ⟨f0, f1, f2, f3, f4, f5, f6, f7, f8, f9, f10, f11, eDq⟩ := num12n (Q + Q)
            obtain ⟨V3, hV3⟩ : ∃ V3 : Int, ((Q + Q + 1 : Nat) : Int) = V3 := ⟨_, rfl⟩
            have cq := plus_any ((Q + Q : Nat) : Int) 1 (by unfold top12; omega)
            rw [numI_nat, eDq, show ((Q + Q : Nat) : Int) + 1 = V3 by omega] at cq
            have cq' : ∀ w : World, Calls Try.prog 41 #[.agg #[.bool false, .int .i64 f0, .int .i64 f1, .int .i64 f2, .int .i64 f3, .int .i64 f4, .int .i64 f5, .int .i64 f6, .int .i64 f7, .int .i64 f8, .int .i64 f9, .int .i64 f10, .int .i64 f11], .agg (numI 1)] w fun e w' => e = .returned (.agg (numI V3)) ∧ Kp w w' := cq
            have co : ∀ w : World, Calls Try.prog 37 #[.int .i64 1] w fun e w' => e = .returned (.agg (numI 1)) ∧ Kp w w' := fun w => of_any 1 (by unfold I64; omega) w
            have CQ := Lib.hid cq'
            have CO := Lib.hid co
            have HV3 := Lib.hid hV3
            have HE := Lib.hid (And.intro e1 e2)
            have hx3 := hp.q
            rw [eDq] at hx3
            have z0 : wc.cell? ⟨w.heap.size + 1 + 1 + 1, 0, none⟩ = some (.bool false) := hx3.sgn
            have z1 : wc.cell? ⟨w.heap.size + 1 + 1 + 1, 1, none⟩ = some (.int .i64 f0) := hx3.cell 0 (by simp)
            have z2 : wc.cell? ⟨w.heap.size + 1 + 1 + 1, 2, none⟩ = some (.int .i64 f1) := hx3.cell 1 (by simp)
            have z3 : wc.cell? ⟨w.heap.size + 1 + 1 + 1, 3, none⟩ = some (.int .i64 f2) := hx3.cell 2 (by simp)
            have z4 : wc.cell? ⟨w.heap.size + 1 + 1 + 1, 4, none⟩ = some (.int .i64 f3) := hx3.cell 3 (by simp)
            have z5 : wc.cell? ⟨w.heap.size + 1 + 1 + 1, 5, none⟩ = some (.int .i64 f4) := hx3.cell 4 (by simp)
            have z6 : wc.cell? ⟨w.heap.size + 1 + 1 + 1, 6, none⟩ = some (.int .i64 f5) := hx3.cell 5 (by simp)
            have z7 : wc.cell? ⟨w.heap.size + 1 + 1 + 1, 7, none⟩ = some (.int .i64 f6) := hx3.cell 6 (by simp)
            have z8 : wc.cell? ⟨w.heap.size + 1 + 1 + 1, 8, none⟩ = some (.int .i64 f7) := hx3.cell 7 (by simp)
            have z9 : wc.cell? ⟨w.heap.size + 1 + 1 + 1, 9, none⟩ = some (.int .i64 f8) := hx3.cell 8 (by simp)
            have z10 : wc.cell? ⟨w.heap.size + 1 + 1 + 1, 10, none⟩ = some (.int .i64 f9) := hx3.cell 9 (by simp)
            have z11 : wc.cell? ⟨w.heap.size + 1 + 1 + 1, 11, none⟩ = some (.int .i64 f10) := hx3.cell 10 (by simp)
            have z12 : wc.cell? ⟨w.heap.size + 1 + 1 + 1, 12, none⟩ = some (.int .i64 f11) := hx3.cell 11 (by simp)
            have P13 := Lib.hid hp
            clear hx3 hp cq cq' co hV3 eDq hR hQ hRb P10 e1 e2
            go_upto_region 12 with fail
            go_region_with (first
              | (go_at_call 37; refine (CO.out _).mono ?_; rintro e w14 ⟨rfl, hk⟩; replace z0 : w14.cell? ⟨w.heap.size + 1 + 1 + 1, 0, none⟩ = some (.bool false) := kp_cell hk (by first | exact z0 | exact cell_d z0); replace z1 : w14.cell? ⟨w.heap.size + 1 + 1 + 1, 1, none⟩ = some (.int .i64 f0) := kp_cell hk (by first | exact z1 | exact cell_d z1); replace z2 : w14.cell? ⟨w.heap.size + 1 + 1 + 1, 2, none⟩ = some (.int .i64 f1) := kp_cell hk (by first | exact z2 | exact cell_d z2); replace z3 : w14.cell? ⟨w.heap.size + 1 + 1 + 1, 3, none⟩ = some (.int .i64 f2) := kp_cell hk (by first | exact z3 | exact cell_d z3); replace z4 : w14.cell? ⟨w.heap.size + 1 + 1 + 1, 4, none⟩ = some (.int .i64 f3) := kp_cell hk (by first | exact z4 | exact cell_d z4); replace z5 : w14.cell? ⟨w.heap.size + 1 + 1 + 1, 5, none⟩ = some (.int .i64 f4) := kp_cell hk (by first | exact z5 | exact cell_d z5); replace z6 : w14.cell? ⟨w.heap.size + 1 + 1 + 1, 6, none⟩ = some (.int .i64 f5) := kp_cell hk (by first | exact z6 | exact cell_d z6); replace z7 : w14.cell? ⟨w.heap.size + 1 + 1 + 1, 7, none⟩ = some (.int .i64 f6) := kp_cell hk (by first | exact z7 | exact cell_d z7); replace z8 : w14.cell? ⟨w.heap.size + 1 + 1 + 1, 8, none⟩ = some (.int .i64 f7) := kp_cell hk (by first | exact z8 | exact cell_d z8); replace z9 : w14.cell? ⟨w.heap.size + 1 + 1 + 1, 9, none⟩ = some (.int .i64 f8) := kp_cell hk (by first | exact z9 | exact cell_d z9); replace z10 : w14.cell? ⟨w.heap.size + 1 + 1 + 1, 10, none⟩ = some (.int .i64 f9) := kp_cell hk (by first | exact z10 | exact cell_d z10); replace z11 : w14.cell? ⟨w.heap.size + 1 + 1 + 1, 11, none⟩ = some (.int .i64 f10) := kp_cell hk (by first | exact z11 | exact cell_d z11); replace z12 : w14.cell? ⟨w.heap.size + 1 + 1 + 1, 12, none⟩ = some (.int .i64 f11) := kp_cell hk (by first | exact z12 | exact cell_d z12); replace P13 := Lib.hid (P13.out.kp (by first | exact hk | exact kp_trans (kp_drew (kp_refl _)) hk)); clear hk)
              | (go_at_call 41; refine (CQ.out _).mono ?_; rintro e w15 ⟨rfl, hk⟩; replace z0 : w15.cell? ⟨w.heap.size + 1 + 1 + 1, 0, none⟩ = some (.bool false) := kp_cell hk (by first | exact z0 | exact cell_d z0); replace z1 : w15.cell? ⟨w.heap.size + 1 + 1 + 1, 1, none⟩ = some (.int .i64 f0) := kp_cell hk (by first | exact z1 | exact cell_d z1); replace z2 : w15.cell? ⟨w.heap.size + 1 + 1 + 1, 2, none⟩ = some (.int .i64 f1) := kp_cell hk (by first | exact z2 | exact cell_d z2); replace z3 : w15.cell? ⟨w.heap.size + 1 + 1 + 1, 3, none⟩ = some (.int .i64 f2) := kp_cell hk (by first | exact z3 | exact cell_d z3); replace z4 : w15.cell? ⟨w.heap.size + 1 + 1 + 1, 4, none⟩ = some (.int .i64 f3) := kp_cell hk (by first | exact z4 | exact cell_d z4); replace z5 : w15.cell? ⟨w.heap.size + 1 + 1 + 1, 5, none⟩ = some (.int .i64 f4) := kp_cell hk (by first | exact z5 | exact cell_d z5); replace z6 : w15.cell? ⟨w.heap.size + 1 + 1 + 1, 6, none⟩ = some (.int .i64 f5) := kp_cell hk (by first | exact z6 | exact cell_d z6); replace z7 : w15.cell? ⟨w.heap.size + 1 + 1 + 1, 7, none⟩ = some (.int .i64 f6) := kp_cell hk (by first | exact z7 | exact cell_d z7); replace z8 : w15.cell? ⟨w.heap.size + 1 + 1 + 1, 8, none⟩ = some (.int .i64 f7) := kp_cell hk (by first | exact z8 | exact cell_d z8); replace z9 : w15.cell? ⟨w.heap.size + 1 + 1 + 1, 9, none⟩ = some (.int .i64 f8) := kp_cell hk (by first | exact z9 | exact cell_d z9); replace z10 : w15.cell? ⟨w.heap.size + 1 + 1 + 1, 10, none⟩ = some (.int .i64 f9) := kp_cell hk (by first | exact z10 | exact cell_d z10); replace z11 : w15.cell? ⟨w.heap.size + 1 + 1 + 1, 11, none⟩ = some (.int .i64 f10) := kp_cell hk (by first | exact z11 | exact cell_d z11); replace z12 : w15.cell? ⟨w.heap.size + 1 + 1 + 1, 12, none⟩ = some (.int .i64 f11) := kp_cell hk (by first | exact z12 | exact cell_d z12); have P15 := Lib.hid (P13.out.kp (by first | exact hk | exact kp_trans (kp_drew (kp_refl _)) hk)); have hst := run_cells_num V3 P15.out.q; clear hk))
            all_goals go_wp2_with fail
            all_goals go_roundw
            all_goals first
              | exact ⟨k, false, (k : Int) - 1, by omega, rfl, by omega, by rw [E.out.1, E.out.2, HE.out.1, HE.out.2, ← HV3.out, numI_nat]; exact P15.out.setQ _⟩
              | ((simp [intOf]) <;> omega)
end Go.Proofs.Ytcmijedhjebpkaa
