/- Contract of the reference's meets. -/
import Derived.Test.YtcpbemoiodbliaaRG1
import Derived.Test.YtcpbemoiodbliaaMP
import Derived.Test.YtcpbemoiodbliaaD3
namespace Go.Proofs.Ytcpbemoiodbliaa
open Go.RowKit Go.Proofs.Geo
set_option linter.unusedVariables false
set_option maxHeartbeats 8000000 in
set_option maxRecDepth 100000 in
theorem meets9_any (b off len cap : Nat) (l : List Pt) (i : Nat) (w : World) (hp : PtsAt w b off l) (hlen : len = l.length) (hi : i < len) (hl : len ≤ 100000) : Calls Try.prog 41 #[.slice (some ⟨b, off, none⟩) len cap, .int .i64 (i : Int)] w fun e w' => e = .returned (.bool (meetB l i)) ∧ Kp w w' := by
  have HP := Lib.hid hp
  have HL := Lib.hid hlen
  have hil : i < l.length := by omega
  have ca := fun (j : Int) (w : World) hp => rat9_any b off len cap l j w hp hlen (by omega) hl
  have HC := Lib.hid ca
  obtain ⟨x, hx⟩ : ∃ x, (pt l i).1 = x := ⟨_, rfl⟩
  obtain ⟨y, hy⟩ : ∃ x, (pt l i).2 = x := ⟨_, rfl⟩
  have hpi : pt l i = (x, y) := by rw [← hx, ← hy]
  obtain ⟨ax, hax⟩ : ∃ x, (rat l ((i : Int) + 1)).1 = x := ⟨_, rfl⟩
  obtain ⟨ay, hay⟩ : ∃ x, (rat l ((i : Int) + 1)).2 = x := ⟨_, rfl⟩
  have hpa : rat l ((i : Int) + 1) = (ax, ay) := by rw [← hax, ← hay]
  have HPI := Lib.hid hpi
  have HPA := Lib.hid hpa
  clear hp hlen ca hx hy hax hay hpi hpa
  go_enter Try.func41, Try.ntmps41
  go_wp2_with fail
  go_loopw [5] (fun s wr => ∃ k : Nat, i + 2 ≤ k ∧ k ≤ len + 1 ∧ s = .int .i64 k ∧ Kp w wr ∧ ∀ j, j < k → hitB l i j = false) (fun s _ => len + 1 - (intOf s).toNat)
  case atStart =>
    refine ⟨i + 2, by omega, by omega, by go_num, kp_refl _, fun j hj => ?_⟩
    unfold hitB skipB
    rw [decide_eq_true hj]; rfl
  case round =>
    obtain ⟨k, hk1, hk2, rfl, hkp, hall⟩ := hrel
    have HA := Lib.hid hall
    have HK := Lib.hid hkp
    clear hall
    by_cases hlt : k < len
    · have hkl : k < l.length := by rw [← HL.out]; exact hlt
      have hnext : hitB l i k = false → ∀ j, j < k + 1 → hitB l i j = false := fun h j hj => by
        by_cases e : j = k
        · subst e; exact h
        · exact HA.out j (by omega)
      have HN := Lib.hid hnext
      clear hnext
      by_cases hsk : i = 0 ∧ k + 1 = len
      · obtain ⟨h0, h1⟩ := hsk
        have hh : hitB l i k = false := by unfold hitB skipB; rw [← HL.out, decide_eq_true h0, decide_eq_true h1]; simp
        have HH := Lib.hid hh
        have t1 : ((i : Int) == 0) = true := by simp [h0]
        have t2 : ((k : Int) == (len : Int) - 1) = true := by simp; omega
        have wk : IntKind.i64.wrap ((len : Int) - 1) = (len : Int) - 1 := IntWalk.i64_in _ (by omega)
        clear hh h0 h1 hkp
        go_wp2_with fail
        exact ⟨⟨k + 1, by omega, by omega, by go_num, HK.out, HN.out HH.out⟩, by simp [intOf]; omega⟩
      · have hskb : skipB l.length i k = false := by
          unfold skipB; rw [← HL.out, decide_eq_false (by omega)]
          by_cases h0 : i = 0
          · rw [decide_eq_true h0, decide_eq_false (fun e => hsk ⟨h0, e⟩)]; rfl
          · rw [decide_eq_false h0]; rfl
        obtain ⟨y0, y1⟩ := pt_lt (HP.out.kp hkp) hil
        obtain ⟨v0, v1⟩ := pt_lt (HP.out.kp hkp) hkl
        rw [HPI.out] at y0 y1
        dsimp only at y0 y1
        obtain ⟨z, hz⟩ : ∃ x, (pt l k).1 = x := ⟨_, rfl⟩
        obtain ⟨u, hu⟩ : ∃ x, (pt l k).2 = x := ⟨_, rfl⟩
        have hpk : pt l k = (z, u) := by rw [← hz, ← hu]
        rw [hz] at v0; rw [hu] at v1
        obtain ⟨bx, hbx⟩ : ∃ x, (rat l ((k : Int) + 1)).1 = x := ⟨_, rfl⟩
        obtain ⟨bY, hby⟩ : ∃ x, (rat l ((k : Int) + 1)).2 = x := ⟨_, rfl⟩
        have hpb : rat l ((k : Int) + 1) = (bx, bY) := by rw [← hbx, ← hby]
        have ca := HC.out ((i : Int) + 1)
        have cb := HC.out ((k : Int) + 1)
        rw [HPA.out] at ca
        rw [hpb] at cb
        dsimp only at ca cb
        have cm := fun w => rmeets_any x y ax ay z u bx bY w
        obtain ⟨M, hM⟩ : ∃ M, meets (x, y) (ax, ay) (z, u) (bx, bY) = M := ⟨_, rfl⟩
        have hhit : hitB l i k = decide (M ≠ 0) := by unfold hitB; rw [hskb, HPI.out, HPA.out, hpk, hpb, hM]; rfl
        rw [hM] at cm
        have CA := Lib.hid ca; have CB := Lib.hid cb; have CM := Lib.hid cm; have HHIT := Lib.hid hhit
        have lb : b < wr.heap.size := cell_lt y0
        have c1 : (0 : Int) ≤ (i : Int) := by omega
        have c2 : (i : Int) < (len : Int) := by omega
        have c3 : (0 : Int) ≤ (k : Int) := by omega
        have c4 : (k : Int) < (len : Int) := by omega
        have wk : IntKind.i64.wrap ((len : Int) - 1) = (len : Int) - 1 := IntWalk.i64_in _ (by omega)
        have wk1 : IntKind.i64.wrap ((i : Int) + 1) = (i : Int) + 1 := IntWalk.i64_in _ (by omega)
        have wk2 : IntKind.i64.wrap ((k : Int) + 1) = (k : Int) + 1 := IntWalk.i64_in _ (by omega)
        have K : Kp wr wr := kp_refl _
        have hcase : (((i : Int) == 0) = true ∧ ((k : Int) == (len : Int) - 1) = false) ∨ ((i : Int) == 0) = false := by
          by_cases h0 : i = 0
          · left; exact ⟨by simp [h0], by simp; omega⟩
          · right; simp; omega
        clear ca cb cm hhit hM hz hu hpk hbx hby hpb hkp hsk hskb
        rcases hcase with ⟨t1, t2⟩ | t1
        all_goals
          go_upto_region 5 with fail
          go_region_held3 (fun w' => Kp wr w' ∧ w'.cell? ⟨b, off + i * 2, none⟩ = some (.int .i64 x) ∧ w'.cell? ⟨b, off + i * 2 + 1, none⟩ = some (.int .i64 y) ∧ w'.cell? ⟨b, off + k * 2, none⟩ = some (.int .i64 z) ∧ w'.cell? ⟨b, off + k * 2 + 1, none⟩ = some (.int .i64 u)) ((first | exact ⟨K, y0, y1, v0, v1⟩ | exact ⟨kp_drew K, cell_d y0, cell_d y1, cell_d v0, cell_d v1⟩))
            (first
              | (go_at_call 54; have CM1 := KA2; refine (CB.out _ (HP.out.kp (kp_trans HK.out K))).mono ?_; rintro e w3 ⟨rfl, hk⟩; replace y0 : w3.cell? ⟨b, off + i * 2, none⟩ = some (.int .i64 x) := kp_cell hk (by first | exact y0 | exact cell_d y0); replace y1 : w3.cell? ⟨b, off + i * 2 + 1, none⟩ = some (.int .i64 y) := kp_cell hk (by first | exact y1 | exact cell_d y1); replace v0 : w3.cell? ⟨b, off + k * 2, none⟩ = some (.int .i64 z) := kp_cell hk (by first | exact v0 | exact cell_d v0); replace v1 : w3.cell? ⟨b, off + k * 2 + 1, none⟩ = some (.int .i64 u) := kp_cell hk (by first | exact v1 | exact cell_d v1); replace K : Kp wr w3 := kp_trans (by first | exact K | exact kp_drew K) hk; replace lb : b < w3.heap.size := cell_lt y0; clear hk)
              | (go_at_call 54; refine (CA.out _ (HP.out.kp (kp_trans HK.out (by first | exact K | exact kp_drew K)))).mono ?_; rintro e w2 ⟨rfl, hk⟩; replace y0 : w2.cell? ⟨b, off + i * 2, none⟩ = some (.int .i64 x) := kp_cell hk (by first | exact y0 | exact cell_d y0); replace y1 : w2.cell? ⟨b, off + i * 2 + 1, none⟩ = some (.int .i64 y) := kp_cell hk (by first | exact y1 | exact cell_d y1); replace v0 : w2.cell? ⟨b, off + k * 2, none⟩ = some (.int .i64 z) := kp_cell hk (by first | exact v0 | exact cell_d v0); replace v1 : w2.cell? ⟨b, off + k * 2 + 1, none⟩ = some (.int .i64 u) := kp_cell hk (by first | exact v1 | exact cell_d v1); replace K : Kp wr w2 := kp_trans (by first | exact K | exact kp_drew K) hk; replace lb : b < w2.heap.size := cell_lt y0; have KA2 := Lib.hid K; clear hk)
              | (go_at_call 65; refine (CM.out _).mono ?_; rintro e w4 ⟨rfl, hk⟩; replace y0 : w4.cell? ⟨b, off + i * 2, none⟩ = some (.int .i64 x) := kp_cell hk (by first | exact y0 | exact cell_d y0); replace y1 : w4.cell? ⟨b, off + i * 2 + 1, none⟩ = some (.int .i64 y) := kp_cell hk (by first | exact y1 | exact cell_d y1); replace v0 : w4.cell? ⟨b, off + k * 2, none⟩ = some (.int .i64 z) := kp_cell hk (by first | exact v0 | exact cell_d v0); replace v1 : w4.cell? ⟨b, off + k * 2 + 1, none⟩ = some (.int .i64 u) := kp_cell hk (by first | exact v1 | exact cell_d v1); replace K : Kp wr w4 := kp_trans (by first | exact K | exact kp_drew K) hk; replace lb : b < w4.heap.size := cell_lt y0; clear hk))
          have HKK := Lib.hid (kp_trans HK.out K)
          by_cases hM : M = 0
          · have tm : (M != 0) = false := by simp [hM]
            have HH := Lib.hid (show hitB l i k = false by rw [HHIT.out]; simp [hM])
            clear hM K
            go_wp2_with fail
            exact ⟨⟨k + 1, by omega, by omega, by go_num, HKK.out, HN.out HH.out⟩, by simp [intOf]; omega⟩
          · have tm : (M != 0) = true := by simpa using hM
            have HH := Lib.hid (show meetB l i = true from any_range_true hkl (by rw [HHIT.out]; exact decide_eq_true hM))
            clear hM K
            go_wp2_with fail
            go_ret
            exact ⟨by rw [HH.out]; rfl, HKK.out⟩
    · have ht : meetB l i = false := any_range_false (fun j hj => HA.out j (by rw [← HL.out] at hj; omega))
      have HT := Lib.hid ht
      have tlt : decide (k < len) = false := decide_eq_false hlt
      clear ht hkp
      go_wp2_with fail
      go_ret
      exact ⟨by rw [HT.out]; rfl, HK.out⟩
end Go.Proofs.Ytcpbemoiodbliaa
