/- The walk of PointBounds. -/
import Derived.Test.YtjgphjhanoakkaaPM
import Derived.Test.YtjgphjhanoakkaaB2
import Derived.Test.YtjgphjhanoakkaaWP
import Derived.Test.YtjgphjhanoakkaaA
import Derived.Test.YtjgphjhanoakkaaSidePlain
import Derived.Deep.DeepCutAuto
import Derived.Deep.RegionHeld3
namespace Go.Proofs.Ytjgphjhanoakkaa
open Go.RowKit Go.Proofs.Geo

/-- The four boxes that are less. -/
def Sides (w : World) (B : Nat) (b : Bx) : Prop := ∀ n, n < 4 → w.cell? ⟨B, n * 4, none⟩ = some (.int .i64 (sideB b n).1) ∧ w.cell? ⟨B, n * 4 + 1, none⟩ = some (.int .i64 (sideB b n).2.1) ∧ w.cell? ⟨B, n * 4 + 2, none⟩ = some (.int .i64 (sideB b n).2.2.1) ∧ w.cell? ⟨B, n * 4 + 3, none⟩ = some (.int .i64 (sideB b n).2.2.2)
theorem Sides.kp {w w' : World} {B : Nat} {b : Bx} (h : Sides w B b) (k : Kp w w') : Sides w' B b := fun n hn => ⟨kp_cell k (h n hn).1, kp_cell k (h n hn).2.1, kp_cell k (h n hn).2.2.1, kp_cell k (h n hn).2.2.2⟩
theorem bounds_is {l : List Pt} {lx ly hx hy : Int} (hb : bndOk l = true) (e : bndB l = (lx, ly, hx, hy)) (v : Value) (w : World) (h : RdC w v l) : Calls Try.prog 23 #[v] w fun e w' => e = .returned (.tuple #[.agg #[.int .i64 lx, .int .i64 ly, .int .i64 hx, .int .i64 hy], .bool true]) ∧ Kp w w' := by
  refine (bounds_rdC v _ w h).mono ?_
  rintro _ w' ⟨rfl, hk⟩
  rw [e, hb]; exact ⟨rfl, hk⟩
theorem bounds_not {l : List Pt} (hb : bndOk l = false) (v : Value) (w : World) (h : RdC w v l) : Calls Try.prog 23 #[v] w fun e w' => e = .returned (.tuple #[.agg #[.int .i64 0, .int .i64 0, .int .i64 0, .int .i64 0], .bool false]) ∧ Kp w w' := by
  refine (bounds_rdC v _ w h).mono ?_
  rintro _ w' ⟨rfl, hk⟩
  rw [bndB_no hb, hb]; exact ⟨rfl, hk⟩
set_option maxHeartbeats 8000000 in
set_option maxRecDepth 100000 in
theorem pointBounds_walk (w : World) (a0 : Option Addr) (len0 cap0 : Nat) (hA0 : ∃ l : List Pt, len0 = l.length ∧ RdC w (.slice a0 len0 cap0) l) : Calls Try.prog 9 #[.slice a0 len0 cap0] w fun e w' => e = .returned (.bool true) ∧ Kp w w' := by
  obtain ⟨l, e0, R0⟩ := hA0
  have HR := Lib.hid R0; have HE := Lib.hid e0; clear R0 e0
  by_cases b0 : len0 ≤ 500
  · cases hb : bndOk l
    · skip
      go_enter Try.func9, Try.ntmps9
      go_wp2_with (first
        | (go_at_call 11; refine (awake07_any _).mono ?_; rintro e w1 ⟨rfl, hk⟩; have K : Kp w w1 := kp_trans (by repeat (first | exact kp_refl _ | apply kp_alloc | apply kp_drew)) hk; clear hk)
        | (go_at_call 23; refine (bounds_not hb _ _ (HR.out.kp (by repeat (first | exact K | apply kp_alloc | apply kp_drew | apply kp_drewN)))).mono ?_; rintro e wb ⟨rfl, hk⟩; replace K : Kp w wb := kp_trans (by repeat (first | exact K | apply kp_alloc | apply kp_drew)) hk; clear hk))
      go_ret
      exact ⟨rfl, (by repeat (first | exact K | apply kp_alloc | apply kp_drew | apply kp_drewN))⟩
    · obtain ⟨B0, o0, rfl, hp0⟩ : ∃ B0 o0, a0 = some ⟨B0, o0, none⟩ ∧ PtsAt w B0 o0 l := by
        obtain ⟨_, ⟨_, e⟩ | ⟨b, off, cap, e, hp⟩⟩ := HR.out.rd (by rintro rfl; simp [bndOk] at hb)
        · subst e; simp [bndOk] at hb
        · injection e with e1 e2 e3; exact ⟨b, off, e1, hp⟩
      have HP := Lib.hid hp0; clear hp0
      obtain ⟨lx, ly, hx, hy, hbe⟩ : ∃ lx ly hx hy, bndB l = (lx, ly, hx, hy) := ⟨_, _, _, _, rfl⟩
      obtain ⟨hall, hlost, ⟨r1, r2, r3⟩, r4, r5, r6⟩ := bnd_sides hb hbe
      have HALL := Lib.hid hall; have HLOST := Lib.hid hlost; have HBO := Lib.hid hb; have HBE := Lib.hid hbe; clear hall hlost hb hbe
      have HM : Hid (meetB (lx, ly, hx, hy) (lx, ly, hx, hy) = true) := Lib.hid (meetB_iff.2 (by omega))
      go_enter Try.func9, Try.ntmps9
      go_wp2_with (first
        | (go_at_call 11; refine (awake07_any _).mono ?_; rintro e w1 ⟨rfl, hk⟩; have K : Kp w w1 := kp_trans (by repeat (first | exact kp_refl _ | apply kp_alloc | apply kp_drew)) hk; clear hk)
        | (go_at_call 23; refine (bounds_is HBO.out HBE.out _ _ (HR.out.kp (by repeat (first | exact K | apply kp_alloc | apply kp_drew | apply kp_drewN)))).mono ?_; rintro e wb ⟨rfl, hk⟩; replace K : Kp w wb := kp_trans (by repeat (first | exact K | apply kp_alloc | apply kp_drew)) hk; clear hk))
      have hsz : w.heap.size ≤ wb.heap.size + 1 := Nat.le_succ_of_le (Below.size K)
      go_loopw [7] (fun i wx => ∃ n : Nat, n ≤ 4 ∧ i = .int .i64 n ∧ Sides wx (wb.heap.size + 1) (lx, ly, hx, hy) ∧ Kp w wx ∧ wx.cell? ⟨wb.heap.size, 0, none⟩ = some (.int .i64 lx) ∧ wx.cell? ⟨wb.heap.size, 1, none⟩ = some (.int .i64 ly) ∧ wx.cell? ⟨wb.heap.size, 2, none⟩ = some (.int .i64 hx) ∧ wx.cell? ⟨wb.heap.size, 3, none⟩ = some (.int .i64 hy)) (fun i _ => 4 - (intOf i).toNat)
      case atStart =>
        refine ⟨0, by omega, rfl, ?_, (by repeat (first | exact K | apply kp_alloc | apply kp_drew | refine kp_set ?_ hsz _)), by simp [go_sem], by simp [go_sem], by simp [go_sem], by simp [go_sem]⟩
        intro n hn
        match n, hn with
        | 0, _ => refine ⟨by simp [go_sem, sideB], by simp [go_sem, sideB], by simp [go_sem, sideB], by simp [go_sem, sideB]⟩
        | 1, _ => refine ⟨by simp [go_sem, sideB], by simp [go_sem, sideB], by simp [go_sem, sideB], by simp [go_sem, sideB]⟩
        | 2, _ => refine ⟨by simp [go_sem, sideB], by simp [go_sem, sideB], by simp [go_sem, sideB], by simp [go_sem, sideB]⟩
        | 3, _ => refine ⟨by simp [go_sem, sideB], by simp [go_sem, sideB], by simp [go_sem, sideB], by simp [go_sem, sideB]⟩
      case round =>
        clear K
        obtain ⟨n, hn, rfl, hs, K, x_0, x_1, x_2, x_3⟩ := hrel
        have HS := Lib.hid hs; clear hs
        have l_0 : wb.heap.size < wr.heap.size := cell_lt x_0
        by_cases hlt : n < 4
        · have hls := HLOST.out n hlt
          generalize hsd : sideB (lx, ly, hx, hy) n = sd at hls
          have HSD := Lib.hid hsd; have HLS := Lib.hid hls; clear hsd hls
          obtain ⟨sa, sb, sc, sd⟩ := sd
          go_wp2_with fail
          have hd : decide ((n : Int) < 4) = true := decide_eq_true (by omega)
          simp only [hd]; clear hd
          go_loopw [8, 9] (fun s i wx => ∃ j : Nat, j ≤ len0 ∧ s = .bool (lostB (sa, sb, sc, sd) l j) ∧ i = .int .i64 j ∧ Sides wx (wb.heap.size + 1) (lx, ly, hx, hy) ∧ Kp w wx ∧ wx.cell? ⟨wb.heap.size, 0, none⟩ = some (.int .i64 lx) ∧ wx.cell? ⟨wb.heap.size, 1, none⟩ = some (.int .i64 ly) ∧ wx.cell? ⟨wb.heap.size, 2, none⟩ = some (.int .i64 hx) ∧ wx.cell? ⟨wb.heap.size, 3, none⟩ = some (.int .i64 hy)) (fun _ i _ => len0 - (intOf i).toNat)
          case atStart => exact ⟨0, by omega, rfl, rfl, HS.out, K, x_0, x_1, x_2, x_3⟩
          case round =>
            clear K x_0 x_1 x_2 x_3 l_0 HS
            obtain ⟨j, hj, rfl, rfl, hs, K, x_0, x_1, x_2, x_3⟩ := hrel
            have HS := Lib.hid hs
            have l_0 : wb.heap.size < wr.heap.size := cell_lt x_0
            obtain ⟨y_0, y_1, y_2, y_3⟩ := hs n hlt; clear hs
            rw [HSD.out] at y_0 y_1 y_2 y_3; dsimp only at y_0 y_1 y_2 y_3
            have l_1 : wb.heap.size + 1 < wr.heap.size := cell_lt y_0
            by_cases hlj : j < len0
            · have hj1 : j < l.length := by rw [← HE.out]; exact hlj
              obtain ⟨p0, p1⟩ := (HP.out.kp K) j hj1
              have hin := HALL.out l[j] (List.getElem_mem hj1)
              have hsn := lost_snoc (sa, sb, sc, sd) l j hj1
              generalize l[j] = p at p0 p1 hin hsn
              clear hj1
              obtain ⟨px, py⟩ := p; dsimp only at p0 p1
              have HIN := Lib.hid hin; have HSN := Lib.hid hsn; clear hin hsn
              have lB : B0 < wr.heap.size := cell_lt p0
              generalize hlo : lostB (sa, sb, sc, sd) l j = lo at *
              have wk : IntKind.i64.wrap ((j : Int) + 1) = (j : Int) + 1 := IntWalk.i64_in _ (by omega)
              have HK := Lib.hid K; clear K; have K : Kp wr wr := kp_refl _
              go_upto_region 17 with fail
              go_region_held3 (fun w' => Kp wr w' ∧ w'.cell? ⟨wb.heap.size, 0, none⟩ = some (.int .i64 lx) ∧ w'.cell? ⟨wb.heap.size, 1, none⟩ = some (.int .i64 ly) ∧ w'.cell? ⟨wb.heap.size, 2, none⟩ = some (.int .i64 hx) ∧ w'.cell? ⟨wb.heap.size, 3, none⟩ = some (.int .i64 hy) ∧ w'.cell? ⟨(wb.heap.size + 1), n * 4, none⟩ = some (.int .i64 sa) ∧ w'.cell? ⟨(wb.heap.size + 1), n * 4 + 1, none⟩ = some (.int .i64 sb) ∧ w'.cell? ⟨(wb.heap.size + 1), n * 4 + 2, none⟩ = some (.int .i64 sc) ∧ w'.cell? ⟨(wb.heap.size + 1), n * 4 + 3, none⟩ = some (.int .i64 sd) ∧ w'.cell? ⟨B0, o0 + j * 2, none⟩ = some (.int .i64 px) ∧ w'.cell? ⟨B0, o0 + j * 2 + 1, none⟩ = some (.int .i64 py)) ((first | (with_reducible exact ⟨K, x_0, x_1, x_2, x_3, y_0, y_1, y_2, y_3, p0, p1⟩) | (with_reducible exact ⟨kp_drew K, cell_d x_0, cell_d x_1, cell_d x_2, cell_d x_3, cell_d y_0, cell_d y_1, cell_d y_2, cell_d y_3, cell_d p0, cell_d p1⟩) | (with_reducible exact ⟨kp_alloc K _, cell_a x_0 _, cell_a x_1 _, cell_a x_2 _, cell_a x_3 _, cell_a y_0 _, cell_a y_1 _, cell_a y_2 _, cell_a y_3 _, cell_a p0 _, cell_a p1 _⟩) | (with_reducible exact ⟨kp_alloc (kp_drew K) _, cell_a (cell_d x_0) _, cell_a (cell_d x_1) _, cell_a (cell_d x_2) _, cell_a (cell_d x_3) _, cell_a (cell_d y_0) _, cell_a (cell_d y_1) _, cell_a (cell_d y_2) _, cell_a (cell_d y_3) _, cell_a (cell_d p0) _, cell_a (cell_d p1) _⟩) | (with_reducible exact ⟨kp_alloc (kp_alloc K _) _, cell_a (cell_a x_0 _) _, cell_a (cell_a x_1 _) _, cell_a (cell_a x_2 _) _, cell_a (cell_a x_3 _) _, cell_a (cell_a y_0 _) _, cell_a (cell_a y_1 _) _, cell_a (cell_a y_2 _) _, cell_a (cell_a y_3 _) _, cell_a (cell_a p0 _) _, cell_a (cell_a p1 _) _⟩) | (with_reducible exact ⟨kp_alloc (kp_alloc (kp_drew K) _) _, cell_a (cell_a (cell_d x_0) _) _, cell_a (cell_a (cell_d x_1) _) _, cell_a (cell_a (cell_d x_2) _) _, cell_a (cell_a (cell_d x_3) _) _, cell_a (cell_a (cell_d y_0) _) _, cell_a (cell_a (cell_d y_1) _) _, cell_a (cell_a (cell_d y_2) _) _, cell_a (cell_a (cell_d y_3) _) _, cell_a (cell_a (cell_d p0) _) _, cell_a (cell_a (cell_d p1) _) _⟩)))
                (first
                  | (go_at_call 26; refine (pin_any _ _ _ _ _ _ _).mono ?_; rintro e w2 ⟨rfl, hk⟩; replace x_0 : w2.cell? ⟨wb.heap.size, 0, none⟩ = some (.int .i64 lx) := kp_cell hk (by first | exact x_0 | exact cell_a x_0 _ | exact cell_a (cell_a x_0 _) _ | exact cell_a (cell_a (cell_a x_0 _) _) _); replace x_1 : w2.cell? ⟨wb.heap.size, 1, none⟩ = some (.int .i64 ly) := kp_cell hk (by first | exact x_1 | exact cell_a x_1 _ | exact cell_a (cell_a x_1 _) _ | exact cell_a (cell_a (cell_a x_1 _) _) _); replace x_2 : w2.cell? ⟨wb.heap.size, 2, none⟩ = some (.int .i64 hx) := kp_cell hk (by first | exact x_2 | exact cell_a x_2 _ | exact cell_a (cell_a x_2 _) _ | exact cell_a (cell_a (cell_a x_2 _) _) _); replace x_3 : w2.cell? ⟨wb.heap.size, 3, none⟩ = some (.int .i64 hy) := kp_cell hk (by first | exact x_3 | exact cell_a x_3 _ | exact cell_a (cell_a x_3 _) _ | exact cell_a (cell_a (cell_a x_3 _) _) _); replace y_0 : w2.cell? ⟨(wb.heap.size + 1), n * 4, none⟩ = some (.int .i64 sa) := kp_cell hk (by first | exact y_0 | exact cell_a y_0 _ | exact cell_a (cell_a y_0 _) _ | exact cell_a (cell_a (cell_a y_0 _) _) _); replace y_1 : w2.cell? ⟨(wb.heap.size + 1), n * 4 + 1, none⟩ = some (.int .i64 sb) := kp_cell hk (by first | exact y_1 | exact cell_a y_1 _ | exact cell_a (cell_a y_1 _) _ | exact cell_a (cell_a (cell_a y_1 _) _) _); replace y_2 : w2.cell? ⟨(wb.heap.size + 1), n * 4 + 2, none⟩ = some (.int .i64 sc) := kp_cell hk (by first | exact y_2 | exact cell_a y_2 _ | exact cell_a (cell_a y_2 _) _ | exact cell_a (cell_a (cell_a y_2 _) _) _); replace y_3 : w2.cell? ⟨(wb.heap.size + 1), n * 4 + 3, none⟩ = some (.int .i64 sd) := kp_cell hk (by first | exact y_3 | exact cell_a y_3 _ | exact cell_a (cell_a y_3 _) _ | exact cell_a (cell_a (cell_a y_3 _) _) _); replace p0 : w2.cell? ⟨B0, o0 + j * 2, none⟩ = some (.int .i64 px) := kp_cell hk (by first | exact p0 | exact cell_a p0 _ | exact cell_a (cell_a p0 _) _ | exact cell_a (cell_a (cell_a p0 _) _) _); replace p1 : w2.cell? ⟨B0, o0 + j * 2 + 1, none⟩ = some (.int .i64 py) := kp_cell hk (by first | exact p1 | exact cell_a p1 _ | exact cell_a (cell_a p1 _) _ | exact cell_a (cell_a (cell_a p1 _) _) _); replace K : Kp wr w2 := kp_trans (by repeat (first | exact K | apply kp_alloc | apply kp_drew | apply kp_drewN)) hk; replace l_0 : wb.heap.size < w2.heap.size := cell_lt x_0; clear hk; rw [HIN.out]))
              all_goals go_upto_region 19 with fail
              cases lo
              · skip
                go_region_held3 (fun w' => Kp wr w' ∧ w'.cell? ⟨wb.heap.size, 0, none⟩ = some (.int .i64 lx) ∧ w'.cell? ⟨wb.heap.size, 1, none⟩ = some (.int .i64 ly) ∧ w'.cell? ⟨wb.heap.size, 2, none⟩ = some (.int .i64 hx) ∧ w'.cell? ⟨wb.heap.size, 3, none⟩ = some (.int .i64 hy) ∧ w'.cell? ⟨(wb.heap.size + 1), n * 4, none⟩ = some (.int .i64 sa) ∧ w'.cell? ⟨(wb.heap.size + 1), n * 4 + 1, none⟩ = some (.int .i64 sb) ∧ w'.cell? ⟨(wb.heap.size + 1), n * 4 + 2, none⟩ = some (.int .i64 sc) ∧ w'.cell? ⟨(wb.heap.size + 1), n * 4 + 3, none⟩ = some (.int .i64 sd) ∧ w'.cell? ⟨B0, o0 + j * 2, none⟩ = some (.int .i64 px) ∧ w'.cell? ⟨B0, o0 + j * 2 + 1, none⟩ = some (.int .i64 py)) ((first | (with_reducible exact ⟨K, x_0, x_1, x_2, x_3, y_0, y_1, y_2, y_3, p0, p1⟩) | (with_reducible exact ⟨kp_drew K, cell_d x_0, cell_d x_1, cell_d x_2, cell_d x_3, cell_d y_0, cell_d y_1, cell_d y_2, cell_d y_3, cell_d p0, cell_d p1⟩) | (with_reducible exact ⟨kp_alloc K _, cell_a x_0 _, cell_a x_1 _, cell_a x_2 _, cell_a x_3 _, cell_a y_0 _, cell_a y_1 _, cell_a y_2 _, cell_a y_3 _, cell_a p0 _, cell_a p1 _⟩) | (with_reducible exact ⟨kp_alloc (kp_drew K) _, cell_a (cell_d x_0) _, cell_a (cell_d x_1) _, cell_a (cell_d x_2) _, cell_a (cell_d x_3) _, cell_a (cell_d y_0) _, cell_a (cell_d y_1) _, cell_a (cell_d y_2) _, cell_a (cell_d y_3) _, cell_a (cell_d p0) _, cell_a (cell_d p1) _⟩) | (with_reducible exact ⟨kp_alloc (kp_alloc K _) _, cell_a (cell_a x_0 _) _, cell_a (cell_a x_1 _) _, cell_a (cell_a x_2 _) _, cell_a (cell_a x_3 _) _, cell_a (cell_a y_0 _) _, cell_a (cell_a y_1 _) _, cell_a (cell_a y_2 _) _, cell_a (cell_a y_3 _) _, cell_a (cell_a p0 _) _, cell_a (cell_a p1 _) _⟩) | (with_reducible exact ⟨kp_alloc (kp_alloc (kp_drew K) _) _, cell_a (cell_a (cell_d x_0) _) _, cell_a (cell_a (cell_d x_1) _) _, cell_a (cell_a (cell_d x_2) _) _, cell_a (cell_a (cell_d x_3) _) _, cell_a (cell_a (cell_d y_0) _) _, cell_a (cell_a (cell_d y_1) _) _, cell_a (cell_a (cell_d y_2) _) _, cell_a (cell_a (cell_d y_3) _) _, cell_a (cell_a (cell_d p0) _) _, cell_a (cell_a (cell_d p1) _) _⟩)))
                  (first
                    | (go_at_call 26; refine (pin_any _ _ _ _ _ _ _).mono ?_; rintro e w2 ⟨rfl, hk⟩; replace x_0 : w2.cell? ⟨wb.heap.size, 0, none⟩ = some (.int .i64 lx) := kp_cell hk (by first | exact x_0 | exact cell_a x_0 _ | exact cell_a (cell_a x_0 _) _ | exact cell_a (cell_a (cell_a x_0 _) _) _); replace x_1 : w2.cell? ⟨wb.heap.size, 1, none⟩ = some (.int .i64 ly) := kp_cell hk (by first | exact x_1 | exact cell_a x_1 _ | exact cell_a (cell_a x_1 _) _ | exact cell_a (cell_a (cell_a x_1 _) _) _); replace x_2 : w2.cell? ⟨wb.heap.size, 2, none⟩ = some (.int .i64 hx) := kp_cell hk (by first | exact x_2 | exact cell_a x_2 _ | exact cell_a (cell_a x_2 _) _ | exact cell_a (cell_a (cell_a x_2 _) _) _); replace x_3 : w2.cell? ⟨wb.heap.size, 3, none⟩ = some (.int .i64 hy) := kp_cell hk (by first | exact x_3 | exact cell_a x_3 _ | exact cell_a (cell_a x_3 _) _ | exact cell_a (cell_a (cell_a x_3 _) _) _); replace y_0 : w2.cell? ⟨(wb.heap.size + 1), n * 4, none⟩ = some (.int .i64 sa) := kp_cell hk (by first | exact y_0 | exact cell_a y_0 _ | exact cell_a (cell_a y_0 _) _ | exact cell_a (cell_a (cell_a y_0 _) _) _); replace y_1 : w2.cell? ⟨(wb.heap.size + 1), n * 4 + 1, none⟩ = some (.int .i64 sb) := kp_cell hk (by first | exact y_1 | exact cell_a y_1 _ | exact cell_a (cell_a y_1 _) _ | exact cell_a (cell_a (cell_a y_1 _) _) _); replace y_2 : w2.cell? ⟨(wb.heap.size + 1), n * 4 + 2, none⟩ = some (.int .i64 sc) := kp_cell hk (by first | exact y_2 | exact cell_a y_2 _ | exact cell_a (cell_a y_2 _) _ | exact cell_a (cell_a (cell_a y_2 _) _) _); replace y_3 : w2.cell? ⟨(wb.heap.size + 1), n * 4 + 3, none⟩ = some (.int .i64 sd) := kp_cell hk (by first | exact y_3 | exact cell_a y_3 _ | exact cell_a (cell_a y_3 _) _ | exact cell_a (cell_a (cell_a y_3 _) _) _); replace p0 : w2.cell? ⟨B0, o0 + j * 2, none⟩ = some (.int .i64 px) := kp_cell hk (by first | exact p0 | exact cell_a p0 _ | exact cell_a (cell_a p0 _) _ | exact cell_a (cell_a (cell_a p0 _) _) _); replace p1 : w2.cell? ⟨B0, o0 + j * 2 + 1, none⟩ = some (.int .i64 py) := kp_cell hk (by first | exact p1 | exact cell_a p1 _ | exact cell_a (cell_a p1 _) _ | exact cell_a (cell_a (cell_a p1 _) _) _); replace K : Kp wr w2 := kp_trans (by repeat (first | exact K | apply kp_alloc | apply kp_drew | apply kp_drewN)) hk; replace l_0 : wb.heap.size < w2.heap.size := cell_lt x_0; clear hk))
                all_goals go_wp2_with fail
                all_goals
                  go_roundw
                  case rel => exact ⟨j + 1, by omega, (by rw [HSN.out]; simp [inX]), by go_num, HS.out.kp K, kp_trans HK.out K, x_0, x_1, x_2, x_3⟩
                  case measure => simp [intOf]; omega
              · go_quiet (fail)
                all_goals go_wp2_with fail
                all_goals
                  go_roundw
                  case rel => exact ⟨j + 1, by omega, (by rw [HSN.out]; simp), by go_num, HS.out.kp (by first | exact K | exact kp_drewN K _), kp_trans HK.out (by first | exact K | exact kp_drewN K _), x_0, x_1, x_2, x_3⟩
                  case measure => simp [intOf]; omega
            · have hje : lostB (sa, sb, sc, sd) l j = true := by
                have : j = l.length := by rw [← HE.out]; omega
                rw [this]; exact lost_all HLS.out
              rw [hje]
              have wk : IntKind.i64.wrap ((n : Int) + 1) = (n : Int) + 1 := IntWalk.i64_in _ (by omega)
              go_wp2_with fail
              all_goals
                go_roundw
                case rel => exact ⟨n + 1, by omega, by go_num, HS.out, K, x_0, x_1, x_2, x_3⟩
                case measure => simp [intOf]; omega
        · skip
          go_wp2_with (first
            | (go_at_call 28; refine (pmeet_any _ _ _ _ _ _ _ _ _).mono ?_; rintro e w2 ⟨rfl, hk⟩; rw [HM.out]; have K2 : Kp w w2 := kp_trans (by repeat (first | exact K | apply kp_alloc | apply kp_drew | apply kp_drewN)) hk; clear hk))
          go_ret
          exact ⟨rfl, K2⟩
  · have g0 : 500 < len0 := by omega
    go_enter Try.func9, Try.ntmps9
    go_wp2_with (first
      | (go_at_call 11; refine (awake07_any _).mono ?_; rintro e w1 ⟨rfl, hk⟩; have K : Kp w w1 := kp_trans (by repeat (first | exact kp_refl _ | apply kp_alloc | apply kp_drew)) hk; clear hk)
      | (go_at_call 23; refine (bounds_rdC _ l _ (HR.out.kp (by repeat (first | exact K | apply kp_alloc | apply kp_drew | apply kp_drewN)))).mono ?_; rintro e wb ⟨rfl, hk⟩; replace K : Kp w wb := kp_trans (by repeat (first | exact K | apply kp_alloc | apply kp_drew)) hk; clear hk))
    go_ret
    exact ⟨rfl, (by repeat (first | exact K | apply kp_alloc | apply kp_drew | apply kp_drewN))⟩
end Go.Proofs.Ytjgphjhanoakkaa
