/- Contracts: point.Bounds. -/
import Derived.Test.YtjgphjhanoakkaaO
import Derived.Test.YtjgphjhanoakkaaBndPlain
import Derived.Deep.DeepCutAuto
import Derived.StillTailTactics
import Derived.RegionTactic
import Derived.BigRegion
namespace Go.Proofs.Ytjgphjhanoakkaa
open Go.RowKit Go.Proofs.Geo

theorem axis_x (b o : Nat) (w : World) : Calls Try.prog 39 #[.int .i64 0, .pointer (some ⟨b, o, none⟩)] w fun e w' => e = .returned (.pointer (some ⟨b, o, none⟩)) ∧ w = w' := by
  go_enter Try.func39, Try.ntmps39
  go_wp2
  go_ret
  exact ⟨rfl, rfl⟩
theorem axis_y (b o : Nat) (w : World) : Calls Try.prog 39 #[.int .i64 1, .pointer (some ⟨b, o, none⟩)] w fun e w' => e = .returned (.pointer (some ⟨b, o + 1, none⟩)) ∧ w = w' := by
  go_enter Try.func39, Try.ntmps39
  go_wp2
  go_ret
  exact ⟨rfl, rfl⟩

abbrev bxV (x : Int × Int × Int × Int) : Value := .agg #[.int .i64 x.1, .int .i64 x.2.1, .int .i64 x.2.2.1, .int .i64 x.2.2.2]
/-- What Bounds hands back. -/
def BndEnd (w : World) (l : List Pt) (e : Ending) (w' : World) : Prop := e = .returned (.tuple #[bxV (bndB l), .bool (bndOk l)]) ∧ Kp w w'
theorem bnd_no {w : World} {l : List Pt} {w' : World} (h : bndOk l = false) (k : Kp w w') : BndEnd w l (.returned (.tuple #[.agg #[.int .i64 0, .int .i64 0, .int .i64 0, .int .i64 0], .bool false])) w' := by
  unfold BndEnd; rw [h, bndB_no h]; exact ⟨rfl, k⟩

set_option maxHeartbeats 4000000 in
theorem bounds_none (a : Option Addr) (cap : Nat) (w : World) : Calls Try.prog 23 #[.slice a 0 cap] w (BndEnd w []) := by
  go_enter Try.func23, Try.ntmps23
  go_wp2
  exact bodyPost_ret (v := .tuple #[.agg #[.int .i64 0, .int .i64 0, .int .i64 0, .int .i64 0], .bool false]) (by simp [results, Try.results23, go_sem]) rfl (bnd_no rfl (by repeat (first | exact kp_refl _ | apply kp_alloc | (refine kp_set ?_ (by simp) _))))

set_option maxHeartbeats 4000000 in
theorem bounds_bad (b off cap : Nat) (l : List Pt) (w : World) (hl : l.length ≤ 10000000000000) (h : PtsAt w b off l) (hpos : 0 < l.length) (hb : l.all okP = false) :
    Calls Try.prog 23 #[.slice (some ⟨b, off, none⟩) l.length cap] w (BndEnd w l) := by
  obtain ⟨len, hlen⟩ : ∃ len, l.length = len := ⟨_, rfl⟩
  have HV := Lib.hid (fun W (k : Kp w W) => valids_any b off cap l W hl (h.kp k))
  rw [hlen, hb] at HV
  have HN := Lib.hid (show bndOk l = false by simp [bndOk, hb])
  rw [hlen] at hpos ⊢
  clear hlen hl h hb
  have e1 : (len == 0) = false := beq_eq_false_iff_ne.2 (by omega)
  have e2 : ((len : Int) == 0) = false := beq_eq_false_iff_ne.2 (by omega)
  go_enter Try.func23, Try.ntmps23
  go_wp2_with (go_at_call 30; refine (HV.out _ (kp_alloc (kp_refl _) _)).mono ?_; rintro e w1 ⟨rfl, hk⟩; have d0 : w1.cell? ⟨w.heap.size, 0, none⟩ = some (.int .i64 0) := kp_cell hk (by simp [go_sem]); have d1 : w1.cell? ⟨w.heap.size, 1, none⟩ = some (.int .i64 0) := kp_cell hk (by simp [go_sem]); have d2 : w1.cell? ⟨w.heap.size, 2, none⟩ = some (.int .i64 0) := kp_cell hk (by simp [go_sem]); have d3 : w1.cell? ⟨w.heap.size, 3, none⟩ = some (.int .i64 0) := kp_cell hk (by simp [go_sem]); obtain ⟨hc1, hf1, hz1⟩ := kp_all hk; clear hz1)
  refine bodyPost_ret (v := .tuple #[.agg #[.int .i64 0, .int .i64 0, .int .i64 0, .int .i64 0], .bool false]) (by simp [results, Try.results23, go_sem, d0, d1, d2, d3]) rfl (bnd_no HN.out ?_)
  repeat (first | exact kp_refl _ | apply kp_alloc | (refine kp_set ?_ (by simp) _) | (refine kp_trans ?_ hk))
end Go.Proofs.Ytjgphjhanoakkaa
