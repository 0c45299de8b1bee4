/- Contracts: valid (of points in a row). -/
import Derived.Test.YtcelipgokpnmfaaW2
namespace Go.Proofs.Ytcelipgokpnmfaa
open Go.RowKit Go.Proofs.Geo

/-- Points lie in a block from a place on. -/
def PtsAt (w : World) (b off : Nat) (l : List Pt) : Prop :=
  ∀ i (h : i < l.length), w.cell? ⟨b, off + i * 2, none⟩ = some (.int .i64 (l[i]'h).1) ∧ w.cell? ⟨b, off + i * 2 + 1, none⟩ = some (.int .i64 (l[i]'h).2)
theorem PtsAt.kp {w w' : World} {b off : Nat} {l : List Pt} (h : PtsAt w b off l) (k : Kp w w') : PtsAt w' b off l :=
  fun i hi => ⟨kp_cell k (h i hi).1, kp_cell k (h i hi).2⟩

theorem all_take_succ (l : List Pt) (k : Nat) (h : k < l.length) : (l.take (k + 1)).all okP = ((l.take k).all okP && okP l[k]) := by
  rw [List.take_succ_eq_append_getElem h, List.all_append]; simp only [List.all_cons, List.all_nil, Bool.and_true]
theorem all_of_bad (l : List Pt) (k : Nat) (h : k < l.length) (hb : okP l[k] = false) : l.all okP = false := by
  rw [List.all_eq_false]; exact ⟨l[k], List.getElem_mem h, by simp [hb]⟩

set_option maxHeartbeats 1000000 in
theorem valids_any (b off cap : Nat) (l : List Pt) (w : World) (hl : l.length ≤ 10000000000000) (h : PtsAt w b off l) :
    Calls Try.prog 29 #[.slice (some ⟨b, off, none⟩) l.length cap] w fun e w' => e = .returned (.bool (l.all okP)) ∧ Kp w w' := by
  go_enter Try.func29, Try.ntmps29
  go_wp2
  go_loopw [7] (fun i wr => ∃ k : Nat, k ≤ l.length ∧ i = .int .i64 k ∧ (l.take k).all okP = true ∧ Kp w wr) (fun i _ => l.length - (intOf i).toNat)
  case atStart => exact ⟨0, Nat.zero_le _, rfl, rfl, kp_refl _⟩
  case round =>
    obtain ⟨k, hk, rfl, hall, hkp⟩ := hrel
    by_cases hlt : k < l.length
    · obtain ⟨x, y, hxy⟩ : ∃ x y, l[k] = (x, y) := ⟨_, _, rfl⟩
      have hc := (h.kp hkp) k hlt
      rw [hxy] at hc
      obtain ⟨hc1, hc2⟩ := hc
      have hs := all_take_succ l k hlt
      have hb := all_of_bad l k hlt
      rw [hxy] at hs hb
      have hs' := Lib.hid hs
      have hb' := Lib.hid hb
      have hh2 := Lib.hid hall
      have hh3 := Lib.hid hkp
      have hh4 := Lib.hid h
      clear hxy hall hkp h hs hb
      cases hv : okP (x, y)
      · go_wp2_with (go_at_call 28; refine (valid_any _ _ _).mono ?_; rintro e w' ⟨rfl, hk1⟩)
        go_ret
        exact ⟨ret_bool (hb'.out hv).symm, kp_trans (kp_alloc hh3.out _) hk1⟩
      · go_wp2_with (go_at_call 28; refine (valid_any _ _ _).mono ?_; rintro e w' ⟨rfl, hk1⟩)
        go_roundw
        case rel => exact ⟨k + 1, by omega, by go_num, by rw [hs'.out, hh2.out, hv]; rfl, kp_trans (kp_alloc hh3.out _) hk1⟩
        case measure => simp [intOf]; omega
    · have hke : k = l.length := by omega
      have hh2 : Hid (l.all okP = true) := by show l.all okP = true; rw [hke, List.take_length] at hall; exact hall
      have hh3 := Lib.hid hkp
      clear hall hkp h hke
      go_wp2
      go_ret
      exact ⟨ret_bool hh2.out.symm, hh3.out⟩
end Go.Proofs.Ytcelipgokpnmfaa
