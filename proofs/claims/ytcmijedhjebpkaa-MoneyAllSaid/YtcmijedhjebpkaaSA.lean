/- Contract of Split, all its ways, up to twenty weights where it splits. -/
import Derived.Test.YtcmijedhjebpkaaMT
import Derived.Deep.DeepCutAuto
import Derived.Deep.QuietTactic
import Derived.BigQuiet
namespace Go.Proofs.Ytcmijedhjebpkaa
open Go.RowKit Go.Proofs.Geo Go.Proofs.Mon
set_option linter.unusedVariables false
set_option maxHeartbeats 4000000 in
theorem split_bad1 (t : Int) (s : Value) (w : World) (h0 : mchk t ≠ 0) :
    Calls Try.prog 8 #[.int .i64 t, s] w fun e w' => e = .returned (.tuple #[.slice none 0 0, .int .i64 5]) ∧ Kp w w' := by
  have K : Kp w w := kp_refl _
  have ca := fun w => mcheck_any t w
  have CA := Lib.hid ca
  clear ca
  generalize mchk t = q at *
  go_enter Try.func8, Try.ntmps8
  go_wp2_with (first
    | (go_at_call 11; refine (CA.out _).mono ?_; rintro e wk ⟨rfl, hk⟩; replace K := kp_trans K hk; clear hk))
  go_ret2
  exact ⟨rfl, K⟩
set_option maxHeartbeats 4000000 in
theorem split_bad2 (t : Int) (s : Value) (l : List Int) (w : World) (h0 : mchk t = 0) (hw : (weighR l).2 = false) (hl : l.length ≤ 2000) (hR : RdI w s l) :
    Calls Try.prog 8 #[.int .i64 t, s] w fun e w' => e = .returned (.tuple #[.slice none 0 0, .int .i64 2]) ∧ Kp w w' := by
  have K : Kp w w := kp_refl _
  have ca := fun w => mcheck_any t w
  rw [h0] at ca
  have cw := fun w h => weigh_any s l w h hl
  rw [hw] at cw
  have CA := Lib.hid ca; have CW := Lib.hid cw; have HR := Lib.hid hR
  clear ca cw hR
  generalize (weighR l).1 = q at *
  go_enter Try.func8, Try.ntmps8
  go_wp2_with (first
    | (go_at_call 11; refine (CA.out _).mono ?_; rintro e wk ⟨rfl, hk⟩; replace K := kp_trans K hk; clear hk)
    | (go_at_call 22; refine (CW.out _ (HR.out.kp K)).mono ?_; rintro e wk ⟨rfl, hk⟩; replace K := kp_trans K hk; clear hk))
  go_ret2
  exact ⟨rfl, K⟩
theorem weigh_true' {l : List Int} (h : (weighR l).2 = true) : (weighR l).1 = l.sum := by
  unfold weighR at h ⊢
  split
  · rename_i h2; rw [if_pos h2] at h; simp at h
  · rfl
theorem weigh_len {l : List Int} (h : (weighR l).2 = true) : l.length ≤ 1000 := by
  unfold weighR at h
  split at h
  · simp at h
  · simp at h; omega
theorem split_any (t : Int) (s : Value) (l : List Int) (w : World) (hR : RdI w s l) (hl : l.length ≤ 1100) (hso : splitE t l = 0 → SortC l.length (rL t.natAbs l.sum.toNat l)) :
    Calls Try.prog 8 #[.int .i64 t, s] w fun e w' => (∃ v, e = .returned (.tuple #[v, .int .i64 (splitE t l)]) ∧ OwnI w' w.heap.size v (splitR t l)) ∧ Kp w w' := by
  by_cases h0 : mchk t = 0
  · by_cases hw : (weighR l).2 = true
    · have e0 : splitE t l = 0 := by unfold splitE; rw [if_pos h0, if_pos hw]
      have e1 : splitR t l = partsL t l := by unfold splitR; rw [if_pos e0]
      have hw2 : weighR l = (l.sum, true) := by
        have h := weigh_true' hw
        exact Prod.ext h hw
      obtain ⟨a, cap, rfl, _⟩ := hR.shape
      rw [e1, e0]
      exact split_core t a _ cap l w rfl (weigh_len hw) h0 hw2 (hso e0) hR
    · have e0 : splitE t l = 2 := by unfold splitE; rw [if_pos h0, if_neg hw]
      have e1 : splitR t l = [] := by unfold splitR; rw [if_neg (by rw [e0]; omega)]
      rw [e0, e1]
      refine (split_bad2 t s l w h0 (by simpa using hw) (by omega) hR).mono ?_
      rintro e w' ⟨rfl, k⟩
      exact ⟨⟨_, rfl, World.ownsRow_nil _ _ _ _⟩, k⟩
  · have e0 : splitE t l = 5 := by unfold splitE; rw [if_neg h0]
    have e1 : splitR t l = [] := by unfold splitR; rw [if_neg (by rw [e0]; omega)]
    rw [e0, e1]
    refine (split_bad1 t s w h0).mono ?_
    rintro e w' ⟨rfl, k⟩
    exact ⟨⟨_, rfl, World.ownsRow_nil _ _ _ _⟩, k⟩
end Go.Proofs.Ytcmijedhjebpkaa
