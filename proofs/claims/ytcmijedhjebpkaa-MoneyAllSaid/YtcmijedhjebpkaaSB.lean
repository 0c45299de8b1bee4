/- Split's contract, of any weights. -/
import Derived.Test.YtcmijedhjebpkaaSA
import Derived.Test.YtcmijedhjebpkaaMT
namespace Go.Proofs.Ytcmijedhjebpkaa
open Go.RowKit Go.Proofs.Geo Go.Proofs.Mon
set_option linter.unusedVariables false
theorem splitE_zero {t : Int} {l : List Int} (h : splitE t l = 0) : mchk t = 0 ∧ weighR l = (l.sum, true) := by
  unfold splitE at h
  split at h
  · rename_i h0
    split at h
    · rename_i hw
      exact ⟨h0, Prod.ext (weigh_true' hw) hw⟩
    · omega
  · omega
theorem split_all (t : Int) (s : Value) (l : List Int) (w : World) (hR : RdI w s l) (hl : l.length ≤ 1100) :
    Calls Try.prog 8 #[.int .i64 t, s] w fun e w' => (∃ v, e = .returned (.tuple #[v, .int .i64 (splitE t l)]) ∧ OwnI w' w.heap.size v (splitR t l)) ∧ Kp w w' :=
  split_any t s l w hR hl fun e0 => by
    obtain ⟨h0, hw⟩ := splitE_zero e0
    obtain ⟨_, hs, _⟩ := weigh_true hw
    have h1 : 0 < l.length := by
      rcases Nat.eq_zero_or_pos l.length with h | h
      · rw [List.eq_nil_of_length_eq_zero h] at hs; simp at hs
      · exact h
    have h := sortC_any (rL t.natAbs l.sum.toNat l) (by rw [rL_len]; exact h1) (by rw [rL_len]; omega)
    rwa [rL_len] at h
theorem splitR_len (t : Int) (l : List Int) (h : l.length ≤ 1100) : (splitR t l).length ≤ 1100 := by
  unfold splitR
  split
  · simpa [partsL] using h
  · simp
theorem splitR_i64 (t : Int) (l : List Int) : ∀ x ∈ splitR t l, I64 x := by
  intro x hx
  unfold splitR at hx
  split at hx
  · rename_i h0
    obtain ⟨h1, h2⟩ := splitE_zero h0
    have b0 := mchk_zero h1
    obtain ⟨hany, hs, _⟩ := weigh_true h2
    unfold partsL at hx
    obtain ⟨i, hi, rfl⟩ := List.mem_map.1 hx
    have hq := qL_bd (n := absT t) hany (s := l.sum.toNat) (by omega) (by omega) i
    have hn : absT t ≤ 1099511627775 := by unfold absT; omega
    generalize (qL (absT t) l.sum.toNat l).getD i 0 = q at *
    have hs : sgT t = 1 ∨ sgT t = -1 := by unfold sgT; split <;> simp
    unfold I64
    split <;> rcases hs with h | h <;> rw [h] <;> omega
  · cases hx
end Go.Proofs.Ytcmijedhjebpkaa
