/- Contracts of wide's sums. -/
import Derived.Test.YtcmijedhjebpkaaWD
import Derived.Test.YtcmijedhjebpkaaAI
import Derived.Laws.Bits64
import Derived.Laws.Rows
namespace Go.Proofs.Ytcmijedhjebpkaa
open Go.RowKit Go.Proofs.Geo

/-- The numbers' sum, as an int, or why it is none. -/
def sumI (T : Int) : Int × Int := if -9223372036854775808 ≤ T ∧ T ≤ 9223372036854775807 then (T, 0) else (0, 5)
def M128 : Int := 340282366920938463463374607431768211456
/-- High and low are a sum modulo 2^128. -/
def HL (H L : Nat) (T : Int) : Prop := H < 18446744073709551616 ∧ L < 18446744073709551616 ∧ ((H : Int) * 18446744073709551616 + (L : Int)) = T % M128
/-- One more number. -/
def nU (n : Int) : Nat := (n % 18446744073709551616).toNat
def nS (n : Int) : Nat := if n < 0 then 18446744073709551615 else 0
theorem HL.zero : HL 0 0 0 := ⟨by decide, by decide, by decide⟩
theorem HL.step {H L : Nat} {T n : Int} (h : HL H L T) (hn : I64 n) : HL ((H + nS n + (L + nU n + 0) / 18446744073709551616) % 18446744073709551616) ((L + nU n + 0) % 18446744073709551616) (T + n) := by
  obtain ⟨h1, h2, h3⟩ := h
  unfold I64 at hn
  refine ⟨Nat.mod_lt _ (by omega), Nat.mod_lt _ (by omega), ?_⟩
  unfold M128 nU nS at *
  by_cases k : n < 0
  · rw [if_pos k]; omega
  · rw [if_neg k]; omega
theorem HL.fin {H L : Nat} {T : Int} (h : HL H L T) (ht : -85070591730234615865843651857942052864 ≤ T ∧ T ≤ 85070591730234615865843651857942052864) :
    ∃ n : Int, I64 n ∧ IntKind.i64.wrap (L : Int) = n ∧ (if (H : Int) = (nS n : Int) then (n, 0) else ((0 : Int), (5 : Int))) = sumI T := by
  obtain ⟨h1, h2, h3⟩ := h
  have e : ∀ x : Int, IntKind.i64.wrap x = (x + 9223372036854775808) % 18446744073709551616 - 9223372036854775808 := fun x => by
    simp only [IntKind.wrap, IntKind.bits, IntKind.signed]; simp; split <;> omega
  refine ⟨_, ?_, rfl, ?_⟩
  · rw [e]; exact ⟨by omega, by omega⟩
  · rw [e]
    unfold M128 sumI at *
    by_cases k : (L : Int) < 9223372036854775808
    · have e1 : ((L : Int) + 9223372036854775808) % 18446744073709551616 - 9223372036854775808 = L := by omega
      have hS : nS (L : Int) = 0 := by unfold nS; rw [if_neg (by omega)]
      rw [e1, hS]
      by_cases c : (H : Int) = ((0 : Nat) : Int)
      · have hT : (L : Int) = T := by omega
        rw [if_pos c, if_pos (by omega), hT]
      · rw [if_neg c, if_neg (by omega)]
    · have e1 : ((L : Int) + 9223372036854775808) % 18446744073709551616 - 9223372036854775808 = L - 18446744073709551616 := by omega
      have hS : nS ((L : Int) - 18446744073709551616) = 18446744073709551615 := by unfold nS; rw [if_pos (by omega)]
      rw [e1, hS]
      by_cases c : (H : Int) = ((18446744073709551615 : Nat) : Int)
      · have hT : (L : Int) - 18446744073709551616 = T := by omega
        rw [if_pos c, if_pos (by omega), hT]
      · rw [if_neg c, if_neg (by omega)]
theorem u64_nU (n : Int) : IntKind.u64.wrap n = (nU n : Int) := by rw [IntKind.wrap_u64]; unfold nU; omega
theorem u64_nS {n : Int} (h : I64 n) : IntKind.u64.wrap (n / 9223372036854775808) = (nS n : Int) := by
  unfold I64 at h; rw [IntKind.wrap_u64]; unfold nS; split <;> omega
theorem sum_bd (l : List Int) (h : ∀ x ∈ l, I64 x) : -((l.length : Int) * 9223372036854775808) ≤ l.sum ∧ l.sum ≤ (l.length : Int) * 9223372036854775808 := by
  induction l with
  | nil => simp
  | cons a l ih =>
    have h1 := h a (by simp)
    have h2 := ih fun x hx => h x (by simp [hx])
    unfold I64 at h1
    simp only [List.sum_cons, List.length_cons]
    omega
theorem sum_take (l : List Int) (k : Nat) (h : k < l.length) : (l.take (k + 1)).sum = (l.take k).sum + l[k] := by
  rw [List.take_succ_eq_append_getElem h, List.sum_append]; simp

/-- A slice literal of ints. -/
theorem rdI_lit (w : World) (l : List Int) (t : TypeId) (n : Nat) (hl : l.length ≤ 10000000) (hi : ∀ x ∈ l, I64 x) (hn : n = l.length) : RdI (w.alloc (.cells (l.map (Value.int .i64)).toArray t)) (.slice (some ⟨w.heap.size, 0, none⟩) n n) l := by
  subst hn
  refine rdI_of (by omega) hi fun i h => ?_
  rw [cell_of_row _ _ _ _ _ _ (heap_alloc_new w _)]
  simp [h]
end Go.Proofs.Ytcmijedhjebpkaa
