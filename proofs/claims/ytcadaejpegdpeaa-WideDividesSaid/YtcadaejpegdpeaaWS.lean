/- Contracts of wide's sums. -/
import Derived.Test.YtcadaejpegdpeaaWD
import Derived.Test.YtcadaejpegdpeaaAI
import Derived.Laws.Bits64
import Derived.Laws.Rows
namespace Go.Proofs.Ytcadaejpegdpeaa
open Go.RowKit Go.Proofs.Geo

/-- The numbers' sum, as an int, or why it is none. -/
def sumI (T : Int) : Int × Int := if -9223372036854775808 ≤ T ∧ T ≤ 9223372036854775807 then (T, 0) else (0, 5)
def M128 : Int := 340282366920938463463374607431768211456
/-- High and low are a sum modulo 2^128. -/
def HL (H L : Nat) (T : Int) : Prop := H < 18446744073709551616 ∧ L < 18446744073709551616 ∧ ((H : Int) * 18446744073709551616 + (L : Int)) = T % M128
/-- One more number. -/
def nU (n : Int) : Nat := (n % 18446744073709551616).toNat
def nS (n : Int) : Nat := if n < 0 then 18446744073709551615 else 0
theorem HL.zero : HL 0 0 0 := ⟨by decide, by decide, by decide⟩
theorem HL.step {H L : Nat} {T n : Int} (h : HL H L T) (hn : I64 n) : HL ((H + nS n + (L + nU n + 0) / 18446744073709551616) % 18446744073709551616) ((L + nU n + 0) % 18446744073709551616) (T + n) := by
  obtain ⟨h1, h2, h3⟩ := h
  unfold I64 at hn
  refine ⟨Nat.mod_lt _ (by omega), Nat.mod_lt _ (by omega), ?_⟩
  unfold M128 nU nS at *
  by_cases k : n < 0
  · rw [if_pos k]; omega
  · rw [if_neg k]; omega
theorem HL.fin {H L : Nat} {T : Int} (h : HL H L T) (ht : -85070591730234615865843651857942052864 ≤ T ∧ T ≤ 85070591730234615865843651857942052864) :
    ∃ n : Int, I64 n ∧ IntKind.i64.wrap (L : Int) = n ∧ (if (H : Int) = (nS n : Int) then (n, 0) else ((0 : Int), (5 : Int))) = sumI T := by
  obtain ⟨h1, h2, h3⟩ := h
  have e : ∀ x : Int, IntKind.i64.wrap x = (x + 9223372036854775808) % 18446744073709551616 - 9223372036854775808 := fun x => by
    simp only [IntKind.wrap, IntKind.bits, IntKind.signed]; simp; split <;> omega
  refine ⟨_, ?_, rfl, ?_⟩
  · rw [e]; exact ⟨by omega, by omega⟩
  · rw [e]
    unfold M128 sumI at *
    by_cases k : (L : Int) < 9223372036854775808
    · have e1 : ((L : Int) + 9223372036854775808) % 18446744073709551616 - 9223372036854775808 = L := by omega
      have hS : nS (L : Int) = 0 := by unfold nS; rw [if_neg (by omega)]
      rw [e1, hS]
      by_cases c : (H : Int) = ((0 : Nat) : Int)
      · have hT : (L : Int) = T := by omega
        rw [if_pos c, if_pos (by omega), hT]
      · rw [if_neg c, if_neg (by omega)]
    · have e1 : ((L : Int) + 9223372036854775808) % 18446744073709551616 - 9223372036854775808 = L - 18446744073709551616 := by omega
      have hS : nS ((L : Int) - 18446744073709551616) = 18446744073709551615 := by unfold nS; rw [if_pos (by omega)]
      rw [e1, hS]
      by_cases c : (H : Int) = ((18446744073709551615 : Nat) : Int)
      · have hT : (L : Int) - 18446744073709551616 = T := by omega
        rw [if_pos c, if_pos (by omega), hT]
      · rw [if_neg c, if_neg (by omega)]
theorem u64_nU (n : Int) : IntKind.u64.wrap n = (nU n : Int) := by rw [IntKind.wrap_u64]; unfold nU; omega
theorem u64_nS {n : Int} (h : I64 n) : IntKind.u64.wrap (n / 9223372036854775808) = (nS n : Int) := by
  unfold I64 at h; rw [IntKind.wrap_u64]; unfold nS; split <;> omega
theorem sum_bd (l : List Int) (h : ∀ x ∈ l, I64 x) : -((l.length : Int) * 9223372036854775808) ≤ l.sum ∧ l.sum ≤ (l.length : Int) * 9223372036854775808 := by
  induction l with
  | nil => simp
  | cons a l ih =>
    have h1 := h a (by simp)
    have h2 := ih fun x hx => h x (by simp [hx])
    unfold I64 at h1
    simp only [List.sum_cons, List.length_cons]
    omega
theorem sum_take (l : List Int) (k : Nat) (h : k < l.length) : (l.take (k + 1)).sum = (l.take k).sum + l[k] := by
  rw [List.take_succ_eq_append_getElem h, List.sum_append]; simp

set_option maxHeartbeats 8000000 in
set_option maxRecDepth 100000 in
theorem sum_any (v : Value) (l : List Int) (w : World) (h : RdI w v l) : Calls Try.prog 19 #[v] w fun e w' => e = .returned (.tuple #[.int .i64 (sumI l.sum).1, .int .i64 (sumI l.sum).2]) ∧ w = w' := by
  have hbd := sum_bd l h.2.1
  have hi := h.2.1
  have hlen := h.1
  obtain ⟨a, cap, rfl, hs⟩ := h.shape
  obtain ⟨n, hn⟩ : ∃ n, l.length = n := ⟨_, rfl⟩
  have HN := Lib.hid hn
  have HS := Lib.hid hs
  have HI := Lib.hid hi
  have HB := Lib.hid hbd
  rw [hn] at hlen ⊢
  clear hs hi hbd hn h
  go_enter Try.func19, Try.ntmps19
  go_wp2_with fail
  go_loop [4, 5, 12] (fun hi lo i => ∃ k H L : Nat, k ≤ n ∧ i = .int .i64 k ∧ hi = .int .u64 H ∧ lo = .int .u64 L ∧ HL H L (l.take k).sum) (fun _ _ i => n - (intOf i).toNat)
  case atStart => exact ⟨0, 0, 0, by omega, rfl, rfl, rfl, HL.zero⟩
  case round =>
    obtain ⟨k, H, L, hk, rfl, rfl, rfl, hh⟩ := hrel
    by_cases hlt : k < n
    · have hlt' : k < l.length := by rw [HN.out]; exact hlt
      have ht := sum_take l k hlt'
      have hx := HI.out _ (List.getElem_mem hlt')
      have hst := hh.step hx
      rw [← ht] at hst
      have hc : ∃ b off, a = some ⟨b, off, none⟩ ∧ w.cell? ⟨b, off + k, none⟩ = some (.int .i64 l[k]) := by
        rcases HS.out with e | ⟨b, off, ha, hp⟩
        · rw [e] at hlt'; simp at hlt'
        · exact ⟨b, off, ha, hp k hlt'⟩
      obtain ⟨b, off, rfl, hcell⟩ := hc
      have k1 := u64_nU (l[k]'hlt')
      have k2 := u64_nS hx
      generalize l[k]'hlt' = x at *
      have hN64 : nU x < 18446744073709551616 := by unfold nU; omega
      generalize nU x = N at *
      generalize nS x = S at *
      have a1 : ∀ w : World, (callFunc 42 #[.int .u64 L, .int .u64 N, .int .u64 0]).run Try.prog w = .ok (.value (.tuple #[.int .u64 (((L + N + 0) % 18446744073709551616 : Nat) : Int), .int .u64 (((L + N + 0) / 18446744073709551616 : Nat) : Int)])) w := fun w => add64 L N 0 (by omega) w
      have hC : (L + N + 0) / 18446744073709551616 ≤ 1 := by have := hh.2.1; omega
      have a2 := fun (w : World) => add64 H S _ hC w
      obtain ⟨C, hCe⟩ : ∃ C, (L + N + 0) / 18446744073709551616 = C := ⟨_, rfl⟩
      obtain ⟨L2, hLe⟩ : ∃ C, (L + N + 0) % 18446744073709551616 = C := ⟨_, rfl⟩
      rw [hCe] at a1 a2 hst
      rw [hLe] at a1 hst
      obtain ⟨H2, hHe⟩ : ∃ X, (H + S + C) % 18446744073709551616 = X := ⟨_, rfl⟩
      obtain ⟨G2, hGe⟩ : ∃ X, (H + S + C) / 18446744073709551616 = X := ⟨_, rfl⟩
      rw [hHe] at a2 hst
      rw [hGe] at a2
      have HST := Lib.hid hst
      have b1 : 0 ≤ (k : Int) := by omega
      have b2 : (k : Int) < (n : Int) := by omega
      clear hst hh hx ht hCe hLe hHe hGe hC hN64
      go_wp2_with fail
      go_round
      case rel => exact ⟨k + 1, H2, L2, by omega, by go_num, rfl, rfl, HST.out⟩
      case measure => simp [intOf]; omega
    · obtain rfl : k = n := by omega
      rw [← HN.out, List.take_length] at hh
      obtain ⟨x, hx, hxe, hv⟩ := hh.fin (by have := HB.out; have := HN.out; omega)
      have hx2 := u64_nS hx
      have hxe2 : wrap64 (L : Int) = x := by rw [← IntWalk.i64_left]; exact hxe
      generalize nS x = S at *
      clear hh hx
      by_cases hc : (H : Int) = (S : Int)
      · rw [if_pos hc] at hv
        have HV := Lib.hid hv
        have hc1 : ((H : Int) != (S : Int)) = false := by simp [hc]
        have hc2 : (H != S) = false := by simp; omega
        clear hv hc
        go_wp2_with fail
        go_ret2
        exact ⟨ret2 (by rw [← HV.out]) (by rw [← HV.out]), rfl⟩
      · rw [if_neg hc] at hv
        have HV := Lib.hid hv
        have hc1 : ((H : Int) != (S : Int)) = true := by simp; omega
        have hc2 : (H != S) = true := by simp; omega
        clear hv hc
        go_wp2_with fail
        go_ret2
        exact ⟨ret2 (by rw [← HV.out]) (by rw [← HV.out]), rfl⟩
/-- A slice literal of ints. -/
theorem rdI_lit (w : World) (l : List Int) (t : TypeId) (n : Nat) (hl : l.length ≤ 10000000) (hi : ∀ x ∈ l, I64 x) (hn : n = l.length) : RdI (w.alloc (.cells (l.map (Value.int .i64)).toArray t)) (.slice (some ⟨w.heap.size, 0, none⟩) n n) l := by
  subst hn
  refine rdI_of (by omega) hi fun i h => ?_
  rw [cell_of_row _ _ _ _ _ _ (heap_alloc_new w _)]
  simp [h]
theorem wadd_any (a b : Int) (ha : I64 a) (hb : I64 b) (w : World) : Calls Try.prog 21 #[.int .i64 a, .int .i64 b] w fun e w' => e = .returned (.tuple #[.int .i64 (sumI (a + b)).1, .int .i64 (sumI (a + b)).2]) ∧ Kp w w' := by
  have hl := rdI_lit w [a, b] 3 2 (by simp) (by simp; exact ⟨ha, hb⟩) rfl
  have he : [a, b].sum = a + b := by simp
  have HL := Lib.hid hl
  have HE := Lib.hid he
  clear hl he ha hb
  go_enter Try.func21, Try.ntmps21
  go_wp2_with (go_at_call 19; refine (sum_any _ [a, b] _ HL.out).mono ?_; rintro e w' ⟨rfl, rfl⟩; rw [HE.out])
  go_ret2
  exact ⟨rfl, kp_alloc (kp_refl _) _⟩
end Go.Proofs.Ytcadaejpegdpeaa
