/- Plain facts on 64 bits for the long division. -/
import Derived.Test.YtcmijedhjebpkaaWidePlain
import Derived.Test.YtcmijedhjebpkaaW0
import Derived.Laws.BitsLemmas
import Derived.Laws.Bits64
import Derived.Lib.ItoaNum
namespace Go.Proofs.Ytcmijedhjebpkaa
open Go.RowKit Go.Proofs.Wide

theorem u64n {n : Nat} (h : n < 18446744073709551616) : IntKind.u64.wrap (n : Int) = (n : Int) := by rw [IntKind.wrap_u64]; omega
theorem u64_mul (a b : Nat) : IntKind.u64.wrap ((a : Int) * (b : Int)) = ((a * b % 18446744073709551616 : Nat) : Int) := by
  rw [IntKind.wrap_u64, Int.natCast_emod, Int.natCast_mul]; rfl
theorem u64_mulk (a b : Nat) : IntKind.u64.wrap ((a : Int) * (b : Int)) = ((a * b % 18446744073709551616 : Nat) : Int) := u64_mul a b
theorem wraps64 (n : Int) (h0 : 0 ≤ n) (h : n < 2 ^ 64) : IntKind.u64.wrap n = n := by rw [IntKind.wrap_u64]; omega
theorem mask32 {Y : Nat} (h : Y < 18446744073709551616) : bits .and .u64 (Y : Int) 4294967295 = ((Y % 4294967296 : Nat) : Int) := by
  have k := bits_mask .u64 64 (by decide) wraps64 32 (by decide) (Y : Int) (by omega) (by omega)
  have e : ((2 : Int) ^ 32 - 1) = 4294967295 := by decide
  have e2 : ((2 : Int) ^ 32) = 4294967296 := by decide
  rw [e, e2] at k
  rw [k]; omega
theorem or_sum {a b s : Nat} (hb : b < 2 ^ s) (h : a * 2 ^ s < 18446744073709551616) (h2 : b < 18446744073709551616) : bits .or .u64 ((a * 2 ^ s : Nat) : Int) (b : Int) = ((a * 2 ^ s + b : Nat) : Int) := by
  rw [(bits_nat .u64 64 (by decide) wraps64 (a * 2 ^ s) b (by omega) (by omega)).2, ← Nat.shiftLeft_eq, Nat.shiftLeft_add_eq_or_of_lt hb]
theorem lz_bd {y : Nat} (h0 : 0 < y) (h : y < 18446744073709551616) : ∃ s : Nat, s ≤ 63 ∧ 64 - (Lib.bitLen y : Int) = (s : Int) ∧ y * 2 ^ s < 18446744073709551616 ∧ 9223372036854775808 ≤ y * 2 ^ s := by
  obtain ⟨h1, h2, h3⟩ := Lib.bitLenAux_bounds 64 y (by omega) (by omega)
  have hb : Lib.bitLen y ≤ 64 := Lib.bitLen_le y 64 (by omega) (by omega)
  have e : Lib.bitLenAux 64 y = Lib.bitLen y := rfl
  rw [e] at h1 h2 h3
  generalize Lib.bitLen y = n at *
  refine ⟨64 - n, by omega, by omega, ?_, ?_⟩
  · have : y * 2 ^ (64 - n) < 2 ^ n * 2 ^ (64 - n) := Nat.mul_lt_mul_of_pos_right h3 (Nat.two_pow_pos _)
    rw [← Nat.pow_add, show n + (64 - n) = 64 by omega] at this; omega
  · have : 2 ^ (n - 1) * 2 ^ (64 - n) ≤ y * 2 ^ (64 - n) := Nat.mul_le_mul_right _ h2
    rw [← Nat.pow_add, show n - 1 + (64 - n) = 63 by omega] at this; omega
/-- The shifted dividend. -/
theorem moved' {hi lo y T K C : Nat} (h : hi < y) (hl : lo < C) (hp : T * K = C) (hk2 : 0 < T) (hk : 0 < K) :
    lo / T < K ∧ hi * K + lo / T < y * K ∧ (hi * C + lo) * K = (hi * K + lo / T) * C + lo * K % C := by
  have hB : lo / T < K := by rw [Nat.div_lt_iff_lt_mul hk2, Nat.mul_comm, hp]; exact hl
  have e := Nat.div_add_mod lo T
  have hm : lo % T < T := Nat.mod_lt _ hk2
  generalize lo / T = B at *
  generalize lo % T = M at *
  have h1 : (hi + 1) * K ≤ y * K := Nat.mul_le_mul_right _ h
  rw [Nat.add_mul] at h1
  have h2 : lo * K = B * C + M * K := by
    rw [← e, Nat.add_mul, Nat.mul_comm T B, Nat.mul_assoc, hp]
  have h3 : M * K < T * K := Nat.mul_lt_mul_of_pos_right hm hk
  rw [hp] at h3
  refine ⟨hB, by omega, ?_⟩
  have h4 : (B * C + M * K) % C = M * K := by rw [Nat.mul_comm B, Nat.mul_add_mod, Nat.mod_eq_of_lt h3]
  have h5 : (hi * C + lo) * K = hi * K * C + lo * K := by rw [Nat.add_mul, Nat.mul_right_comm]
  have h6 : (hi * K + B) * C = hi * K * C + B * C := Nat.add_mul _ _ _
  rw [h5, h6, h2, h4]; omega
theorem moved {hi lo y s : Nat} (hs : s ≤ 63) (h : hi < y) (hl : lo < 18446744073709551616) :
    lo / 2 ^ (64 - s) < 2 ^ s ∧ hi * 2 ^ s + lo / 2 ^ (64 - s) < y * 2 ^ s ∧ (hi * 18446744073709551616 + lo) * 2 ^ s = (hi * 2 ^ s + lo / 2 ^ (64 - s)) * 18446744073709551616 + lo * 2 ^ s % 18446744073709551616 :=
  moved' h hl (by rw [← Nat.pow_add, show 64 - s + s = 64 by omega]) (Nat.two_pow_pos _) (Nat.two_pow_pos _)
theorem u64_shl (a s : Nat) (h : a * 2 ^ s < 18446744073709551616) : IntKind.u64.wrap ((a : Int) * 2 ^ s) = ((a * 2 ^ s : Nat) : Int) := by
  have k := u64_mul a (2 ^ s)
  rw [Int.natCast_pow, Nat.mod_eq_of_lt h] at k
  exact k
theorem u64_shl' (a s : Nat) : IntKind.u64.wrap ((a : Int) * 2 ^ s) = ((a * 2 ^ s % 18446744073709551616 : Nat) : Int) := by
  have k := u64_mul a (2 ^ s)
  rw [Int.natCast_pow] at k
  exact k
theorem shr_nat (a s : Nat) : (a : Int) / 2 ^ s = ((a / 2 ^ s : Nat) : Int) := by
  rw [Int.natCast_ediv, Int.natCast_pow]; rfl
theorem wq {a b q : Nat} (h : a / b = q) (hq : q < 18446744073709551616) : IntKind.u64.wrap ((a : Int) / (b : Int)) = (q : Int) := by
  have e : (a : Int) / (b : Int) = ((a / b : Nat) : Int) := rfl
  rw [e, h]; exact u64n hq
theorem wrem {un q y1 r : Nat} (h : q * y1 + r = un) (hu : un < 18446744073709551616) : ∃ P : Nat, IntKind.u64.wrap ((q : Int) * (y1 : Int)) = (P : Int) ∧ IntKind.u64.wrap ((un : Int) - (P : Int)) = (r : Int) := by
  obtain ⟨P, hP⟩ : ∃ P, q * y1 = P := ⟨_, rfl⟩
  rw [hP] at h
  refine ⟨P, ?_, ?_⟩
  · rw [u64_mul, hP, Nat.mod_eq_of_lt (by omega)]
  · rw [IntKind.wrap_u64]; omega
theorem wrest {u l D Y R : Nat} (h : u * 4294967296 + l = D * Y + R) (hR : R < 18446744073709551616) : ∃ U T : Nat, IntKind.u64.wrap ((u : Int) * 4294967296) = (U : Int) ∧ IntKind.u64.wrap ((D : Int) * (Y : Int)) = (T : Int) ∧ IntKind.u64.wrap (IntKind.u64.wrap ((U : Int) + (l : Int)) - (T : Int)) = (R : Int) := by
  obtain ⟨P, hP⟩ : ∃ P, D * Y = P := ⟨_, rfl⟩
  obtain ⟨V, hV⟩ : ∃ V, u * 4294967296 = V := ⟨_, rfl⟩
  have e1 : IntKind.u64.wrap ((u : Int) * 4294967296) = ((V % 18446744073709551616 : Nat) : Int) := by rw [← hV]; exact u64_mul u 4294967296
  have e2 : IntKind.u64.wrap ((D : Int) * (Y : Int)) = ((P % 18446744073709551616 : Nat) : Int) := by rw [← hP]; exact u64_mul D Y
  refine ⟨_, _, e1, e2, ?_⟩
  rw [hP, hV] at h
  clear e1 e2 hP hV
  rw [IntKind.wrap_u64, IntKind.wrap_u64]; omega
theorem wprod {a b : Nat} (ha : a < 4294967296) (hb : b < 4294967296) : IntKind.u64.wrap ((a : Int) * (b : Int)) = ((a * b : Nat) : Int) := by
  rw [u64_mul, Nat.mod_eq_of_lt]
  have := Nat.mul_le_mul (show a ≤ 4294967295 by omega) (show b ≤ 4294967295 by omega)
  omega
theorem plan_a {hi lo y : Nat} (h : hi < y) (hy : y < 18446744073709551616) (hlo : lo < 18446744073709551616) : ∃ s Y y1 y0 A B un L l1 l0 : Nat,
    (s ≤ 63 ∧ 64 - (Lib.bitLen y : Int) = (s : Int)) ∧
    (9223372036854775808 ≤ Y ∧ Y < 18446744073709551616 ∧ y1 * 4294967296 + y0 = Y ∧ y0 < 4294967296 ∧ 2147483648 ≤ y1 ∧ y1 < 4294967296 ∧ un < Y ∧ l1 * 4294967296 + l0 = L ∧ l1 < 4294967296 ∧ l0 < 4294967296) ∧
    ((un * 18446744073709551616 + L) / Y = (hi * 18446744073709551616 + lo) / y ∧ (un * 18446744073709551616 + L) % Y / 2 ^ s = (hi * 18446744073709551616 + lo) % y) ∧
    IntKind.u64.wrap ((y : Int) * 2 ^ s) = (Y : Int) ∧ (Y : Int) / 4294967296 = (y1 : Int) ∧ bits .and .u64 (Y : Int) 4294967295 = (y0 : Int) ∧ IntKind.u64.wrap ((hi : Int) * 2 ^ s) = (A : Int) ∧ (lo : Int) / 2 ^ (64 - s) = (B : Int) ∧ bits .or .u64 (A : Int) (B : Int) = (un : Int) ∧
    IntKind.u64.wrap ((lo : Int) * 2 ^ s) = (L : Int) ∧ (L : Int) / 4294967296 = (l1 : Int) ∧ bits .and .u64 (L : Int) 4294967295 = (l0 : Int) := by
  obtain ⟨s, hs, hlz, hY1, hY2⟩ := lz_bd (by omega) hy
  obtain ⟨hB, hun, hmv⟩ := moved hs h hlo
  have hmu := moved_up (hi * 18446744073709551616 + lo) y (2 ^ s) (Nat.two_pow_pos s)
  rw [hmv] at hmu
  have hA : hi * 2 ^ s < 18446744073709551616 := Nat.lt_of_le_of_lt (Nat.le_add_right _ _) (Nat.lt_trans hun hY1)
  have hB2 : lo / 2 ^ (64 - s) < 18446744073709551616 := Nat.lt_of_le_of_lt (Nat.div_le_self _ _) hlo
  have hL : lo * 2 ^ s % 18446744073709551616 < 18446744073709551616 := Nat.mod_lt _ (by omega)
  refine ⟨s, y * 2 ^ s, y * 2 ^ s / 4294967296, y * 2 ^ s % 4294967296, hi * 2 ^ s, lo / 2 ^ (64 - s), hi * 2 ^ s + lo / 2 ^ (64 - s), lo * 2 ^ s % 18446744073709551616, lo * 2 ^ s % 18446744073709551616 / 4294967296, lo * 2 ^ s % 18446744073709551616 % 4294967296,
    ⟨hs, hlz⟩, ?_, hmu, u64_shl y s hY1, rfl, mask32 hY1, u64_shl hi s hA, shr_nat lo (64 - s), or_sum hB hA hB2, u64_shl' lo s, rfl, mask32 hL⟩
  clear hmu hmv
  generalize y * 2 ^ s = Y at *
  generalize lo * 2 ^ s % 18446744073709551616 = L at *
  refine ⟨hY2, hY1, ?_, ?_, ?_, ?_, hun, ?_, ?_, ?_⟩ <;> omega
/-- One digit: what the loop needs. -/
theorem plan_b {u l Y y1 y0 : Nat} (hY : y1 * 4294967296 + y0 = Y) (h0 : y0 < 4294967296) (h1 : 2147483648 ≤ y1) (hu : u < Y) (hl : l < 4294967296) : ∃ D R q r : Nat,
    u * 4294967296 + l = D * Y + R ∧ R < Y ∧ D < 4294967296 ∧ (u * 4294967296 + l) / Y = D ∧ (u * 4294967296 + l) % Y = R ∧ u / y1 = q ∧ q * y1 + r = u ∧ D ≤ q ∧ q ≤ 4294967298 ∧ r < y1 ∧
    (∀ a b : Nat, a * y1 + b = u → 4294967296 * b + l < a * y0 → D < a) ∧ (∀ a b : Nat, a * y1 + b = u → D ≤ a → a * y0 ≤ 4294967296 * b + l → D = a) ∧ (∀ a b : Nat, a * y1 + b = u → D ≤ a → 4294967296 ≤ b → D = a) := by
  have hdm := Nat.div_add_mod (u * 4294967296 + l) Y
  rw [Nat.mul_comm] at hdm
  have s1 : u / y1 * y1 + u % y1 = u := by rw [Nat.mul_comm]; exact Nat.div_add_mod _ _
  subst hY
  exact ⟨_, _, _, u % y1, hdm.symm, Nat.mod_lt _ (by omega), dig_lt hl hu, rfl, rfl, rfl, s1, guess_ge (by omega) hl, dig_bd s1 hu h0 h1, Nat.mod_lt _ (by omega), fun a b h g => dig_gt h (by omega) g, fun a b h hq g => dig_eq h (by omega) hq g, fun a b h hq g => dig_out h hu h0 hq g⟩

end Go.Proofs.Ytcmijedhjebpkaa
