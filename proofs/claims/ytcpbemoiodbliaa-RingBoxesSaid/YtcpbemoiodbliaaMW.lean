import Derived.Test.YtcpbemoiodbliaaProg
import Derived.Test.YtcpbemoiodbliaaMP
import Derived.WalkKit
import Derived.WalkSpells
import Derived.WalkLawsBesides
import Derived.Outline
import Derived.Lib.Hide
import Derived.Deep.QuietTactic
import Derived.BigQuiet
import Derived.Deep.RegionHeld3
import Derived.Below
import Derived.Shelf.Bits.Mul64
import Derived.IntWalk
import Derived.Laws.Bits64
import Derived.WalkSmall
import Derived.Maps.AppendAt
import Derived.Laws.OwnMore
import Derived.Laws.Rows
/- Contracts of the small functions: cmp.Compare, cmp.Or. -/
namespace Go.Proofs.Ytcpbemoiodbliaa
open Go.RowKit Go.Proofs.Geo

/-- What was there when the call began is as it was. -/
def Kp (w w' : World) : Prop := Below w.heap.size w w'
theorem kp_refl (w : World) : Kp w w := Below.refl _ _
theorem kp_drew {W w : World} (h : Kp W w) : Kp W w.drew := Below.drew h
theorem kp_alloc {W w : World} (h : Kp W w) (o : Obj) : Kp W (w.alloc o) := Below.alloc h (Below.size h) o
theorem kp_trans {W w w' : World} (h : Kp W w) (k : Kp w w') : Kp W w' := Below.trans h (Below.mono k (Below.size h))
theorem kp_cell {W w : World} (h : Kp W w) {a : Addr} {v : Value} (hc : W.cell? a = some v) : w.cell? a = some v := by
  have hlt : a.block < W.heap.size := by
    rcases Nat.lt_or_ge a.block W.heap.size with k | k
    · exact k
    · exfalso; unfold World.cell? at hc; rw [Array.getElem?_eq_none k] at hc; cases hc
  exact (Below.cell h hlt).trans hc
theorem kp_use {w w' : World} (h : Kp w w') : (∀ (a : Addr) (v : Value), w.cell? a = some v → w'.cell? a = some v) ∧ (∀ W, Kp W w → Kp W w') ∧ w.heap.size ≤ w'.heap.size :=
  ⟨fun _ _ hc => kp_cell h hc, fun _ hW => kp_trans hW h, Below.size h⟩

/-- What cmp.Compare tells. -/
def cmpI (a b : Int) : Int := if a < b then -1 else if b < a then 1 else 0

theorem nanI (a : Int) (w : World) : Calls Try.prog 73 #[.int .i64 a] w fun e w' => e = .returned (.bool false) ∧ w = w' := by
  go_enter Try.func73, Try.ntmps73
  go_wp2
  go_ret
  exact ⟨by simp, rfl⟩
theorem nanU (a : Int) (w : World) : Calls Try.prog 91 #[.int .u64 a] w fun e w' => e = .returned (.bool false) ∧ w = w' := by
  go_enter Try.func91, Try.ntmps91
  go_wp2
  go_ret
  exact ⟨by simp, rfl⟩

theorem ret_int {k : IntKind} {a b : Int} (h : a = b) : Ending.returned (.int k a) = .returned (.int k b) := by rw [h]
theorem ret_bool {a b : Bool} (h : a = b) : Ending.returned (.bool a) = .returned (.bool b) := by rw [h]
theorem cmpI_lt {a b : Int} (h : a < b) : cmpI a b = -1 := by unfold cmpI; rw [if_pos h]
theorem cmpI_gt {a b : Int} (h : b < a) : cmpI a b = 1 := by unfold cmpI; rw [if_neg (by omega), if_pos h]
theorem cmpI_eq {a b : Int} (h : a = b) : cmpI a b = 0 := by unfold cmpI; rw [if_neg (by omega), if_neg (by omega)]

theorem cmpInt (a b : Int) (w : World) : Calls Try.prog 57 #[.int .i64 a, .int .i64 b] w fun e w' => e = .returned (.int .i64 (cmpI a b)) ∧ w = w' := by
  rcases Int.lt_trichotomy a b with h | h | h
  · have H := Lib.hid (cmpI_lt h)
    go_enter Try.func57, Try.ntmps57
    go_wp2_with (go_at_call 73; refine (nanI _ _).mono ?_; rintro e w' ⟨rfl, rfl⟩)
    go_ret
    exact ⟨ret_int H.out.symm, rfl⟩
  · subst h
    have H := Lib.hid (cmpI_eq (rfl : a = a))
    go_enter Try.func57, Try.ntmps57
    go_wp2_with (go_at_call 73; refine (nanI _ _).mono ?_; rintro e w' ⟨rfl, rfl⟩)
    go_ret
    exact ⟨ret_int H.out.symm, rfl⟩
  · have H := Lib.hid (cmpI_gt h)
    go_enter Try.func57, Try.ntmps57
    go_wp2_with (go_at_call 73; refine (nanI _ _).mono ?_; rintro e w' ⟨rfl, rfl⟩)
    go_ret
    exact ⟨ret_int H.out.symm, rfl⟩
theorem cmpUint (a b : Int) (w : World) : Calls Try.prog 81 #[.int .u64 a, .int .u64 b] w fun e w' => e = .returned (.int .i64 (cmpI a b)) ∧ w = w' := by
  rcases Int.lt_trichotomy a b with h | h | h
  · have H := Lib.hid (cmpI_lt h)
    go_enter Try.func81, Try.ntmps81
    go_wp2_with (go_at_call 91; refine (nanU _ _).mono ?_; rintro e w' ⟨rfl, rfl⟩)
    go_ret
    exact ⟨ret_int H.out.symm, rfl⟩
  · subst h
    have H := Lib.hid (cmpI_eq (rfl : a = a))
    go_enter Try.func81, Try.ntmps81
    go_wp2_with (go_at_call 91; refine (nanU _ _).mono ?_; rintro e w' ⟨rfl, rfl⟩)
    go_ret
    exact ⟨ret_int H.out.symm, rfl⟩
  · have H := Lib.hid (cmpI_gt h)
    go_enter Try.func81, Try.ntmps81
    go_wp2_with (go_at_call 91; refine (nanU _ _).mono ?_; rintro e w' ⟨rfl, rfl⟩)
    go_ret
    exact ⟨ret_int H.out.symm, rfl⟩

def orI (x y : Int) : Int := if x = 0 then y else x
theorem orI_0 {y : Int} : orI 0 y = y := by simp [orI]
theorem orI_1 {x y : Int} (h : ¬ x = 0) : orI x y = x := by simp [orI, h]

theorem or_any (b : Nat) (x y : Int) (w : World) (h0 : w.cell? ⟨b, 0, none⟩ = some (.int .i64 x)) (h1 : w.cell? ⟨b, 1, none⟩ = some (.int .i64 y)) :
    Calls Try.prog 56 #[.slice (some ⟨b, 0, none⟩) 2 2] w fun e w' => e = .returned (.int .i64 (orI x y)) ∧ w = w' := by
  by_cases hx : x = 0
  · subst hx
    have H := Lib.hid (orI_0 (y := y))
    by_cases hy : y = 0
    · subst hy
      go_enter Try.func56, Try.ntmps56
      go_wp2
      go_loop [8] (fun i => ∃ k : Nat, k ≤ 2 ∧ i = .int .i64 k) (fun i => 2 - (intOf i).toNat)
      case atStart => exact ⟨0, by omega, rfl⟩
      case round =>
        obtain ⟨k, hk, rfl⟩ := hrel
        have hk' : k = 0 ∨ k = 1 ∨ k = 2 := by omega
        rcases hk' with rfl | rfl | rfl
        · go_wp2
          go_round
          case rel => exact ⟨1, by omega, rfl⟩
          case measure => simp [intOf]
        · go_wp2
          go_round
          case rel => exact ⟨2, by omega, rfl⟩
          case measure => simp [intOf]
        · go_wp2
          go_ret
          exact ⟨ret_int H.out.symm, rfl⟩
    · go_enter Try.func56, Try.ntmps56
      go_wp2
      go_loop [8] (fun i => ∃ k : Nat, k ≤ 1 ∧ i = .int .i64 k) (fun i => 2 - (intOf i).toNat)
      case atStart => exact ⟨0, by omega, rfl⟩
      case round =>
        obtain ⟨k, hk, rfl⟩ := hrel
        have hk' : k = 0 ∨ k = 1 := by omega
        rcases hk' with rfl | rfl
        · go_wp2
          go_round
          case rel => exact ⟨1, by omega, rfl⟩
          case measure => simp [intOf]
        · go_wp2
          go_ret
          exact ⟨ret_int H.out.symm, rfl⟩
  · have H := Lib.hid (orI_1 (y := y) hx)
    go_enter Try.func56, Try.ntmps56
    go_wp2
    go_loop [8] (fun i => i = .int .i64 0) (fun i => 2 - (intOf i).toNat)
    case atStart => rfl
    case round =>
      subst hrel
      go_wp2
      go_ret
      exact ⟨ret_int H.out.symm, rfl⟩
theorem cmpP_or (ax ay bx bY : Int) : orI (cmpI ay bY) (cmpI ax bx) = cmpP (ax, ay) (bx, bY) := by
  unfold orI cmpI cmpP; (repeat' split) <;> omega
end Go.Proofs.Ytcpbemoiodbliaa

/- Contracts of the small functions: fits. -/
namespace Go.Proofs.Ytcpbemoiodbliaa
open Go.RowKit Go.Proofs.Geo

theorem okB_t {a : Int} (h1 : -1099511627775 ≤ a) (h2 : a ≤ 1099511627775) : okB a = true := okB_iff.2 ⟨h1, h2⟩
theorem okB_f {a : Int} (h : ¬ (-1099511627775 ≤ a ∧ a ≤ 1099511627775)) : okB a = false := by rw [← Bool.not_eq_true, okB_iff]; exact h
theorem fits_any (a : Int) (w : World) : Calls Try.prog 69 #[.int .i64 a] w fun e w' => e = .returned (.bool (okB a)) ∧ w = w' := by
  by_cases h : -1099511627775 ≤ a
  · by_cases h2 : a ≤ 1099511627775
    · have H := Lib.hid (okB_t h h2)
      go_enter Try.func69, Try.ntmps69
      go_wp2
      go_ret
      exact ⟨ret_bool H.out.symm, rfl⟩
    · have H := Lib.hid (okB_f (a := a) (by omega))
      go_enter Try.func69, Try.ntmps69
      go_wp2
      go_ret
      exact ⟨ret_bool H.out.symm, rfl⟩
  · have H := Lib.hid (okB_f (a := a) (by omega))
    go_enter Try.func69, Try.ntmps69
    go_wp2
    go_ret
    exact ⟨ret_bool H.out.symm, rfl⟩
end Go.Proofs.Ytcpbemoiodbliaa

/- Contracts: Valid. -/
namespace Go.Proofs.Ytcpbemoiodbliaa
open Go.RowKit Go.Proofs.Geo

/-- A point as a value. -/
abbrev pv (x y : Int) : Value := .agg #[.int .i64 x, .int .i64 y]

theorem okP_mk {x y : Int} {a b : Bool} (h1 : okB x = a) (h2 : okB y = b) : okP (x, y) = (a && b) := by unfold okP; rw [h1, h2]

theorem valid_any (x y : Int) (w : World) : Calls Try.prog 46 #[.agg #[.int .i64 x, .int .i64 y]] w fun e w' => e = .returned (.bool (okP (x, y))) ∧ Kp w w' := by
  cases h : okB x
  · have H := Lib.hid (okP_mk h (rfl : okB y = _))
    go_enter Try.func46, Try.ntmps46
    go_wp2_with (go_at_call 69; refine (fits_any _ _).mono ?_; rintro e w' ⟨rfl, rfl⟩)
    go_ret
    exact ⟨ret_bool H.out.symm, kp_alloc (kp_refl _) _⟩
  · have H := Lib.hid (okP_mk h (rfl : okB y = _))
    go_enter Try.func46, Try.ntmps46
    go_wp2_with (go_at_call 69; refine (fits_any _ _).mono ?_; rintro e w' ⟨rfl, rfl⟩)
    go_ret
    exact ⟨ret_bool (by rw [H.out]; rfl), kp_alloc (kp_refl _) _⟩
end Go.Proofs.Ytcpbemoiodbliaa

/- Contracts: valid (of points in a row). -/
namespace Go.Proofs.Ytcpbemoiodbliaa
open Go.RowKit Go.Proofs.Geo

/-- Points lie in a block from a place on. -/
def PtsAt (w : World) (b off : Nat) (l : List Pt) : Prop :=
  ∀ i (h : i < l.length), w.cell? ⟨b, off + i * 2, none⟩ = some (.int .i64 (l[i]'h).1) ∧ w.cell? ⟨b, off + i * 2 + 1, none⟩ = some (.int .i64 (l[i]'h).2)
theorem PtsAt.kp {w w' : World} {b off : Nat} {l : List Pt} (h : PtsAt w b off l) (k : Kp w w') : PtsAt w' b off l :=
  fun i hi => ⟨kp_cell k (h i hi).1, kp_cell k (h i hi).2⟩

theorem all_take_succ (l : List Pt) (k : Nat) (h : k < l.length) : (l.take (k + 1)).all okP = ((l.take k).all okP && okP l[k]) := by
  rw [List.take_succ_eq_append_getElem h, List.all_append]; simp only [List.all_cons, List.all_nil, Bool.and_true]
theorem all_of_bad (l : List Pt) (k : Nat) (h : k < l.length) (hb : okP l[k] = false) : l.all okP = false := by
  rw [List.all_eq_false]; exact ⟨l[k], List.getElem_mem h, by simp [hb]⟩

set_option maxHeartbeats 1000000 in
theorem valids_any (b off cap : Nat) (l : List Pt) (w : World) (hl : l.length ≤ 10000000000000) (h : PtsAt w b off l) :
    Calls Try.prog 45 #[.slice (some ⟨b, off, none⟩) l.length cap] w fun e w' => e = .returned (.bool (l.all okP)) ∧ Kp w w' := by
  go_enter Try.func45, Try.ntmps45
  go_wp2
  go_loopw [7] (fun i wr => ∃ k : Nat, k ≤ l.length ∧ i = .int .i64 k ∧ (l.take k).all okP = true ∧ Kp w wr) (fun i _ => l.length - (intOf i).toNat)
  case atStart => exact ⟨0, Nat.zero_le _, rfl, rfl, kp_refl _⟩
  case round =>
    obtain ⟨k, hk, rfl, hall, hkp⟩ := hrel
    by_cases hlt : k < l.length
    · obtain ⟨x, y, hxy⟩ : ∃ x y, l[k] = (x, y) := ⟨_, _, rfl⟩
      have hc := (h.kp hkp) k hlt
      rw [hxy] at hc
      obtain ⟨hc1, hc2⟩ := hc
      have hs := all_take_succ l k hlt
      have hb := all_of_bad l k hlt
      rw [hxy] at hs hb
      have hs' := Lib.hid hs
      have hb' := Lib.hid hb
      have hh2 := Lib.hid hall
      have hh3 := Lib.hid hkp
      have hh4 := Lib.hid h
      clear hxy hall hkp h hs hb
      cases hv : okP (x, y)
      · go_wp2_with (go_at_call 46; refine (valid_any _ _ _).mono ?_; rintro e w' ⟨rfl, hk1⟩)
        go_ret
        exact ⟨ret_bool (hb'.out hv).symm, kp_trans (kp_alloc hh3.out _) hk1⟩
      · go_wp2_with (go_at_call 46; refine (valid_any _ _ _).mono ?_; rintro e w' ⟨rfl, hk1⟩)
        go_roundw
        case rel => exact ⟨k + 1, by omega, by go_num, by rw [hs'.out, hh2.out, hv]; rfl, kp_trans (kp_alloc hh3.out _) hk1⟩
        case measure => simp [intOf]; omega
    · have hke : k = l.length := by omega
      have hh2 : Hid (l.all okP = true) := by show l.all okP = true; rw [hke, List.take_length] at hall; exact hall
      have hh3 := Lib.hid hkp
      clear hall hkp h hke
      go_wp2
      go_ret
      exact ⟨ret_bool hh2.out.symm, hh3.out⟩
end Go.Proofs.Ytcpbemoiodbliaa

/- The shelf's contract of math/bits.Mul64 at this program, in plain words. -/
namespace Go.Proofs.Ytcpbemoiodbliaa
open Go.Shelf
def mulRen : Go.Shelf.Ren := ⟨fun | 264 => 88 | n => n, fun | 53 => 78 | 46 => 96 | n => n, fun | n => n⟩
theorem mulLays : Go.Proofs.Lays.n264 Try.prog mulRen := {
  mixed := by kernel_rfl
  f264 := Try.func88.trans (congrArg some (by kernel_rfl))
  t46 := Try.underlying96
  a46 := Try.isAgg96
  z46 := Try.sizeOf96
  v46 := Try.zeroValue96
  t53 := Try.underlying78
  a53 := Try.isAgg78
  z53 := Try.sizeOf78
  v53 := Try.zeroValue78 }
open Go.RowKit Go.Lib in
theorem mul64 (x y : Nat) (hx : x < 18446744073709551616) (hy : y < 18446744073709551616) (w : World) :
    Calls Try.prog 88 #[.int .u64 x, .int .u64 y] w fun e w' => e = .returned (.tuple #[.int .u64 ((x * y / 18446744073709551616 : Nat) : Int), .int .u64 ((x * y % 18446744073709551616 : Nat) : Int)]) ∧ w' = w := Any.bits_Mul64 mulLays x y hx hy w
end Go.Proofs.Ytcpbemoiodbliaa

/- Contracts: products of two whole numbers, and the sign of a difference of two. -/
namespace Go.Proofs.Ytcpbemoiodbliaa
open Go.RowKit Go.Proofs.Geo

/-- A number of 64 bits. -/
def I64 (x : Int) : Prop := -9223372036854775808 ≤ x ∧ x ≤ 9223372036854775807

theorem sign_any (a : Int) (w : World) : Calls Try.prog 90 #[.int .i64 a] w fun e w' => e = .returned (.int .i64 (cmpI a 0)) ∧ w = w' := by
  go_enter Try.func90, Try.ntmps90
  go_wp2_with (go_at_call 57; refine (cmpInt _ _ _).mono ?_; rintro e w' ⟨rfl, rfl⟩)
  go_ret
  exact ⟨rfl, rfl⟩

theorem size_neg {a : Int} (h : I64 a) (hn : a < 0) : IntKind.u64.wrap (-IntKind.u64.wrap a) = (a.natAbs : Int) := by
  unfold I64 at h; rw [IntKind.wrap_u64, IntKind.wrap_u64]; omega
theorem size_pos {a : Int} (h : I64 a) (hn : ¬ a < 0) : IntKind.u64.wrap a = (a.natAbs : Int) := by
  unfold I64 at h; rw [IntKind.wrap_u64]; omega
theorem size_any (a : Int) (h : I64 a) (w : World) : Calls Try.prog 89 #[.int .i64 a] w fun e w' => e = .returned (.int .u64 (a.natAbs : Int)) ∧ w = w' := by
  by_cases hn : a < 0
  · have H := Lib.hid (size_neg h hn)
    clear h
    go_enter Try.func89, Try.ntmps89
    go_wp2
    go_ret
    exact ⟨ret_int H.out, rfl⟩
  · have H := Lib.hid (size_pos h hn)
    clear h
    go_enter Try.func89, Try.ntmps89
    go_wp2
    go_ret
    exact ⟨ret_int H.out, rfl⟩

/-- A product's size, in two parts, and its sign. -/
def mulH (a b : Int) : Int := ((a.natAbs * b.natAbs / 18446744073709551616 : Nat) : Int)
def mulL (a b : Int) : Int := ((a.natAbs * b.natAbs % 18446744073709551616 : Nat) : Int)
def mulS (a b : Int) : Int := cmpI a 0 * cmpI b 0
theorem mul64' (a b : Int) (ha : I64 a) (hb : I64 b) (w : World) :
    Calls Try.prog 88 #[.int .u64 (a.natAbs : Int), .int .u64 (b.natAbs : Int)] w fun e w' => e = .returned (.tuple #[.int .u64 (mulH a b), .int .u64 (mulL a b)]) ∧ w = w' :=
  (mul64 a.natAbs b.natAbs (by unfold I64 at ha; omega) (by unfold I64 at hb; omega) w).mono fun _ _ ⟨h1, h2⟩ => ⟨h1, h2.symm⟩
theorem cmpI_bd (a b : Int) : -1 ≤ cmpI a b ∧ cmpI a b ≤ 1 := by unfold cmpI; (repeat' split) <;> omega
theorem mulS_wrap (a b : Int) : IntKind.i64.wrap (cmpI a 0 * cmpI b 0) = mulS a b := by
  have h1 := cmpI_bd a 0; have h2 := cmpI_bd b 0
  rw [IntWalk.i64_in _ ?_]; rfl
  have e1 : cmpI a 0 = -1 ∨ cmpI a 0 = 0 ∨ cmpI a 0 = 1 := by omega
  rcases e1 with e | e | e <;> rw [e] <;> omega

theorem mul_any (a b : Int) (ha : I64 a) (hb : I64 b) (w : World) : Calls Try.prog 80 #[.int .i64 a, .int .i64 b] w fun e w' =>
    e = .returned (.tuple #[.int .u64 (mulH a b), .int .u64 (mulL a b), .int .i64 (mulS a b)]) ∧ w = w' := by
  have Ha := Lib.hid ha
  have Hb := Lib.hid hb
  clear ha hb
  have hm := mulS_wrap a b
  have hm2 : wrap64 (cmpI a 0 * cmpI b 0) = mulS a b := by rw [← IntWalk.i64_left]; exact hm
  go_enter Try.func80, Try.ntmps80
  go_wp2_with (first
    | (go_at_call_of 89 (Value.int .i64 a); refine (size_any a Ha.out _).mono ?_; rintro e w' ⟨rfl, rfl⟩)
    | (go_at_call_of 89 (Value.int .i64 b); refine (size_any b Hb.out _).mono ?_; rintro e w' ⟨rfl, rfl⟩)
    | (go_at_call 88; refine (mul64' a b Ha.out Hb.out _).mono ?_; rintro e w' ⟨rfl, rfl⟩)
    | (go_at_call 90; refine (sign_any _ _).mono ?_; rintro e w' ⟨rfl, rfl⟩))
  go_ret3
  exact ⟨rfl, rfl⟩
end Go.Proofs.Ytcpbemoiodbliaa

/- Contracts: the sign of a difference of two products. -/
namespace Go.Proofs.Ytcpbemoiodbliaa
open Go.RowKit Go.Proofs.Geo

def magI (a b c d : Int) : Int := orI (cmpI (mulH a b) (mulH c d)) (cmpI (mulL a b) (mulL c d))
theorem orI_cmp {h i l m : Int} (hl : 0 ≤ l) (hl' : l < 18446744073709551616) (hm : 0 ≤ m) (hm' : m < 18446744073709551616) :
    orI (cmpI h i) (cmpI l m) = cmpI (h * 18446744073709551616 + l) (i * 18446744073709551616 + m) := by
  unfold orI cmpI; (repeat' split) <;> omega
theorem magI_eq (a b c d : Int) : magI a b c d = cmpI ((a.natAbs * b.natAbs : Nat) : Int) ((c.natAbs * d.natAbs : Nat) : Int) := by
  unfold magI
  rw [orI_cmp (by unfold mulL; omega) (by unfold mulL; omega) (by unfold mulL; omega) (by unfold mulL; omega)]
  unfold mulH mulL
  congr 1 <;> omega
theorem cmpI_sign (a b : Int) : cmpI a b = (a - b).sign := by
  rcases Int.lt_trichotomy a b with h | h | h
  · rw [cmpI_lt h, Int.sign_eq_neg_one_of_neg (by omega)]
  · rw [cmpI_eq h, h]; simp
  · rw [cmpI_gt h, Int.sign_eq_one_of_pos (by omega)]
theorem cmpI_zero (a : Int) : cmpI a 0 = a.sign := by rw [cmpI_sign]; simp
theorem mulS_eq (a b : Int) : mulS a b = (a * b).sign := by unfold mulS; rw [cmpI_zero, cmpI_zero, Int.sign_mul]
theorem mul_abs (a b : Int) : a * b = mulS a b * ((a.natAbs * b.natAbs : Nat) : Int) := by
  rw [mulS_eq, ← Int.natAbs_mul, Int.sign_mul_natAbs]
/-- The sign of the difference of two products. -/
def dif (a b c d : Int) : Int := (a * b - c * d).sign
theorem dif_ne {a b c d : Int} (h : mulS a b ≠ mulS c d) : cmpI (mulS a b) (mulS c d) = dif a b c d := by
  unfold dif
  rw [mulS_eq, mulS_eq] at *
  generalize a * b = x at *
  generalize c * d = y at *
  rcases Int.lt_trichotomy x 0 with h1 | h1 | h1 <;> rcases Int.lt_trichotomy y 0 with h2 | h2 | h2
  · rw [Int.sign_eq_neg_one_of_neg h1, Int.sign_eq_neg_one_of_neg h2] at h; omega
  · subst h2; rw [Int.sign_eq_neg_one_of_neg h1, Int.sign_eq_neg_one_of_neg (a := x - 0) (by omega)]; decide
  · rw [Int.sign_eq_neg_one_of_neg h1, Int.sign_eq_one_of_pos h2, Int.sign_eq_neg_one_of_neg (a := x - y) (by omega)]; decide
  · subst h1; rw [Int.sign_eq_neg_one_of_neg h2, Int.sign_eq_one_of_pos (a := 0 - y) (by omega)]; decide
  · subst h1; subst h2; omega
  · subst h1; rw [Int.sign_eq_one_of_pos h2, Int.sign_eq_neg_one_of_neg (a := 0 - y) (by omega)]; decide
  · rw [Int.sign_eq_one_of_pos h1, Int.sign_eq_neg_one_of_neg h2, Int.sign_eq_one_of_pos (a := x - y) (by omega)]; decide
  · subst h2; rw [Int.sign_eq_one_of_pos h1, Int.sign_eq_one_of_pos (a := x - 0) (by omega)]; decide
  · rw [Int.sign_eq_one_of_pos h1, Int.sign_eq_one_of_pos h2] at h; omega
theorem dif_eq {a b c d : Int} (h : mulS a b = mulS c d) : mulS a b * magI a b c d = dif a b c d := by
  rw [magI_eq]; unfold dif
  have e1 := mul_abs a b
  have e2 := mul_abs c d
  rw [← h] at e2
  rw [e1, e2, cmpI_sign, ← Int.mul_sub, Int.sign_mul]
  congr 1
  have := sign_bd (a * b)
  rw [mulS_eq]
  have k : (a * b).sign = -1 ∨ (a * b).sign = 0 ∨ (a * b).sign = 1 := by omega
  rcases k with k | k | k <;> rw [k] <;> decide
theorem magI_wrap (a b c d : Int) : IntKind.i64.wrap (mulS a b * magI a b c d) = mulS a b * magI a b c d := by
  have h1 : -1 ≤ mulS a b ∧ mulS a b ≤ 1 := by rw [mulS_eq]; exact sign_bd _
  have h2 : -1 ≤ magI a b c d ∧ magI a b c d ≤ 1 := by rw [magI_eq]; exact cmpI_bd _ _
  apply IntWalk.i64_in
  have e1 : mulS a b = -1 ∨ mulS a b = 0 ∨ mulS a b = 1 := by omega
  rcases e1 with e | e | e <;> rw [e] <;> omega

set_option maxHeartbeats 1000000 in
theorem wsign_any (a b c d : Int) (ha : I64 a) (hb : I64 b) (hc : I64 c) (hd : I64 d) (w : World) : Calls Try.prog 68 #[.int .i64 a, .int .i64 b, .int .i64 c, .int .i64 d] w fun e w' =>
    e = .returned (.int .i64 (dif a b c d)) ∧ Kp w w' := by
  have Ha := Lib.hid ha
  have Hb := Lib.hid hb
  have Hc := Lib.hid hc
  have Hd := Lib.hid hd
  clear ha hb hc hd
  by_cases h : mulS a b = mulS c d
  · have H := Lib.hid (dif_eq h)
    have hne : (mulS a b != mulS c d) = false := by simp [h]
    clear h
    have hm := magI_wrap a b c d
    have hm2 : wrap64 (mulS a b * magI a b c d) = mulS a b * magI a b c d := by rw [← IntWalk.i64_left]; exact hm
    have em : orI (cmpI (mulH a b) (mulH c d)) (cmpI (mulL a b) (mulL c d)) = magI a b c d := rfl
    go_enter Try.func68, Try.ntmps68
    go_wp2_with (first
      | (go_at_call_of 80 (Value.int .i64 a); refine (mul_any a b Ha.out Hb.out _).mono ?_; rintro e w' ⟨rfl, rfl⟩)
      | (go_at_call_of 80 (Value.int .i64 c); refine (mul_any c d Hc.out Hd.out _).mono ?_; rintro e w' ⟨rfl, rfl⟩)
      | (go_at_call 81; refine (cmpUint _ _ _).mono ?_; rintro e w' ⟨rfl, rfl⟩)
      | (go_at_call 56; refine (or_any _ (cmpI (mulH a b) (mulH c d)) (cmpI (mulL a b) (mulL c d)) _ ?_ ?_).mono ?_; (simp [go_sem]); (simp [go_sem]); rintro e w' ⟨rfl, rfl⟩))
    go_ret
    exact ⟨ret_int H.out, by repeat (first | assumption | exact kp_refl _ | apply kp_drew | apply kp_alloc)⟩
  · have H := Lib.hid (dif_ne h)
    have hne : (mulS a b != mulS c d) = true := by simp [h]
    clear h
    go_enter Try.func68, Try.ntmps68
    go_wp2_with (first
      | (go_at_call_of 80 (Value.int .i64 a); refine (mul_any a b Ha.out Hb.out _).mono ?_; rintro e w' ⟨rfl, rfl⟩)
      | (go_at_call_of 80 (Value.int .i64 c); refine (mul_any c d Hc.out Hd.out _).mono ?_; rintro e w' ⟨rfl, rfl⟩)
      | (go_at_call 57; refine (cmpInt _ _ _).mono ?_; rintro e w' ⟨rfl, rfl⟩))
    go_ret
    exact ⟨ret_int H.out, kp_refl _⟩
end Go.Proofs.Ytcpbemoiodbliaa

/- Contracts: Turn, between, On. -/
namespace Go.Proofs.Ytcpbemoiodbliaa
open Go.RowKit Go.Proofs.Geo

theorem valid3 (b : Nat) (p q r : Pt) (w : World) (h0 : w.cell? ⟨b, 0, none⟩ = some (.int .i64 p.1)) (h1 : w.cell? ⟨b, 1, none⟩ = some (.int .i64 p.2)) (h2 : w.cell? ⟨b, 2, none⟩ = some (.int .i64 q.1))
    (h3 : w.cell? ⟨b, 3, none⟩ = some (.int .i64 q.2)) (h4 : w.cell? ⟨b, 4, none⟩ = some (.int .i64 r.1)) (h5 : w.cell? ⟨b, 5, none⟩ = some (.int .i64 r.2)) :
    Calls Try.prog 45 #[.slice (some ⟨b, 0, none⟩) 3 3] w fun e w' => e = .returned (.bool (okP p && okP q && okP r)) ∧ Kp w w' := by
  refine (valids_any b 0 3 [p, q, r] w (by simp) ?_).mono ?_
  · intro i hi
    match i, hi with
    | 0, _ => exact ⟨h0, h1⟩
    | 1, _ => exact ⟨h2, h3⟩
    | 2, _ => exact ⟨h4, h5⟩
  · rintro e w' ⟨rfl, hk⟩
    exact ⟨ret_bool (by simp [Bool.and_assoc]), hk⟩
theorem valid2 (b : Nat) (p q : Pt) (w : World) (h0 : w.cell? ⟨b, 0, none⟩ = some (.int .i64 p.1)) (h1 : w.cell? ⟨b, 1, none⟩ = some (.int .i64 p.2)) (h2 : w.cell? ⟨b, 2, none⟩ = some (.int .i64 q.1))
    (h3 : w.cell? ⟨b, 3, none⟩ = some (.int .i64 q.2)) :
    Calls Try.prog 45 #[.slice (some ⟨b, 0, none⟩) 2 2] w fun e w' => e = .returned (.bool (okP p && okP q)) ∧ Kp w w' := by
  refine (valids_any b 0 2 [p, q] w (by simp) ?_).mono ?_
  · intro i hi
    match i, hi with
    | 0, _ => exact ⟨h0, h1⟩
    | 1, _ => exact ⟨h2, h3⟩
  · rintro e w' ⟨rfl, hk⟩
    exact ⟨ret_bool (by simp), hk⟩

theorem turn_no {a b c : Pt} (h : (okP a && okP b && okP c) = false) : turn a b c = 0 := by simp [turn, h]
theorem turn_dif {ax ay bx bY cx cy : Int} (h : (okP (ax, ay) && okP (bx, bY) && okP (cx, cy)) = true) : dif (bx - ax) (cy - ay) (bY - ay) (cx - ax) = turn (ax, ay) (bx, bY) (cx, cy) := by
  simp only [turn, h, if_true]; rfl

set_option maxHeartbeats 1000000 in
theorem turn_any (ax ay bx bY cx cy : Int) (w : World) : Calls Try.prog 44 #[pv ax ay, pv bx bY, pv cx cy] w fun e w' =>
    e = .returned (.int .i64 (turn (ax, ay) (bx, bY) (cx, cy))) ∧ Kp w w' := by
  cases h : (okP (ax, ay) && okP (bx, bY) && okP (cx, cy))
  · have H := Lib.hid (turn_no h)
    go_enter Try.func44, Try.ntmps44
    go_wp2_with (go_at_call 45; refine (valid3 _ (ax, ay) (bx, bY) (cx, cy) _ ?_ ?_ ?_ ?_ ?_ ?_).mono ?_; (iterate 6 (focus (simp [go_sem]))); rintro e w' ⟨rfl, hk1⟩)
    go_ret
    exact ⟨ret_int H.out.symm, by repeat (first | assumption | exact kp_refl _ | apply kp_drew | apply kp_alloc | refine kp_trans ?_ hk1)⟩
  · have H := Lib.hid (turn_dif h)
    have h' := h
    simp only [Bool.and_eq_true, okP_iff] at h'
    obtain ⟨⟨⟨⟨a1, a2⟩, a3, a4⟩, ⟨b1, b2⟩, b3, b4⟩, ⟨c1, c2⟩, c3, c4⟩ := h'
    have i1 := Lib.hid (show I64 (bx - ax) from ⟨by omega, by omega⟩)
    have i2 := Lib.hid (show I64 (cy - ay) from ⟨by omega, by omega⟩)
    have i3 := Lib.hid (show I64 (bY - ay) from ⟨by omega, by omega⟩)
    have i4 := Lib.hid (show I64 (cx - ax) from ⟨by omega, by omega⟩)
    go_enter Try.func44, Try.ntmps44
    go_wp2_with (first
      | (go_at_call 45; refine (valid3 _ (ax, ay) (bx, bY) (cx, cy) _ ?_ ?_ ?_ ?_ ?_ ?_).mono ?_; (iterate 6 (focus (simp [go_sem]))); rintro e w' ⟨rfl, hk1⟩; have c1 : w'.cell? ⟨w.heap.size, 0, none⟩ = some (.int .i64 ax) := kp_cell hk1 (by simp [go_sem]); have c2 : w'.cell? ⟨w.heap.size, 1, none⟩ = some (.int .i64 ay) := kp_cell hk1 (by simp [go_sem]); have c3 : w'.cell? ⟨w.heap.size + 1, 0, none⟩ = some (.int .i64 bx) := kp_cell hk1 (by simp [go_sem]); have c4 : w'.cell? ⟨w.heap.size + 1, 1, none⟩ = some (.int .i64 bY) := kp_cell hk1 (by simp [go_sem]); have c5 : w'.cell? ⟨w.heap.size + 1 + 1, 0, none⟩ = some (.int .i64 cx) := kp_cell hk1 (by simp [go_sem]); have c6 : w'.cell? ⟨w.heap.size + 1 + 1, 1, none⟩ = some (.int .i64 cy) := kp_cell hk1 (by simp [go_sem]))
      | (go_at_call 68; refine (wsign_any _ _ _ _ i1.out i2.out i3.out i4.out _).mono ?_; rintro e w' ⟨rfl, hk5⟩))
    go_ret
    exact ⟨ret_int H.out, by repeat (first | exact kp_refl _ | apply kp_drew | apply kp_alloc | refine kp_trans ?_ hk5 | refine kp_trans ?_ hk1)⟩
end Go.Proofs.Ytcpbemoiodbliaa

/- What a call keeps: facts on cells and sizes. -/
namespace Go.Proofs.Ytcpbemoiodbliaa
open Go.RowKit Go.Proofs.Geo

theorem kp_all {w w' : World} (h : Kp w w') : (∀ b o, b < w.heap.size → w'.cell? ⟨b, o, none⟩ = w.cell? ⟨b, o, none⟩) ∧ (∀ b o, b < w.heap.size → w'.frozen? ⟨b, o, none⟩ = w.frozen? ⟨b, o, none⟩) ∧ w.heap.size ≤ w'.heap.size :=
  ⟨fun b o k => Below.cell (p := ⟨b, o, none⟩) h k, fun b o k => Below.frozen (p := ⟨b, o, none⟩) h k, Below.size h⟩

/-- Old blocks lie below the new world's end. -/
theorem kp_lt2 {w W w' : World} (h : Kp W w') (hs : w.heap.size + 2 ≤ W.heap.size) : w.heap.size < w'.heap.size ∧ w.heap.size + 1 < w'.heap.size := by
  have := Below.size h; omega
theorem kp_lt3 {w W w' : World} (h : Kp W w') (hs : w.heap.size + 3 ≤ W.heap.size) : w.heap.size < w'.heap.size ∧ w.heap.size + 1 < w'.heap.size ∧ w.heap.size + 1 + 1 < w'.heap.size := by
  have := Below.size h; omega
theorem kp_lt4 {w W w' : World} (h : Kp W w') (hs : w.heap.size + 4 ≤ W.heap.size) : w.heap.size < w'.heap.size ∧ w.heap.size + 1 < w'.heap.size ∧ w.heap.size + 1 + 1 < w'.heap.size ∧ w.heap.size + 1 + 1 + 1 < w'.heap.size := by
  have := Below.size h; omega

theorem kp_drewN {W w : World} (h : Kp W w) (n : Nat) : Kp W (w.drewN n) := below_drewN h n
theorem kp_set {W w : World} (h : Kp W w) {a : Addr} (ha : W.heap.size ≤ a.block) (u : Value) : Kp W (w.setCell a u) := Below.setCell h ha u
theorem cell_a {w : World} {a : Addr} {v : Value} (h : w.cell? a = some v) (o : Obj) : (w.alloc o).cell? a = some v := kp_cell (kp_alloc (kp_refl w) o) h
theorem cell_lt {w : World} {a : Addr} {v : Value} (hc : w.cell? a = some v) : a.block < w.heap.size := by
  rcases Nat.lt_or_ge a.block w.heap.size with k | k
  · exact k
  · exfalso; unfold World.cell? at hc; rw [Array.getElem?_eq_none k] at hc; cases hc
/-- A cell that may be written stays one. -/
theorem kp_froz {W w : World} (h : Kp W w) {a : Addr} {v : Value} (hc : W.cell? a = some v) (hf : W.frozen? a = false) : w.frozen? a = false :=
  (Below.frozen h (cell_lt hc)).trans hf
theorem froz_a {w : World} {a : Addr} {v : Value} (hc : w.cell? a = some v) (hf : w.frozen? a = false) (o : Obj) : (w.alloc o).frozen? a = false := kp_froz (kp_alloc (kp_refl w) o) hc hf
end Go.Proofs.Ytcpbemoiodbliaa

/- What a call keeps: facts on cells and sizes. -/
namespace Go.Proofs.Ytcpbemoiodbliaa
open Go.RowKit Go.Proofs.Geo

/-- A slice that reads as a list of points. -/
def Rd (w : World) (v : Value) (l : List Pt) : Prop := l.length ≤ 10000000000000 ∧ ((v = .slice none 0 0 ∧ l = []) ∨ ∃ b off cap, v = .slice (some ⟨b, off, none⟩) l.length cap ∧ PtsAt w b off l)
theorem Rd.kp {w w' : World} {v : Value} {l : List Pt} (h : Rd w v l) (k : Kp w w') : Rd w' v l := by
  obtain ⟨hl, h | ⟨b, off, cap, hv, h⟩⟩ := h
  · exact ⟨hl, .inl h⟩
  · exact ⟨hl, .inr ⟨b, off, cap, hv, h.kp k⟩⟩
theorem rd_lt {w : World} {v : Value} {l : List Pt} (h : Rd w v l) : v = .slice none 0 0 ∧ l = [] ∨ ∃ b off cap, v = .slice (some ⟨b, off, none⟩) l.length cap ∧ PtsAt w b off l := h.2
/-- A call hands back a slice that reads as these points; what was there is as it was. -/
def RetRd (w : World) (l : List Pt) (e : Ending) (w' : World) : Prop := ∃ v, e = .returned v ∧ Rd w' v l ∧ Kp w w'
theorem ptsAt_nil (w : World) (b off : Nat) : PtsAt w b off [] := fun i hi => by simp at hi
theorem PtsAt.cons {w : World} {b off : Nat} {x y : Int} {l : List Pt} (h0 : w.cell? ⟨b, off, none⟩ = some (.int .i64 x)) (h1 : w.cell? ⟨b, off + 1, none⟩ = some (.int .i64 y)) (h : PtsAt w b (off + 2) l) : PtsAt w b off ((x, y) :: l) := by
  intro i hi
  cases i with
  | zero => simp only [Nat.zero_mul, Nat.add_zero, List.getElem_cons_zero]; exact ⟨h0, h1⟩
  | succ i =>
    have := h i (by simpa using hi)
    rw [show off + (i + 1) * 2 = off + 2 + i * 2 by omega]
    exact this
theorem rd_of {w : World} {b off cap : Nat} {l : List Pt} (hl : l.length ≤ 10000000000000) (h : PtsAt w b off l) : Rd w (.slice (some ⟨b, off, none⟩) l.length cap) l := ⟨hl, .inr ⟨b, off, cap, rfl, h⟩⟩
end Go.Proofs.Ytcpbemoiodbliaa

/- Contracts: Move. -/
namespace Go.Proofs.Ytcpbemoiodbliaa
open Go.RowKit Go.Proofs.Geo

/-- Why a point can't be moved so (0: it can), and where it comes to. -/
def mvE (p d : Pt) : Int := if okP p && okP d then (if okP (mv p d) then 0 else 5) else 2
def mvP (p d : Pt) : Pt := if mvE p d = 0 then mv p d else (0, 0)
theorem mvE_no {p d : Pt} (h : (okP p && okP d) = false) : mvE p d = 2 := by simp [mvE, h]
theorem mvE_out {p d : Pt} (h : (okP p && okP d) = true) (h2 : okP (mv p d) = false) : mvE p d = 5 := by simp [mvE, h, h2]
theorem mvE_ok {p d : Pt} (h : (okP p && okP d) = true) (h2 : okP (mv p d) = true) : mvE p d = 0 := by simp [mvE, h, h2]
theorem mvE_zero {p d : Pt} (h : mvE p d = 0) : okP p = true ∧ okP d = true ∧ okP (mv p d) = true := by
  unfold mvE at h; split at h
  · rename_i k; rw [Bool.and_eq_true] at k
    split at h
    · rename_i k2; exact ⟨k.1, k.2, k2⟩
    · cases h
  · cases h
theorem mvP_no {p d : Pt} (h : (okP p && okP d) = false) : mvP p d = (0, 0) := by simp [mvP, mvE_no h]
theorem mvP_out {p d : Pt} (h : (okP p && okP d) = true) (h2 : okP (mv p d) = false) : mvP p d = (0, 0) := by simp [mvP, mvE_out h h2]
theorem mvP_ok {p d : Pt} (h : (okP p && okP d) = true) (h2 : okP (mv p d) = true) : mvP p d = mv p d := by simp [mvP, mvE_ok h h2]
theorem mvP_zero {p d : Pt} (h : mvE p d = 0) : mvP p d = mv p d := by simp [mvP, h]

theorem ret_mv {p q : Pt} {e f : Int} (hp : p = q) (he : e = f) : Ending.returned (.tuple #[pv p.1 p.2, .int .i64 e]) = .returned (.tuple #[pv q.1 q.2, .int .i64 f]) := by rw [hp, he]

set_option maxHeartbeats 2000000 in
theorem move_any (ax ay bx bY : Int) (w : World) : Calls Try.prog 16 #[pv ax ay, pv bx bY] w fun e w' =>
    e = .returned (.tuple #[pv (mvP (ax, ay) (bx, bY)).1 (mvP (ax, ay) (bx, bY)).2, .int .i64 (mvE (ax, ay) (bx, bY))]) ∧ Kp w w' := by
  cases h : (okP (ax, ay) && okP (bx, bY))
  · have H1 := Lib.hid (mvP_no h)
    have H2 := Lib.hid (mvE_no h)
    go_enter Try.func16, Try.ntmps16
    go_wp2_with (go_at_call 45; refine (valid2 _ (ax, ay) (bx, bY) _ ?_ ?_ ?_ ?_).mono ?_; (iterate 4 (focus (simp [go_sem]))); rintro e w' ⟨rfl, hk1⟩; have d0 : w'.cell? ⟨w.heap.size + 1 + 1, 0, none⟩ = some (.int .i64 0) := kp_cell hk1 (by simp [go_sem]); have d1 : w'.cell? ⟨w.heap.size + 1 + 1, 1, none⟩ = some (.int .i64 0) := kp_cell hk1 (by simp [go_sem]); obtain ⟨hc1, hf1, hz1⟩ := kp_all hk1; clear hz1)
    refine bodyPost_ret (v := .tuple #[pv 0 0, .int .i64 2]) (by simp [results, Try.results16, go_sem, d0, d1]) rfl ⟨ret_mv (p := (0, 0)) H1.out.symm H2.out.symm, ?_⟩
    exact kp_set (kp_set (kp_trans (by repeat (first | exact kp_refl _ | apply kp_alloc)) hk1) (Nat.le_add_right _ 2) _) (Nat.le_add_right _ 2) _
  · have h' := h
    simp only [Bool.and_eq_true, okP_iff] at h'
    obtain ⟨⟨⟨a1, a2⟩, a3, a4⟩, ⟨b1, b2⟩, b3, b4⟩ := h'
    cases h2 : okP (mv (ax, ay) (bx, bY))
    · have H1 := Lib.hid (mvP_out h h2)
      have H2 := Lib.hid (mvE_out h h2)
      have h3 : okP (ax + bx, ay + bY) = false := h2
      clear h2
      go_enter Try.func16, Try.ntmps16
      go_wp2_with (first
        | (go_at_call 45; refine (valid2 _ (ax, ay) (bx, bY) _ ?_ ?_ ?_ ?_).mono ?_; (iterate 4 (focus (simp [go_sem]))); rintro e w' ⟨rfl, hk1⟩; have d0 : w'.cell? ⟨w.heap.size + 1 + 1, 0, none⟩ = some (.int .i64 0) := kp_cell hk1 (by simp [go_sem]); have d1 : w'.cell? ⟨w.heap.size + 1 + 1, 1, none⟩ = some (.int .i64 0) := kp_cell hk1 (by simp [go_sem]); have f0 : w'.frozen? ⟨w.heap.size + 1 + 1, 0, none⟩ = false := kp_froz (v := .int .i64 0) hk1 (by simp [go_sem]) (by simp [go_sem]); have f1 : w'.frozen? ⟨w.heap.size + 1 + 1, 1, none⟩ = false := kp_froz (v := .int .i64 0) hk1 (by simp [go_sem]) (by simp [go_sem]); obtain ⟨hc1, hf1, hz1⟩ := kp_all hk1; clear hz1)
        | (go_at_call 46; refine (valid_any _ _ _).mono ?_; rintro e w2 ⟨rfl, hk2⟩; have d2 : w2.cell? ⟨w.heap.size + 1 + 1, 0, none⟩ = some (.int .i64 0) := kp_cell hk2 (cell_a d0 _); have d3 : w2.cell? ⟨w.heap.size + 1 + 1, 1, none⟩ = some (.int .i64 0) := kp_cell hk2 (cell_a d1 _); have f2 : w2.frozen? ⟨w.heap.size + 1 + 1, 0, none⟩ = false := kp_froz hk2 (cell_a d0 _) (froz_a d0 f0 _); have f3 : w2.frozen? ⟨w.heap.size + 1 + 1, 1, none⟩ = false := kp_froz hk2 (cell_a d1 _) (froz_a d1 f1 _); have q0 : w2.cell? ⟨w'.heap.size, 0, none⟩ = some (.int .i64 (ax + bx)) := kp_cell hk2 (by simp [go_sem]); have q1 : w2.cell? ⟨w'.heap.size, 1, none⟩ = some (.int .i64 (ay + bY)) := kp_cell hk2 (by simp [go_sem])))
      refine bodyPost_ret (v := .tuple #[pv 0 0, .int .i64 5]) (by simp [results, Try.results16, go_sem, d2, d3]) rfl ⟨ret_mv (p := (0, 0)) H1.out.symm H2.out.symm, ?_⟩
      exact kp_set (kp_set (kp_trans (kp_alloc (kp_trans (by repeat (first | exact kp_refl _ | apply kp_alloc)) hk1) _) hk2) (Nat.le_add_right _ 2) _) (Nat.le_add_right _ 2) _
    · have H1 := Lib.hid (mvP_ok h h2)
      have H2 := Lib.hid (mvE_ok h h2)
      have h3 : okP (ax + bx, ay + bY) = true := h2
      clear h2
      go_enter Try.func16, Try.ntmps16
      go_wp2_with (first
        | (go_at_call 45; refine (valid2 _ (ax, ay) (bx, bY) _ ?_ ?_ ?_ ?_).mono ?_; (iterate 4 (focus (simp [go_sem]))); rintro e w' ⟨rfl, hk1⟩; have d0 : w'.cell? ⟨w.heap.size + 1 + 1, 0, none⟩ = some (.int .i64 0) := kp_cell hk1 (by simp [go_sem]); have d1 : w'.cell? ⟨w.heap.size + 1 + 1, 1, none⟩ = some (.int .i64 0) := kp_cell hk1 (by simp [go_sem]); have f0 : w'.frozen? ⟨w.heap.size + 1 + 1, 0, none⟩ = false := kp_froz (v := .int .i64 0) hk1 (by simp [go_sem]) (by simp [go_sem]); have f1 : w'.frozen? ⟨w.heap.size + 1 + 1, 1, none⟩ = false := kp_froz (v := .int .i64 0) hk1 (by simp [go_sem]) (by simp [go_sem]); obtain ⟨hc1, hf1, hz1⟩ := kp_all hk1; clear hz1)
        | (go_at_call 46; refine (valid_any _ _ _).mono ?_; rintro e w2 ⟨rfl, hk2⟩; have d2 : w2.cell? ⟨w.heap.size + 1 + 1, 0, none⟩ = some (.int .i64 0) := kp_cell hk2 (cell_a d0 _); have d3 : w2.cell? ⟨w.heap.size + 1 + 1, 1, none⟩ = some (.int .i64 0) := kp_cell hk2 (cell_a d1 _); have f2 : w2.frozen? ⟨w.heap.size + 1 + 1, 0, none⟩ = false := kp_froz hk2 (cell_a d0 _) (froz_a d0 f0 _); have f3 : w2.frozen? ⟨w.heap.size + 1 + 1, 1, none⟩ = false := kp_froz hk2 (cell_a d1 _) (froz_a d1 f1 _); have q0 : w2.cell? ⟨w'.heap.size, 0, none⟩ = some (.int .i64 (ax + bx)) := kp_cell hk2 (by simp [go_sem]); have q1 : w2.cell? ⟨w'.heap.size, 1, none⟩ = some (.int .i64 (ay + bY)) := kp_cell hk2 (by simp [go_sem])))
      refine bodyPost_ret (v := .tuple #[pv (ax + bx) (ay + bY), .int .i64 0]) (by simp [results, Try.results16, go_sem, d2, d3]) rfl ⟨ret_mv (p := (ax + bx, ay + bY)) H1.out.symm H2.out.symm, ?_⟩
      exact kp_set (kp_set (kp_trans (kp_alloc (kp_trans (by repeat (first | exact kp_refl _ | apply kp_alloc)) hk1) _) hk2) (Nat.le_add_right _ 2) _) (Nat.le_add_right _ 2) _
end Go.Proofs.Ytcpbemoiodbliaa

/- Slices of points that a call owns. -/
namespace Go.Proofs.Ytcpbemoiodbliaa
open Go.RowKit Go.Proofs.Geo

/-- The cells of points. -/
def flat (l : List Pt) : List Value := l.flatMap fun p => [.int .i64 p.1, .int .i64 p.2]
theorem flat_snoc (l : List Pt) (p : Pt) : flat (l ++ [p]) = flat l ++ [.int .i64 p.1, .int .i64 p.2] := by simp [flat]
theorem flat_len (l : List Pt) : (flat l).length = l.length * 2 := by
  induction l with
  | nil => rfl
  | cons p l ih => simp [flat] at ih ⊢; omega
theorem flat_get (l : List Pt) (i : Nat) (h : i < l.length) : (flat l)[i * 2]? = some (.int .i64 (l[i]'h).1) ∧ (flat l)[i * 2 + 1]? = some (.int .i64 (l[i]'h).2) := by
  induction l generalizing i with
  | nil => simp at h
  | cons p l ih =>
    cases i with
    | zero => simp [flat]
    | succ i =>
      have := ih i (by simpa using h)
      have e1 : (i + 1) * 2 = i * 2 + 1 + 1 := by omega
      rw [e1]
      simpa [flat] using this

/-- A slice of points in memory of the call's own, from block B on. -/
def OwnP (w : World) (B : Nat) (v : Value) (l : List Pt) : Prop := w.ownsRow B 25 2 v l.length (flat l)
theorem OwnP.nil (w : World) (B : Nat) : OwnP w B (.slice none 0 0) [] := World.ownsRow_nil _ _ _ _
theorem OwnP.grown {w w' : World} {B : Nat} {v : Value} {l : List Pt} {row : Option Nat} (h : OwnP w B v l) (hg : w.grownBy w' row) (hne : v.ownBlock = none ∨ v.ownBlock ≠ row) : OwnP w' B v l := World.ownsRow.kept h hg hne
theorem grown_of_kp {w w' : World} (h : Kp w w') (row : Option Nat) : w.grownBy w' row := ⟨h.os, h.tape, h.output, h.size, fun k hk _ => h.block k hk⟩
theorem OwnP.kp {w w' : World} {B : Nat} {v : Value} {l : List Pt} (h : OwnP w B v l) (k : Kp w w') : OwnP w' B v l := by
  refine h.grown (grown_of_kp k none) ?_
  cases v.ownBlock
  · exact .inl rfl
  · exact .inr (by simp)
theorem OwnP.mono {w : World} {B B' : Nat} {v : Value} {l : List Pt} (h : OwnP w B v l) (hB : B' ≤ B) : OwnP w B' v l := by
  obtain ⟨h1, h2⟩ := h
  refine ⟨h1, ?_⟩
  rcases h2 with h2 | ⟨g, cap, cur, a, b, c⟩
  · exact .inl h2
  · exact .inr ⟨g, cap, cur, a, Nat.le_trans hB b, c⟩
theorem OwnP.rd {w : World} {B : Nat} {v : Value} {l : List Pt} (h : OwnP w B v l) (hl : l.length ≤ 10000000000000) : Rd w v l := by
  refine ⟨hl, ?_⟩
  have h' := h
  obtain ⟨h1, h2⟩ := h'
  rcases h2 with ⟨hv, hn⟩ | ⟨g, cap, cur, hv, h2⟩
  · exact .inl ⟨hv, List.eq_nil_of_length_eq_zero hn⟩
  · refine .inr ⟨g, 0, cap, hv, fun i hi => ?_⟩
    subst hv
    have hc := World.ownsRow.cells (w := w) h (g := g) rfl
    have hf := flat_get l i hi
    have c1 := hc _ _ hf.1
    have c2 := hc _ _ hf.2
    have e : ∀ j, (⟨g, 0, none⟩ : Addr).add j = ⟨g, 0 + j, none⟩ := fun j => by unfold Addr.add; split <;> simp_all
    rw [e] at c1 c2
    exact ⟨c1, c2⟩

theorem OwnP.snoc {w : World} {B : Nat} {v : Value} {l : List Pt} {x y : Int} (h : w.ownsRow B 25 2 v (l.length + 1) (flat l ++ [.int .i64 x, .int .i64 y])) : OwnP w B v (l ++ [(x, y)]) := by
  unfold OwnP; rw [flat_snoc, List.length_append]; exact h

theorem infoPt : (Try.prog.info? 25).map (fun i => (i.zero, i.size, i.bytes)) = some (some (.agg #[.int .i64 0, .int .i64 0]), 2, 16) := by kernel_rfl

/-- The cells of one new point. -/
theorem cell_two_pt (w : World) (x y : Int) (t : TypeId) : ∀ j u, [Value.int .i64 x, .int .i64 y][j]? = some u → (w.alloc (.cells #[.int .i64 x, .int .i64 y] t)).cell? ((⟨w.heap.size, 0, none⟩ : Addr).add j) = some u := by
  intro j u hj
  match j, hj with
  | 0, hj => simp at hj; subst hj; simp [Addr.add]
  | 1, hj => simp at hj; subst hj; simp [Addr.add]

theorem kp_of_grown {W w w' : World} {v : Value} {l : List Pt} (h : Kp W w) (hg : w.grownBy w' v.ownBlock) (ho : OwnP w W.heap.size v l) : Kp W w' :=
  Below.grown h hg (Below.size h) fun k hk => (World.ownsRow.lt ho k hk).1

/-- A call has handed back a slice of its own. -/
def OwnEnd (w : World) (l : List Pt) (e : Ending) (w' : World) : Prop := ∃ v, e = .returned v ∧ OwnP w' w.heap.size v l ∧ Kp w w'


theorem flat_append (l m : List Pt) : flat (l ++ m) = flat l ++ flat m := by simp [flat]
theorem OwnP.append {w : World} {B : Nat} {v : Value} {l m : List Pt} (h : w.ownsRow B 25 2 v (l.length + m.length) (flat l ++ flat m)) : OwnP w B v (l ++ m) := by
  unfold OwnP; rw [flat_append, List.length_append]; exact h
theorem add_cell (b off j : Nat) : (⟨b, off, none⟩ : Addr).add j = ⟨b, off + j, none⟩ := by unfold Addr.add; split <;> simp_all
/-- The cells that lie there, one by one. -/
theorem pts_cells {w : World} {b off : Nat} {l : List Pt} (h : PtsAt w b off l) : ∀ j u, (flat l)[j]? = some u → w.cell? ((⟨b, off, none⟩ : Addr).add j) = some u := by
  intro j u hj
  have hl : j < l.length * 2 := by rw [← flat_len]; exact (List.getElem?_eq_some_iff.1 hj).1
  have hi : j / 2 < l.length := by omega
  have hf := flat_get l (j / 2) hi
  have hp := h (j / 2) hi
  rw [add_cell]
  rcases Nat.mod_two_eq_zero_or_one j with e | e
  · have ej : j / 2 * 2 = j := by omega
    rw [ej] at hf hp
    rw [hj] at hf
    rw [hp.1, ← hf.1]
  · have ej : j / 2 * 2 + 1 = j := by omega
    have e2 : off + j / 2 * 2 + 1 = off + j := by omega
    rw [ej] at hf
    rw [e2] at hp
    rw [hj] at hf
    rw [hp.2, ← hf.2]
theorem flat_one (l : List Pt) : ∀ u ∈ flat l, u.oneCell' = true := by
  intro u hu
  simp only [flat, List.mem_flatMap] at hu
  obtain ⟨p, _, hu⟩ := hu
  simp at hu
  rcases hu with rfl | rfl <;> rfl
theorem pts_of_flat {w : World} {b off : Nat} {l : List Pt} (h : ∀ j u, (flat l)[j]? = some u → w.cell? ⟨b, off + j, none⟩ = some u) : PtsAt w b off l := by
  intro i hi
  have hf := flat_get l i hi
  exact ⟨h _ _ hf.1, h _ _ hf.2⟩
/-- A literal in a new block. -/
theorem OwnP.lit (w : World) (l : List Pt) (cs : Array Value) (hc : cs.toList = flat l) (hl : l.length ≤ 1000000) : OwnP (w.alloc (.cells cs 25)) w.heap.size (.slice (some ⟨w.heap.size, 0, none⟩) l.length l.length) l := by
  refine ⟨flat_len l, .inr ⟨w.heap.size, l.length, cs, rfl, Nat.le_refl _, heap_alloc_new w _, Nat.le_refl _, by unfold maxLen; omega, ?_, ?_⟩⟩
  · rw [← Array.length_toList, hc, flat_len]
  · rw [hc, List.take_of_length_le (by rw [flat_len]; omega)]
theorem ret_own {w w' : World} {l : List Pt} {e : Ending} (h : OwnEnd w l e w') (hl : l.length ≤ 10000000000000) : RetRd w l e w' := by
  obtain ⟨v, he, ho, hk⟩ := h
  exact ⟨v, he, ho.rd hl, hk⟩

/-- A slice, at whatever address, that reads as these points. -/
def RdC (w : World) (v : Value) (l : List Pt) : Prop :=
  l.length ≤ 10000000000000 ∧ ((v = .slice none 0 0 ∧ l = []) ∨ ∃ (ad : Addr) (cap : Nat), v = .slice (some ad) l.length cap ∧ ∀ j u, (flat l)[j]? = some u → w.cell? (ad.add j) = some u)
theorem Rd.toC {w : World} {v : Value} {l : List Pt} (h : Rd w v l) : RdC w v l := by
  obtain ⟨hl, h | ⟨b, off, cap, hv, h⟩⟩ := h
  · exact ⟨hl, .inl h⟩
  · exact ⟨hl, .inr ⟨⟨b, off, none⟩, cap, hv, pts_cells h⟩⟩
theorem RdC.kp {w w' : World} {v : Value} {l : List Pt} (h : RdC w v l) (k : Kp w w') : RdC w' v l := by
  obtain ⟨hl, h | ⟨ad, cap, hv, h⟩⟩ := h
  · exact ⟨hl, .inl h⟩
  · exact ⟨hl, .inr ⟨ad, cap, hv, fun j u hj => kp_cell k (h j u hj)⟩⟩
/-- Where there is a point, its address is a plain one. -/
theorem RdC.rd {w : World} {v : Value} {l : List Pt} (h : RdC w v l) (hl : l ≠ []) : Rd w v l := by
  obtain ⟨hb, ⟨_, h⟩ | ⟨ad, cap, hv, h⟩⟩ := h
  · exact absurd h hl
  · have hpos : 0 < l.length := List.length_pos_iff.2 hl
    have h0 := h 0 _ (by have := (flat_get l 0 hpos).1; rwa [Nat.zero_mul] at this)
    obtain ⟨b, off, spot⟩ := ad
    have hs : spot = none := by simpa [Addr.add] using World.cell?_spot h0
    subst hs
    exact ⟨hb, .inr ⟨b, off, cap, hv, pts_of_flat fun j u hj => by have := h j u hj; rwa [add_cell] at this⟩⟩
end Go.Proofs.Ytcpbemoiodbliaa

/- Contracts: between, On. -/
namespace Go.Proofs.Ytcpbemoiodbliaa
open Go.RowKit Go.Proofs.Geo

theorem between_any (n a b : Int) (w : World) : Calls Try.prog 74 #[.int .i64 n, .int .i64 a, .int .i64 b] w fun e w' => e = .returned (.bool (btw n a b)) ∧ w = w' := by
  go_enter Try.func74, Try.ntmps74
  go_wp2
  all_goals
    go_ret
    exact ⟨ret_bool (by rw [Bool.eq_iff_iff, btw_iff]; simp; omega), rfl⟩

theorem onS_steps {px py ax ay bx bY : Int} : onS (px, py) (ax, ay) (bx, bY) = ((okP (px, py) && okP (ax, ay) && okP (bx, bY)) && btw px ax bx && btw py ay bY && (turn (ax, ay) (bx, bY) (px, py) == 0)) := by
  unfold onS; rw [Bool.eq_iff_iff]; simp

set_option maxHeartbeats 1000000 in
theorem on_any (px py ax ay bx bY : Int) (w : World) : Calls Try.prog 61 #[pv px py, pv ax ay, pv bx bY] w fun e w' =>
    e = .returned (.bool (onS (px, py) (ax, ay) (bx, bY))) ∧ Kp w w' := by
  have HS := Lib.hid (onS_steps (px := px) (py := py) (ax := ax) (ay := ay) (bx := bx) (bY := bY))
  cases h : (okP (px, py) && okP (ax, ay) && okP (bx, bY))
  · have H := Lib.hid h
    go_enter Try.func61, Try.ntmps61
    go_wp2_with (go_at_call 45; refine (valid3 _ (px, py) (ax, ay) (bx, bY) _ ?_ ?_ ?_ ?_ ?_ ?_).mono ?_; (iterate 6 (focus (simp [go_sem]))); rintro e w' ⟨rfl, hk1⟩)
    go_ret
    exact ⟨ret_bool (by rw [HS.out, H.out]; rfl), by repeat (first | exact kp_refl _ | apply kp_drew | apply kp_alloc | refine kp_trans ?_ hk1)⟩
  · have H := Lib.hid h
    cases h1 : btw px ax bx
    · have H1 := Lib.hid h1
      go_enter Try.func61, Try.ntmps61
      go_wp2_with (first
        | (go_at_call 45; refine (valid3 _ (px, py) (ax, ay) (bx, bY) _ ?_ ?_ ?_ ?_ ?_ ?_).mono ?_; (iterate 6 (focus (simp [go_sem]))); rintro e w' ⟨rfl, hk1⟩; obtain ⟨hc1, hf1, hz1⟩ := kp_all hk1)
        | (go_at_call 74; refine (between_any _ _ _ _).mono ?_; rintro e w' ⟨rfl, rfl⟩))
      go_ret
      exact ⟨ret_bool (by rw [HS.out, H.out, H1.out]; rfl), by repeat (first | exact kp_refl _ | apply kp_drew | apply kp_alloc | refine kp_trans ?_ hk1)⟩
    · have H1 := Lib.hid h1
      cases h2 : btw py ay bY
      · have H2 := Lib.hid h2
        go_enter Try.func61, Try.ntmps61
        go_wp2_with (first
          | (go_at_call 45; refine (valid3 _ (px, py) (ax, ay) (bx, bY) _ ?_ ?_ ?_ ?_ ?_ ?_).mono ?_; (iterate 6 (focus (simp [go_sem]))); rintro e w' ⟨rfl, hk1⟩; obtain ⟨hc1, hf1, hz1⟩ := kp_all hk1)
          | (go_at_call 74; refine (between_any _ _ _ _).mono ?_; rintro e w' ⟨rfl, rfl⟩))
        go_ret
        exact ⟨ret_bool (by rw [HS.out, H.out, H1.out, H2.out]; rfl), by repeat (first | exact kp_refl _ | apply kp_drew | apply kp_alloc | refine kp_trans ?_ hk1)⟩
      · have H2 := Lib.hid h2
        go_enter Try.func61, Try.ntmps61
        go_wp2_with (first
          | (go_at_call 45; refine (valid3 _ (px, py) (ax, ay) (bx, bY) _ ?_ ?_ ?_ ?_ ?_ ?_).mono ?_; (iterate 6 (focus (simp [go_sem]))); rintro e w' ⟨rfl, hk1⟩; obtain ⟨hc1, hf1, hz1⟩ := kp_all hk1)
          | (go_at_call 74; refine (between_any _ _ _ _).mono ?_; rintro e w' ⟨rfl, rfl⟩)
          | (go_at_call 44; refine (turn_any _ _ _ _ _ _ _).mono ?_; rintro e w' ⟨rfl, hk2⟩))
        go_ret
        exact ⟨ret_bool (by rw [HS.out, H.out, H1.out, H2.out]; simp), by repeat (first | exact kp_refl _ | apply kp_drew | apply kp_alloc | refine kp_trans ?_ hk2 | refine kp_trans ?_ hk1)⟩

end Go.Proofs.Ytcpbemoiodbliaa

/- A cell after a draw. -/
namespace Go.Proofs.Ytcpbemoiodbliaa
open Go.RowKit
theorem cell_d {w : World} {a : Addr} {v : Value} (h : w.cell? a = some v) : w.drew.cell? a = some v := h
end Go.Proofs.Ytcpbemoiodbliaa
