import Derived.Shelf.GgSortMore.Stable
import Derived.Test.YtcmijedhjebpkaaProg
import Derived.Test.YtcmijedhjebpkaaM3
import Derived.Deep.QuietTactic
import Derived.BigQuiet
import Derived.Test.YtcmijedhjebpkaaMS4
import Derived.Shelf.GgSortFunc.SW
/- The shelf's laying of sort.SliceStable at this program, in plain words (by lay2tpl.py). -/
namespace Go.Proofs.Ytcmijedhjebpkaa
open Go.Shelf
set_option linter.unusedVariables false
def ssRen : Go.Shelf.Ren := ⟨fun | 8 => 25 | 13 => 33 | 14 => 34 | 15 => 35 | 16 => 36 | 29 => 60 | 30 => 61 | 42 => 69 | 49 => 71 | n => n, fun | 0 => 0 | 3 => 3 | 4 => 4 | 5 => 5 | 12 => 12 | 17 => 17 | 20 => 20 | 26 => 45 | 33 => 56 | 34 => 57 | 36 => 59 | 38 => 61 | 42 => 65 | 47 => 52 | 56 => 101 | 82 => 102 | 83 => 103 | 84 => 104 | 85 => 105 | 86 => 106 | 87 => 107 | 89 => 109 | n => n, fun | n => n⟩
theorem ssLays : Go.Proofs.LaysGt.n8 Try.prog ssRen := {
  mixed := by kernel_rfl
  f8 := Try.func25.trans (congrArg some (by kernel_rfl))
  f13 := Try.func33.trans (congrArg some (by kernel_rfl))
  f14 := Try.func34.trans (congrArg some (by kernel_rfl))
  f15 := Try.func35.trans (congrArg some (by kernel_rfl))
  f16 := Try.func36.trans (congrArg some (by kernel_rfl))
  f29 := Try.func60.trans (congrArg some (by kernel_rfl))
  f30 := Try.func61.trans (congrArg some (by kernel_rfl))
  f42 := Try.func69.trans (congrArg some (by kernel_rfl))
  f49 := Try.func71.trans (congrArg some (by kernel_rfl))
  t0 := Try.underlying0
  a0 := Try.isAgg0
  z0 := Try.sizeOf0
  v0 := Try.zeroValue0
  i0 := by kernel_rfl
  t3 := Try.underlying3
  a3 := Try.isAgg3
  z3 := Try.sizeOf3
  v3 := Try.zeroValue3
  i3 := by kernel_rfl
  t4 := Try.underlying4
  a4 := Try.isAgg4
  z4 := Try.sizeOf4
  v4 := Try.zeroValue4
  i4 := by kernel_rfl
  t5 := Try.underlying5
  a5 := Try.isAgg5
  z5 := Try.sizeOf5
  v5 := Try.zeroValue5
  i5 := by kernel_rfl
  t12 := Try.underlying12
  a12 := Try.isAgg12
  z12 := Try.sizeOf12
  v12 := Try.zeroValue12
  i12 := by kernel_rfl
  t17 := Try.underlying17
  a17 := Try.isAgg17
  z17 := Try.sizeOf17
  v17 := Try.zeroValue17
  i17 := by kernel_rfl
  t20 := Try.underlying20
  a20 := Try.isAgg20
  z20 := Try.sizeOf20
  v20 := Try.zeroValue20
  i20 := by kernel_rfl
  t26 := Try.underlying45
  a26 := Try.isAgg45
  z26 := Try.sizeOf45
  v26 := Try.zeroValue45
  i26 := by kernel_rfl
  t33 := Try.underlying56
  a33 := Try.isAgg56
  z33 := Try.sizeOf56
  v33 := Try.zeroValue56
  i33 := by kernel_rfl
  t34 := Try.underlying57
  a34 := Try.isAgg57
  z34 := Try.sizeOf57
  v34 := Try.zeroValue57
  i34 := by kernel_rfl
  t36 := Try.underlying59
  a36 := Try.isAgg59
  z36 := Try.sizeOf59
  v36 := Try.zeroValue59
  i36 := by kernel_rfl
  t38 := Try.underlying61
  a38 := Try.isAgg61
  z38 := Try.sizeOf61
  v38 := Try.zeroValue61
  i38 := by kernel_rfl
  t42 := Try.underlying65
  a42 := Try.isAgg65
  z42 := Try.sizeOf65
  v42 := Try.zeroValue65
  i42 := by kernel_rfl
  t47 := Try.underlying52
  a47 := Try.isAgg52
  z47 := Try.sizeOf52
  v47 := Try.zeroValue52
  i47 := by kernel_rfl
  t56 := Try.underlying101
  a56 := Try.isAgg101
  z56 := Try.sizeOf101
  v56 := Try.zeroValue101
  i56 := by kernel_rfl
  t82 := Try.underlying102
  a82 := Try.isAgg102
  z82 := Try.sizeOf102
  v82 := Try.zeroValue102
  i82 := by kernel_rfl
  t83 := Try.underlying103
  a83 := Try.isAgg103
  z83 := Try.sizeOf103
  v83 := Try.zeroValue103
  i83 := by kernel_rfl
  t84 := Try.underlying104
  a84 := Try.isAgg104
  z84 := Try.sizeOf104
  v84 := Try.zeroValue104
  i84 := by kernel_rfl
  t85 := Try.underlying105
  a85 := Try.isAgg105
  z85 := Try.sizeOf105
  v85 := Try.zeroValue105
  i85 := by kernel_rfl
  t86 := Try.underlying106
  a86 := Try.isAgg106
  z86 := Try.sizeOf106
  v86 := Try.zeroValue106
  i86 := by kernel_rfl
  t87 := Try.underlying107
  a87 := Try.isAgg107
  z87 := Try.sizeOf107
  v87 := Try.zeroValue107
  i87 := by kernel_rfl
  t89 := Try.underlying109
  a89 := Try.isAgg109
  z89 := Try.sizeOf109
  v89 := Try.zeroValue109
  i89 := by kernel_rfl }
end Go.Proofs.Ytcmijedhjebpkaa

/- The closure that Split sorts by. -/
namespace Go.Proofs.Ytcmijedhjebpkaa
open Go.RowKit Go.Proofs.Geo Go.Proofs.Mon Go.Shelf Go.Lib Go.Sort
set_option linter.unusedVariables false
set_option maxHeartbeats 4000000 in
theorem closure_any (len gB gC gX gY : Nat) (R : List Int) (hR : R.length = len) (W : World) (hb : RowB .u64 40 gB R W) (hx : W.cell? ⟨gX, 0, none⟩ = some (.slice (some ⟨gB, 0, none⟩) len len)) (hy : W.cell? ⟨gY, 0, none⟩ = some (.slice (some ⟨gC, 0, none⟩) len len))
    (i j p q : Nat) (hi : i < len) (hj : j < len) (hp : p < len) (hq : q < len) (ci : W.cell? ⟨gC, i, none⟩ = some (.int .i64 (p : Int))) (cj : W.cell? ⟨gC, j, none⟩ = some (.int .i64 (q : Int))) :
    Calls Try.prog 26 #[.int .i64 i, .int .i64 j, .pointer (some ⟨gX, 0, none⟩), .pointer (some ⟨gY, 0, none⟩)] W fun e w' => e = .returned (.bool (decide (R.getD q 0 < R.getD p 0))) ∧ ∃ n, w' = W.drewN n := by
  have c1 := hb.cell (i := p) (by omega)
  have c2 := hb.cell (i := q) (by omega)
  have z1 : (0 : Int) ≤ (i : Int) := by omega
  have z2 : (i : Int) < (len : Int) := by omega
  have z3 : (0 : Int) ≤ (j : Int) := by omega
  have z4 : (j : Int) < (len : Int) := by omega
  have z5 : (0 : Int) ≤ (p : Int) := by omega
  have z6 : (p : Int) < (len : Int) := by omega
  have z7 : (0 : Int) ≤ (q : Int) := by omega
  have z8 : (q : Int) < (len : Int) := by omega
  generalize R.getD p 0 = x at *
  generalize R.getD q 0 = y at *
  have lB := hb.lt
  have lX := cell_lt hx; have lY := cell_lt hy; have lC := cell_lt ci
  clear hb hR
  go_enter Try.func26, Try.ntmps26
  go_upto_region 1 with fail
  go_quiet (fail)
  go_wp2_with fail
  go_ret
  exact ⟨rfl, nq, rfl⟩
end Go.Proofs.Ytcmijedhjebpkaa

/- sort.SliceStable of Split's places, up to twenty. -/
namespace Go.Proofs.Ytcmijedhjebpkaa
open Go.RowKit Go.Proofs.Geo Go.Proofs.Mon Go.Shelf Go.Lib Go.Sort
set_option linter.unusedVariables false
abbrev encF (m : Nat) (x : Fin (m + 1)) : Value := .int .i64 (x.val : Int)
theorem putCells_out (m : Nat) (d : Array (Fin (m + 1))) (c : Array Value) : putCells (encF m) 0 d c = putCells (Value.int .i64) 0 (outI d) c := by
  unfold putCells
  apply Array.ext_getElem?
  intro k
  rw [Array.getElem?_mapIdx, Array.getElem?_mapIdx]
  cases c[k]? with
  | none => rfl
  | some x =>
    simp only [Option.map_some, Nat.zero_le, Nat.zero_add, true_and, Nat.sub_zero, outI, Array.size_map]
    by_cases h : k < d.size
    · rw [if_pos h, if_pos h, getElem!_pos d k h, getElem!_pos _ k (by simpa using h)]
      simp
    · rw [if_neg h, if_neg h]
theorem putRow_out (m : Nat) (w : World) (g : Nat) (d : Array (Fin (m + 1))) : putRow (encF m) w g 0 d = putRow (Value.int .i64) w g 0 (outI d) := by
  unfold putRow
  exact mapBlock_congr w g _ _ fun c _ _ _ => putCells_out m d c
theorem holds_ids (m : Nat) {w : World} {g : Nat} (h : RowB .i64 3 g (idxL (m + 1)) w) : Holds (encF m) w g 0 (ids m) := fun j hj => by
  rw [ids_size] at hj
  refine ⟨?_, h.froz _⟩
  rw [Nat.zero_add, h.cell (by rw [idxL_len]; exact hj), idxL_get hj]
  unfold encF
  rw [ids_get m hj]
noncomputable def siT : TypeInfo := (Try.prog.info? 22).get (by kernel_rfl)
noncomputable def siE : TypeInfo := (Try.prog.info? 3).get (by kernel_rfl)
theorem siK (n : Nat) (h2 : 2 ≤ n) : Lib.swapperK n siE 2 = 5 := by
  have a : siE.hasPointers = false := by kernel_rfl
  have b : siE.bytes = 8 := by kernel_rfl
  have c : (n == 0) = false := by simp; omega
  have d : (n == 1) = false := by simp; omega
  simp [Lib.swapperK, a, b, c, d]
set_option maxHeartbeats 2000000 in
theorem less_reads (m : Nat) (R : List Int) (hR : R.length = m + 1) (w : World) (gB gC gX gY : Nat) (hb : RowB .u64 40 gB R w) (hc : RowB .i64 3 gC (idxL (m + 1)) w) (hx : w.cell? ⟨gX, 0, none⟩ = some (.slice (some ⟨gB, 0, none⟩) (m + 1) (m + 1))) (hy : w.cell? ⟨gY, 0, none⟩ = some (.slice (some ⟨gC, 0, none⟩) (m + 1) (m + 1)))
    (hbc : gB ≠ gC) (hxc : gX ≠ gC) (hyc : gY ≠ gC) : LessReads Try.prog 26 #[.pointer (some ⟨gX, 0, none⟩), .pointer (some ⟨gY, 0, none⟩)] (encF m) (ltF R) gC 0 (m + 1) w := by
  intro q os dk hs i j hi hj
  have hH := holds_ids m hc
  have hHw : Holds (encF m) (Sort.ahead w q) gC 0 (ids m) := holds_ahead _ _ _ _ _ _ hH
  have cc : ∀ k, k < m + 1 → (sortWorld (encF m) w gC 0 q dk os).cell? ⟨gC, k, none⟩ = some (.int .i64 (dk[k]!.val : Int)) := fun k hk => by
    unfold sortWorld
    rw [cell?_grow _ _ _ (by show gC < _; rw [size_putRow]; exact hc.lt)]
    have := cell?_putRow (encF m) (Sort.ahead w q) gC 0 (ids m) dk hHw (by rw [hs, ids_size]) k (by omega)
    rwa [Nat.zero_add] at this
  have e : sortWorld (encF m) w gC 0 q dk os = Sort.grow (Sort.putRow (Value.int .i64) (Sort.ahead w q) gC 0 (outI dk)) os := by unfold sortWorld; rw [putRow_out]
  have rb : RowB .u64 40 gB R (sortWorld (encF m) w gC 0 q dk os) := by rw [e]; exact hb.else' hbc _ _
  have rx : (sortWorld (encF m) w gC 0 q dk os).cell? ⟨gX, 0, none⟩ = some (.slice (some ⟨gB, 0, none⟩) (m + 1) (m + 1)) := by
    rw [e]; exact (World.cell?_of_block (a := ⟨gX, 0, none⟩) (heap_sorted (cell_lt hx) hxc)).trans hx
  have ry : (sortWorld (encF m) w gC 0 q dk os).cell? ⟨gY, 0, none⟩ = some (.slice (some ⟨gC, 0, none⟩) (m + 1) (m + 1)) := by
    rw [e]; exact (World.cell?_of_block (a := ⟨gY, 0, none⟩) (heap_sorted (cell_lt hy) hyc)).trans hy
  exact closure_any (m + 1) gB gC gX gY R hR _ rb rx ry i j dk[i]!.val dk[j]!.val hi hj dk[i]!.isLt dk[j]!.isLt (cc i hi) (cc j hj)
set_option maxHeartbeats 2000000 in
theorem sort_z (m z : Nat) (hz : z = (ids m).size) (hm : 1 ≤ m) (h20 : m + 1 ≤ 20) (R : List Int) (w : World) (gC gX gY : Nat)
    (hless : LessReads Try.prog 26 #[.pointer (some ⟨gX, 0, none⟩), .pointer (some ⟨gY, 0, none⟩)] (encF m) (ltF R) gC 0 z w) (hH : Holds (encF m) w gC 0 (ids m)) (hlt : gC < w.heap.size) :
    Calls Try.prog 25 #[.iface 22 (.slice (some ⟨gC, 0, none⟩) z z), .func (.func 26) #[] #[.pointer (some ⟨gX, 0, none⟩), .pointer (some ⟨gY, 0, none⟩)]] w fun e w' =>
      e = .returned (.tuple #[]) ∧ ∃ n os, w' = Sort.grow (Sort.putRow (encF m) (Sort.ahead w n) gC 0 (Sort.insertionSort (ltF R) (ids m) 0 z)) os := by
  subst hz
  exact Any.sort_SliceStable_small ssLays 22 3 siT siE (by kernel_rfl) (by kernel_rfl) (by kernel_rfl) (by kernel_rfl) 2 (fun _ => by kernel_rfl) (by kernel_rfl) (fun _ => by kernel_rfl) (encF m) (fun _ => rfl) (ltF R) 26 _
    (enters_of Try.func26 (by kernel_rfl) rfl) gC 0 _ (ids m) (by rw [ids_size]; omega) (by rw [ids_size]; exact h20) 55 (by rw [siK _ (by rw [ids_size]; omega)]; kernel_rfl) true
    (fun args W => run_callFunc_extern Try.func55 (by kernel_rfl) (by kernel_rfl) (by kernel_rfl) (e := Extern.ReflectliteSwapper.swap true) (by kernel_rfl) args W) w hless hH hlt
theorem sortC_small (m : Nat) (hm : 1 ≤ m) (h20 : m + 1 ≤ 20) (R : List Int) (hR : R.length = m + 1) : SortC (m + 1) R := by
  intro w gB gC gX gY hb hc hx hy hbc hxc hyc
  have h := sort_z m (m + 1) (ids_size m).symm hm h20 R w gC gX gY (less_reads m R hR w gB gC gX gY hb hc hx hy hbc hxc hyc) (holds_ids m hc) hc.lt
  refine Calls.mono h ?_
  rintro e w' ⟨rfl, n, os, rfl⟩
  obtain ⟨s1, s2⟩ := srt_ins m R hR
  exact ⟨rfl, n, outI _, os, by simp [outI, s2], s1, by rw [putRow_out]⟩
theorem sortC_one (R : List Int) (hR : R.length = 1) : SortC 1 R := by
  intro w gB gC gX gY hb hc hx hy hbc hxc hyc
  have h := Any.sort_SliceStable_tiny ssLays 22 3 siT siE (by kernel_rfl) (by kernel_rfl) (by kernel_rfl) (by kernel_rfl) 2 (fun _ => by kernel_rfl) (some ⟨gC, 0, none⟩) 1 1 (by omega) 52 (by kernel_rfl) (.func 26) #[] #[.pointer (some ⟨gX, 0, none⟩), .pointer (some ⟨gY, 0, none⟩)] w
  refine Calls.mono h ?_
  rintro e w' ⟨rfl, os, rfl⟩
  refine ⟨rfl, 0, outI (ids 0), os, by simp [outI, ids_size], ?_, ?_⟩
  · have := (srt_ins 0 R hR).1
    rwa [show insertionSort (ltF R) (ids 0) 0 (0 + 1) = ids 0 by rw [insertionSort]; exact insOuter_stop _ 0 1 1 _ (by omega)] at this
  · rw [← putRow_out, ahead_zero, putRow_self _ _ _ _ _ (holds_ids 0 hc)]
end Go.Proofs.Ytcmijedhjebpkaa

/- Plain: exchanges side by side, rotations. -/
namespace Go.Proofs.Mon
open Go.Sort
set_option linter.unusedVariables false
section
variable {α : Type} [Inhabited α]
/-- The first of some exchanges, one beside the other. -/
def swapR (a b : Nat) (d : Array α) : Nat → Array α
  | 0 => d
  | n + 1 => swp (swapR a b d n) (a + n) (b + n)
theorem swapR_size (a b : Nat) (d : Array α) : ∀ n, (swapR a b d n).size = d.size
  | 0 => rfl
  | n + 1 => by unfold swapR; rw [size_swp, swapR_size a b d n]
/-- What lies where behind them, of two ranges with nothing in common. -/
theorem swapR_get {a b : Nat} {d : Array α} : ∀ n, a + n ≤ b → b + n ≤ d.size → ∀ x, (swapR a b d n)[x]! = if a ≤ x ∧ x < a + n then d[x - a + b]! else if b ≤ x ∧ x < b + n then d[x - b + a]! else d[x]! := by
  intro n
  induction n with
  | zero =>
    intro _ _ x
    rw [if_neg (by omega), if_neg (by omega)]; rfl
  | succ n ih =>
    intro h1 h2 x
    have hs := swapR_size a b d n
    unfold swapR
    by_cases e1 : x = a + n
    · subst e1
      rw [swp_left _ _ _ (by omega) (by omega), ih (by omega) (by omega), if_neg (by omega), if_neg (by omega), if_pos (by omega)]
      congr 1; omega
    · by_cases e2 : x = b + n
      · subst e2
        rw [swp_right _ _ _ (by omega), ih (by omega) (by omega), if_neg (by omega), if_neg (by omega), if_neg (by omega), if_pos (by omega)]
        congr 1; omega
      · rw [swp_other _ _ _ _ e1 e2, ih (by omega) (by omega)]
        have k1 : (a ≤ x ∧ x < a + (n + 1)) ↔ (a ≤ x ∧ x < a + n) := by omega
        have k2 : (b ≤ x ∧ x < b + (n + 1)) ↔ (b ≤ x ∧ x < b + n) := by omega
        simp only [k1, k2]
theorem swapR_perm {a b lo hi : Nat} {d : Array α} : ∀ n, lo ≤ a → lo ≤ b → a + n ≤ hi → b + n ≤ hi → hi ≤ d.size → PermIn lo hi d (swapR a b d n) := by
  intro n
  induction n with
  | zero => intro _ _ _ _ _; exact permIn_refl _ _ _
  | succ n ih =>
    intro h1 h2 h3 h4 h5
    exact permIn_trans _ _ _ _ _ (ih h1 h2 (by omega) (by omega) h5) (swp_permIn _ _ _ _ _ (by omega) (by omega) (by omega) (by omega) (by rw [swapR_size]; exact h5))
/-- The part [a, m) and the part [m, b) have changed places. -/
structure Rot (a m b : Nat) (d d' : Array α) : Prop where
  size : d'.size = d.size
  out : ∀ x, x < a ∨ b ≤ x → d'[x]! = d[x]!
  fst : ∀ x, x < b - m → d'[a + x]! = d[m + x]!
  snd : ∀ x, x < m - a → d'[a + (b - m) + x]! = d[a + x]!
  perm : PermIn a b d d'
/-- The two parts are of one length. -/
theorem rot_same {m i : Nat} {d : Array α} (hi : i ≤ m) (h : m + i ≤ d.size) : Rot (m - i) m (m + i) d (swapR (m - i) m d i) := by
  have g := swapR_get (a := m - i) (b := m) (d := d) i (by omega) h
  refine ⟨swapR_size _ _ _ _, fun x hx => ?_, fun x hx => ?_, fun x hx => ?_, swapR_perm i (by omega) (by omega) (by omega) (by omega) h⟩
  · rw [g, if_neg (by omega), if_neg (by omega)]
  · rw [g, if_pos (by omega)]; congr 1; omega
  · rw [g, if_neg (by omega), if_pos (by omega)]; congr 1; omega
/-- The first part is the longer one. -/
theorem rot_left {m i j : Nat} {d d' : Array α} (hi : i ≤ m) (hj : j < i) (h0 : 0 < j) (h : m + j ≤ d.size) (hr : Rot (m - (i - j)) m (m + j) (swapR (m - i) m d j) d') : Rot (m - i) m (m + j) d d' := by
  have g := swapR_get (a := m - i) (b := m) (d := d) j (by omega) h
  have hp := swapR_perm (a := m - i) (b := m) (lo := m - i) (hi := m + j) (d := d) j (by omega) (by omega) (by omega) (by omega) h
  refine ⟨by rw [hr.size, swapR_size], fun x hx => ?_, fun x hx => ?_, fun x hx => ?_, permIn_trans _ _ _ _ _ hp (permIn_mono _ _ _ _ _ _ (by omega) (by omega) (by rw [swapR_size]; omega) hr.perm)⟩
  · rw [hr.out x (by omega), g, if_neg (by omega), if_neg (by omega)]
  · rw [hr.out _ (by omega), g, if_pos (by omega)]; congr 1; omega
  · by_cases e : x < j
    · have := hr.fst x (by omega)
      rw [show m - i + (m + j - m) + x = m - (i - j) + x by omega, this, g, if_neg (by omega), if_pos (by omega)]
      congr 1; omega
    · have := hr.snd (x - j) (by omega)
      rw [show m - i + (m + j - m) + x = m - (i - j) + (m + j - m) + (x - j) by omega, this, g, if_neg (by omega), if_neg (by omega)]
      congr 1; omega
/-- The second part is the longer one. -/
theorem rot_right {m i j : Nat} {d d' : Array α} (hi : i ≤ m) (hj : i < j) (h0 : 0 < i) (h : m + j ≤ d.size) (hr : Rot (m - i) m (m + (j - i)) (swapR (m - i) (m + j - i) d i) d') : Rot (m - i) m (m + j) d d' := by
  have g := swapR_get (a := m - i) (b := m + j - i) (d := d) i (by omega) (by omega)
  have hp := swapR_perm (a := m - i) (b := m + j - i) (lo := m - i) (hi := m + j) (d := d) i (by omega) (by omega) (by omega) (by omega) h
  refine ⟨by rw [hr.size, swapR_size], fun x hx => ?_, fun x hx => ?_, fun x hx => ?_, permIn_trans _ _ _ _ _ hp (permIn_mono _ _ _ _ _ _ (by omega) (by omega) (by rw [swapR_size]; omega) hr.perm)⟩
  · rw [hr.out x (by omega), g, if_neg (by omega), if_neg (by omega)]
  · by_cases e : x < j - i
    · have := hr.fst x (by omega)
      rw [this, g, if_neg (by omega), if_neg (by omega)]
    · have := hr.snd (x - (j - i)) (by omega)
      rw [show m - i + x = m - i + (m + (j - i) - m) + (x - (j - i)) by omega, this, g, if_pos (by omega)]
      congr 1; omega
  · rw [hr.out _ (by omega), g, if_neg (by omega), if_pos (by omega)]; congr 1; omega
end
end Go.Proofs.Mon

/- sort's swapRange_func and rotate_func: what they do to a row. -/
namespace Go.Proofs.Ytcmijedhjebpkaa
open Go.RowKit Go.Proofs.Geo Go.Proofs.Mon Go.Shelf Go.Lib Go.Sort
set_option linter.unusedVariables false
section
variable {α : Type} [Inhabited α] {enc : α → Value} {lt : α → α → Bool} {g : Nat} {lb : Array Value} {sf : Nat} {sb : Array Value} {blk off N : Nat}
/-- The box of the two functions. -/
abbrev lsBox (g : Nat) (lb : Array Value) (sf : Nat) (sb : Array Value) : Obj := .cells #[.func (.func g) #[] lb, .func (.func sf) #[] sb] 65
/-- What is asked of the two functions, at a world. -/
structure LS (enc : α → Value) (lt : α → α → Bool) (g : Nat) (lb : Array Value) (sf : Nat) (sb : Array Value) (blk off N : Nat) (W : World) : Prop where
  eg : ∀ args w, (callFunc g args).run Try.prog w = .ok (.enter g args) w
  less : LessReads Try.prog g lb enc lt blk off N W
  swap : SwapSwaps Try.prog sf sb enc blk off N
  lt : blk < W.heap.size
  N : N < 4611686018427387904
theorem LS.on {W w' : World} {dk : Array α} (h : LS enc lt g lb sf sb blk off N W) (s : SW enc W blk off dk w') (hs : dk.size = N) : LS enc lt g lb sf sb blk off N w' :=
  ⟨h.eg, s.lessReads h.less h.lt hs, h.swap, s.lt h.lt, h.N⟩
/-- A cell of another block stays. -/
theorem SW_cell {W w' : World} {dk : Array α} (s : SW enc W blk off dk w') {B k : Nat} {v : Value} (hB : B ≠ blk) (h : W.cell? ⟨B, k, none⟩ = some v) : w'.cell? ⟨B, k, none⟩ = some v := by
  obtain ⟨n, os, rfl⟩ := s
  have hl : B < W.heap.size := cell_lt h
  unfold sortWorld
  rw [cell?_grow _ _ _ (by rw [size_putRow]; exact hl), cell?_putRow_other enc _ blk off _ _ (Or.inl hB)]
  exact h
theorem SW_trans {W w1 w' : World} {d dk : Array α} (s : SW enc W blk off d w1) (hb : blk < W.heap.size) (t : SW enc w1 blk off dk w') (hs : dk.size = d.size) : SW enc W blk off dk w' := by
  obtain ⟨n, os, rfl⟩ := t
  exact s.on hb n dk os hs
set_option maxHeartbeats 4000000 in
set_option maxRecDepth 100000 in
theorem swapRange_any (a b n : Nat) (d : Array α) (W : World) (H : LS enc lt g lb sf sb blk off N W) (hH : Holds enc W blk off d) (hd : d.size = N) (ha : a + n ≤ N) (hb : b + n ≤ N) :
    Calls Try.prog 71 #[.agg #[.func (.func g) #[] lb, .func (.func sf) #[] sb], .int .i64 a, .int .i64 b, .int .i64 n] W fun e w' => e = .returned (.tuple #[]) ∧ SW enc W blk off (swapR a b d n) w' := by
  have hN := H.N
  have hb0 : W.heap.size ≠ blk := by have := H.lt; omega
  have s0 := Lib.hid ((SW.start hH).alloc (lsBox g lb sf sb))
  obtain ⟨w1, hw1⟩ : ∃ w1, W.alloc (lsBox g lb sf sb) = w1 := ⟨_, rfl⟩
  have c0 : w1.cell? ⟨W.heap.size, 0, none⟩ = some (.func (.func g) #[] lb) := by rw [← hw1]; simp [go_sem]
  have c1 : w1.cell? ⟨W.heap.size, 1, none⟩ = some (.func (.func sf) #[] sb) := by rw [← hw1]; simp [go_sem]
  have HH := Lib.hid H; have HHO := Lib.hid hH; have HD := Lib.hid hd
  clear H hH hd
  go_enter Try.func71, Try.ntmps71
  go_wp2_with fail
  rw [hw1] at s0
  have hH1 : Hid (Holds enc w1 blk off d) := Lib.hid (s0.out.holds HH.out.lt HHO.out rfl)
  have C0 := Lib.hid c0; have C1 := Lib.hid c1
  clear c0 c1 hw1
  go_loopw [8] (fun i wr => ∃ k : Nat, k ≤ n ∧ i = .int .i64 k ∧ SW enc w1 blk off (swapR a b d k) wr) (fun i _ => n - (intOf i).toNat)
  case atStart => exact ⟨0, by omega, rfl, SW.start hH1.out⟩
  case round =>
    obtain ⟨k, hk, rfl, hs⟩ := hrel
    have HS := Lib.hid hs
    by_cases hlt : k < n
    · have c1 := SW_cell hs hb0 C1.out
      have lB := cell_lt c1
      have z1 : (k : Int) < (n : Int) := by omega
      have w1' : IntKind.i64.wrap ((a : Int) + (k : Int)) = (a : Int) + (k : Int) := IntWalk.i64_in _ (by omega)
      have w2' : IntKind.i64.wrap ((b : Int) + (k : Int)) = (b : Int) + (k : Int) := IntWalk.i64_in _ (by omega)
      have w3' : IntKind.i64.wrap ((k : Int) + 1) = (k : Int) + 1 := IntWalk.i64_in _ (by omega)
      have hsz : (swapR a b d k).size = N := by rw [swapR_size]; exact HD.out
      have hsw := HH.out.swap wr (swapR a b d k) (hs.holds (s0.out.lt HH.out.lt) hH1.out (by rw [swapR_size])) hsz (a + k) (b + k) (by omega) (by omega)
      rw [Int.natCast_add, Int.natCast_add] at hsw
      have HSW := Lib.hid hsw
      have HNX := Lib.hid (hs.swap (s0.out.lt HH.out.lt) (a + k) (b + k) (by omega) (by omega))
      clear hsw hs
      go_wp2_with fail
      rw [HSW.out, Oper.upon_value]
      go_wp2_with fail
      exact ⟨⟨k + 1, by omega, by go_num, HNX.out⟩, by simp [intOf]; omega⟩
    · obtain rfl : k = n := by omega
      go_wp2_with fail
      go_end0
      exact ⟨rfl, SW_trans s0.out HH.out.lt HS.out (by rw [swapR_size])⟩
set_option maxHeartbeats 4000000 in
set_option maxRecDepth 100000 in
theorem rotate_any (a m b : Nat) (d : Array α) (W : World) (H : LS enc lt g lb sf sb blk off N W) (hH : Holds enc W blk off d) (hd : d.size = N) (ham : a < m) (hmb : m < b) (hb : b ≤ N) :
    Calls Try.prog 69 #[.agg #[.func (.func g) #[] lb, .func (.func sf) #[] sb], .int .i64 a, .int .i64 m, .int .i64 b] W fun e w' => e = .returned (.tuple #[]) ∧ ∃ d', Rot a m b d d' ∧ SW enc W blk off d' w' := by
  have hN := H.N
  have hb0 : W.heap.size ≠ blk := by have := H.lt; omega
  have s0 := Lib.hid ((SW.start hH).alloc (lsBox g lb sf sb))
  obtain ⟨w1, hw1⟩ : ∃ w1, W.alloc (lsBox g lb sf sb) = w1 := ⟨_, rfl⟩
  have c0 : w1.cell? ⟨W.heap.size, 0, none⟩ = some (.func (.func g) #[] lb) := by rw [← hw1]; simp [go_sem]
  have c1 : w1.cell? ⟨W.heap.size, 1, none⟩ = some (.func (.func sf) #[] sb) := by rw [← hw1]; simp [go_sem]
  have wi : IntKind.i64.wrap ((m : Int) - (a : Int)) = ((m - a : Nat) : Int) := by rw [IntWalk.i64_in _ (by omega)]; omega
  have wj : IntKind.i64.wrap ((b : Int) - (m : Int)) = ((b - m : Nat) : Int) := by rw [IntWalk.i64_in _ (by omega)]; omega
  have HH := Lib.hid H; have HHO := Lib.hid hH; have HD := Lib.hid hd
  clear H hH hd
  go_enter Try.func69, Try.ntmps69
  go_wp2_with fail
  rw [hw1] at s0
  have hH1 : Hid (Holds enc w1 blk off d) := Lib.hid (s0.out.holds HH.out.lt HHO.out rfl)
  have HL1 := Lib.hid (HH.out.on s0.out HD.out)
  have C0 := Lib.hid c0; have C1 := Lib.hid c1
  clear c0 c1 hw1 wi wj
  go_loopw [8, 9] (fun vi vj wr => ∃ (i j : Nat) (dk : Array α), vi = .int .i64 i ∧ vj = .int .i64 j ∧ 1 ≤ i ∧ i ≤ m - a ∧ 1 ≤ j ∧ j ≤ b - m ∧ dk.size = N ∧ SW enc w1 blk off dk wr ∧ ∀ d', Rot (m - i) m (m + j) dk d' → Rot a m b d d') (fun vi vj _ => (intOf vi).toNat + (intOf vj).toNat)
  case atStart => exact ⟨m - a, b - m, d, rfl, rfl, by omega, by omega, by omega, by omega, HD.out, SW.start hH1.out, fun d' h => by rwa [show m - (m - a) = a by omega, show m + (b - m) = b by omega] at h⟩
  case round =>
    obtain ⟨i, j, dk, rfl, rfl, hi1, hi2, hj1, hj2, hk, hs, hR⟩ := hrel
    have c0 := SW_cell hs hb0 C0.out
    have c1 := SW_cell hs hb0 C1.out
    have lB := cell_lt c1
    have HS := Lib.hid hs
    have HR := Lib.hid hR
    have HK := Lib.hid hk
    have hL := HL1.out.on hs hk
    have hHo := hs.holds HL1.out.lt hH1.out (by rw [hk, HD.out])
    have m1 : IntKind.i64.wrap ((m : Int) - (i : Int)) = (m : Int) - (i : Int) := IntWalk.i64_in _ (by omega)
    have m2 : IntKind.i64.wrap ((m : Int) + (j : Int)) = (m : Int) + (j : Int) := IntWalk.i64_in _ (by omega)
    have m3 : IntKind.i64.wrap ((m : Int) + (j : Int) - (i : Int)) = (m : Int) + (j : Int) - (i : Int) := IntWalk.i64_in _ (by omega)
    have m4 : IntKind.i64.wrap ((i : Int) - (j : Int)) = (i : Int) - (j : Int) := IntWalk.i64_in _ (by omega)
    have m5 : IntKind.i64.wrap ((j : Int) - (i : Int)) = (j : Int) - (i : Int) := IntWalk.i64_in _ (by omega)
    by_cases hij : i = j
    · subst hij
      have hc := swapRange_any (m - i) m i dk wr hL hHo hk (by omega) (by omega)
      rw [show ((m - i : Nat) : Int) = (m : Int) - (i : Int) by omega] at hc
      have HC := Lib.hid hc
      clear hc hR hs hk hL hHo
      go_wp2_with (go_at_call 71; refine HC.out.mono ?_; rintro e wk ⟨rfl, hsk⟩)
      go_end0
      exact ⟨rfl, _, HR.out _ (rot_same (by omega) (by rw [HK.out]; omega)), SW_trans s0.out HH.out.lt (SW_trans HS.out HL1.out.lt hsk (by rw [swapR_size])) (by rw [swapR_size, HK.out, HD.out])⟩
    · have t0 : ((i : Int) != (j : Int)) = true := by simp; omega
      by_cases hlt : j < i
      · have z1 : (j : Int) < (i : Int) := by omega
        have hc := swapRange_any (m - i) m j dk wr hL hHo hk (by omega) (by omega)
        rw [show ((m - i : Nat) : Int) = (m : Int) - (i : Int) by omega] at hc
        have HC := Lib.hid hc
        clear hc hR hs hk hL hHo
        go_wp2_with (go_at_call 71; refine HC.out.mono ?_; rintro e wk ⟨rfl, hsk⟩)
        exact ⟨⟨i - j, j, _, by go_num, rfl, by omega, by omega, by omega, by omega, by rw [swapR_size]; exact HK.out, SW_trans HS.out HL1.out.lt hsk (by rw [swapR_size]), fun d' h => HR.out _ (rot_left (by omega) hlt (by omega) (by rw [HK.out]; omega) h)⟩, by simp [intOf]; omega⟩
      · have z1 : ¬ (j : Int) < (i : Int) := by omega
        have hc := swapRange_any (m - i) (m + j - i) i dk wr hL hHo hk (by omega) (by omega)
        rw [show ((m - i : Nat) : Int) = (m : Int) - (i : Int) by omega, show ((m + j - i : Nat) : Int) = (m : Int) + (j : Int) - (i : Int) by omega] at hc
        have HC := Lib.hid hc
        clear hc hR hs hk hL hHo
        go_wp2_with (go_at_call 71; refine HC.out.mono ?_; rintro e wk ⟨rfl, hsk⟩)
        exact ⟨⟨i, j - i, _, rfl, by go_num, by omega, by omega, by omega, by omega, by rw [swapR_size]; exact HK.out, SW_trans HS.out HL1.out.lt hsk (by rw [swapR_size]), fun d' h => HR.out _ (rot_right (by omega) (by omega) (by omega) (by rw [HK.out]; omega) h)⟩, by simp [intOf]; omega⟩
end
end Go.Proofs.Ytcmijedhjebpkaa

/- Plain: the symmetric merge. -/
namespace Go.Proofs.Mon
open Go.Sort
set_option linter.unusedVariables false
set_option linter.unusedSectionVars false
section
variable {α : Type} [Inhabited α] {T lt : α → α → Bool}
/-- Two sorted parts; what 'less' says of one of the second and one of the first is what the order says. -/
structure Two (T lt : α → α → Bool) (a m b : Nat) (d : Array α) : Prop where
  sl : SortedIn T a m d
  sr : SortedIn T m b d
  cr : ∀ i j, a ≤ i → i < m → m ≤ j → j < b → lt d[j]! d[i]! = T d[j]! d[i]!
theorem rot_triv {a m b : Nat} {d : Array α} (h : a = m ∨ m = b) (ha : a ≤ m) (hb : m ≤ b) : Rot a m b d d := by
  refine ⟨rfl, fun _ _ => rfl, fun x hx => ?_, fun x hx => ?_, permIn_refl _ _ _⟩
  · rcases h with h | h
    · subst h; rfl
    · omega
  · rcases h with h | h
    · omega
    · subst h; congr 1; omega
theorem asym (h : SWO T) {x y : α} (g : T x y = true) : T y x = false := by
  cases e : T y x with
  | false => rfl
  | true => have := h.trans _ _ _ g e; rw [h.irrefl] at this; cases this
theorem sorted_le (h : SWO T) {a b i j : Nat} {d : Array α} (hs : SortedIn T a b d) (hi : a ≤ i) (hij : i ≤ j) (hj : j < b) : T d[j]! d[i]! = false := by
  rcases Nat.lt_or_ge i j with g | g
  · exact hs i j hi g hj
  · obtain rfl : i = j := by omega
    exact h.irrefl _
/-- Where what lies behind the rotation. -/
theorem rot_at {a st m en b : Nat} {d d1 : Array α} (hr : Rot st m en d d1) (h1 : a ≤ st) (h2 : st ≤ m) (h3 : m ≤ en) (h4 : en ≤ b) {x : Nat} (ha : a ≤ x) (hb : x < b) :
    (x < st ∧ d1[x]! = d[x]!) ∨ (st ≤ x ∧ x < st + (en - m) ∧ d1[x]! = d[m + (x - st)]!) ∨ (st + (en - m) ≤ x ∧ x < en ∧ d1[x]! = d[st + (x - (st + (en - m)))]!) ∨ (en ≤ x ∧ d1[x]! = d[x]!) := by
  by_cases g1 : x < st
  · exact .inl ⟨g1, hr.out x (.inl g1)⟩
  · by_cases g2 : x < st + (en - m)
    · refine .inr (.inl ⟨by omega, g2, ?_⟩)
      have := hr.fst (x - st) (by omega)
      rwa [show st + (x - st) = x by omega] at this
    · by_cases g3 : x < en
      · refine .inr (.inr (.inl ⟨by omega, g3, ?_⟩))
        have := hr.snd (x - (st + (en - m))) (by omega)
        rwa [show st + (en - m) + (x - (st + (en - m))) = x by omega] at this
      · exact .inr (.inr (.inr ⟨by omega, hr.out x (.inr (by omega))⟩))
section
variable {a st m en b : Nat} {d d1 : Array α} (hS : SWO T) (h2 : Two T lt a m b d) (hr : Rot st m en d d1) (q1 : a ≤ st) (q2 : st ≤ m) (q3 : m ≤ en) (q4 : en ≤ b)
  (p1 : a < st → en < b → T d[en]! d[st - 1]! = false) (p2 : st < m → m < en → T d[en - 1]! d[st]! = true)
include hS h2 hr q1 q2 q3 q4
/-- The first half: two sorted parts again. -/
theorem sym_first : Two T lt a st (st + (en - m)) d1 := by
  refine ⟨fun i j hi hij hj => ?_, fun i j hi hij hj => ?_, fun i j hi him hj hjb => ?_⟩
  · rw [hr.out i (by omega), hr.out j (by omega)]
    exact h2.sl i j hi hij (by omega)
  · have ei := hr.fst (i - st) (by omega)
    have ej := hr.fst (j - st) (by omega)
    rw [show st + (i - st) = i by omega] at ei
    rw [show st + (j - st) = j by omega] at ej
    rw [ei, ej]
    exact h2.sr _ _ (by omega) (by omega) (by omega)
  · have ej := hr.fst (j - st) (by omega)
    rw [show st + (j - st) = j by omega] at ej
    rw [hr.out i (by omega), ej]
    exact h2.cr _ _ hi (by omega) (by omega) (by omega)
/-- The second half. -/
theorem sym_second : Two T lt (st + (en - m)) en b d1 := by
  refine ⟨fun i j hi hij hj => ?_, fun i j hi hij hj => ?_, fun i j hi him hj hjb => ?_⟩
  · have ei := hr.snd (i - (st + (en - m))) (by omega)
    have ej := hr.snd (j - (st + (en - m))) (by omega)
    rw [show st + (en - m) + (i - (st + (en - m))) = i by omega] at ei
    rw [show st + (en - m) + (j - (st + (en - m))) = j by omega] at ej
    rw [ei, ej]
    exact h2.sl _ _ (by omega) (by omega) (by omega)
  · rw [hr.out i (by omega), hr.out j (by omega)]
    exact h2.sr i j (by omega) hij hj
  · have ei := hr.snd (i - (st + (en - m))) (by omega)
    rw [show st + (en - m) + (i - (st + (en - m))) = i by omega] at ei
    rw [hr.out j (by omega), ei]
    exact h2.cr _ _ (by omega) (by omega) (by omega) hjb
include p1 p2
/-- What stands in the first half is not behind what stands in the second. -/
theorem sym_cross : ∀ i j, a ≤ i → i < st + (en - m) → st + (en - m) ≤ j → j < b → T d1[j]! d1[i]! = false := by
  intro i j hi him hj hjb
  rcases rot_at hr q1 q2 q3 q4 hi (x := i) (by omega) with ⟨g, e⟩ | ⟨g, g', e⟩ | ⟨g, g', e⟩ | ⟨g, e⟩
  · rcases rot_at hr q1 q2 q3 q4 (x := j) (by omega) hjb with ⟨k, f⟩ | ⟨k, k', f⟩ | ⟨k, k', f⟩ | ⟨k, f⟩
    · omega
    · omega
    · rw [e, f]; exact h2.sl _ _ hi (by omega) (by omega)
    · rw [e, f]
      have s1 := sorted_le hS h2.sr (i := en) (j := j) q3 k hjb
      have s2 := p1 (by omega) (by omega)
      have s3 := sorted_le hS h2.sl (i := i) (j := st - 1) hi (by omega) (by omega)
      exact hS.ntrans _ _ _ s1 (hS.ntrans _ _ _ s2 s3)
  · rcases rot_at hr q1 q2 q3 q4 (x := j) (by omega) hjb with ⟨k, f⟩ | ⟨k, k', f⟩ | ⟨k, k', f⟩ | ⟨k, f⟩
    · omega
    · omega
    · rw [e, f]
      have s1 := sorted_le hS h2.sl (i := st) (j := st + (j - (st + (en - m)))) q1 (by omega) (by omega)
      have s2 := asym hS (p2 (by omega) (by omega))
      have s3 := sorted_le hS h2.sr (i := m + (i - st)) (j := en - 1) (by omega) (by omega) (by omega)
      exact hS.ntrans _ _ _ s1 (hS.ntrans _ _ _ s2 s3)
    · rw [e, f]; exact h2.sr _ _ (by omega) (by omega) hjb
  · omega
  · omega
end
theorem two_out {a m b lo hi : Nat} {d d' : Array α} (h : Two T lt a m b d) (ham : a ≤ m) (hmb : m ≤ b) (hp : PermIn lo hi d d') (ho : b ≤ lo ∨ hi ≤ a) : Two T lt a m b d' := by
  have e : ∀ x, a ≤ x → x < b → d'[x]! = d[x]! := fun x h1 h2 => hp.2.1 x (by omega)
  refine ⟨fun i j hi hij hj => ?_, fun i j hi hij hj => ?_, fun i j hi him hj hjb => ?_⟩
  · rw [e i hi (by omega), e j (by omega) (by omega)]; exact h.sl i j hi hij hj
  · rw [e i (by omega) (by omega), e j (by omega) (by omega)]; exact h.sr i j hi hij hj
  · rw [e i hi (by omega), e j (by omega) hjb]; exact h.cr i j hi him hj hjb
theorem sorted_join {a m b : Nat} {d : Array α} (s1 : SortedIn T a m d) (s2 : SortedIn T m b d) (c : ∀ i j, a ≤ i → i < m → m ≤ j → j < b → T d[j]! d[i]! = false) : SortedIn T a b d := by
  intro i j hi hij hj
  by_cases g1 : j < m
  · exact s1 i j hi hij g1
  · by_cases g2 : i < m
    · exact c i j hi g2 (by omega) hj
    · exact s2 i j (by omega) hij hj
/-- Both halves sorted: all is. -/
theorem sym_done {a mid b : Nat} {d1 d2 d3 : Array α} (ha : a ≤ mid) (hb : mid ≤ b) (hsz : b ≤ d1.size) (hc : ∀ i j, a ≤ i → i < mid → mid ≤ j → j < b → T d1[j]! d1[i]! = false)
    (k2 : PermIn a mid d1 d2) (s2 : SortedIn T a mid d2) (k3 : PermIn mid b d2 d3) (s3 : SortedIn T mid b d3) : PermIn a b d1 d3 ∧ SortedIn T a b d3 := by
  refine ⟨permIn_trans _ _ _ _ _ (permIn_mono _ _ _ _ _ _ (Nat.le_refl _) hb hsz k2) (permIn_mono _ _ _ _ _ _ ha (Nat.le_refl _) (by rw [k2.1]; exact hsz) k3), ?_⟩
  have e2 : ∀ x, a ≤ x → x < mid → d3[x]! = d2[x]! := fun x h1 h2 => k3.2.1 x (.inl h2)
  refine sorted_join (m := mid) (fun i j hi hij hj => ?_) s3 fun i j hi him hj hjb => ?_
  · rw [e2 i hi (by omega), e2 j (by omega) hj]; exact s2 i j hi hij hj
  · rw [e2 i hi him]
    have h1 : ∀ x, a ≤ x → x < mid → ∀ y, mid ≤ y → y < b → T d1[y]! d2[x]! = false := fun x hx hx2 => permIn_all d1 d2 a mid (fun z => ∀ y, mid ≤ y → y < b → T d1[y]! z = false) (by omega) k2 (fun z hz hz2 y hy hy2 => hc z y hz hz2 hy hy2) x hx hx2
    exact permIn_all d2 d3 mid b (fun z => T z d2[i]! = false) (by rw [k2.1]; exact hsz) k3 (fun y hy hy2 => by rw [k2.2.1 y (.inr hy)]; exact h1 i hi him y hy hy2) j hj hjb
/-- The first part is one alone. -/
theorem one_left {a en b : Nat} {d d1 : Array α} (hS : SWO T) (h2 : Two T lt a (a + 1) b d) (hr : Rot a (a + 1) en d d1) (q3 : a + 1 ≤ en) (q4 : en ≤ b)
    (p2 : a + 1 < en → T d[en - 1]! d[a]! = true) (p3 : en < b → T d[en]! d[a]! = false) : SortedIn T a b d1 := by
  have hc := sym_cross hS h2 hr (Nat.le_refl _) (by omega) q3 q4 (fun h => absurd h (by omega)) (fun _ h => p2 h)
  have f1 := sym_first hS h2 hr (Nat.le_refl _) (by omega) q3 q4
  have f2 := sym_second hS h2 hr (Nat.le_refl _) (by omega) q3 q4
  refine sorted_join f1.sr (sorted_join f2.sl f2.sr fun i j hi him hj hjb => ?_) hc
  have ei := hr.snd (i - (a + (en - (a + 1)))) (by omega)
  rw [show a + (en - (a + 1)) + (i - (a + (en - (a + 1)))) = i by omega, show a + (i - (a + (en - (a + 1)))) = a by omega] at ei
  rw [hr.out j (by omega), ei]
  exact hS.ntrans _ _ _ (sorted_le hS h2.sr (i := en) (j := j) q3 hj hjb) (p3 (by omega))
/-- The second part is one alone. -/
theorem one_right {a st m : Nat} {d d1 : Array α} (hS : SWO T) (h2 : Two T lt a m (m + 1) d) (hr : Rot st m (m + 1) d d1) (q1 : a ≤ st) (q2 : st ≤ m)
    (p1 : a < st → T d[m]! d[st - 1]! = false) (p2 : st < m → T d[m]! d[st]! = true) : SortedIn T a (m + 1) d1 := by
  have hc := sym_cross hS h2 hr q1 q2 (by omega) (Nat.le_refl _) (fun _ h => absurd h (by omega)) (fun h _ => by rw [show m + 1 - 1 = m by omega]; exact p2 h)
  have f1 := sym_first hS h2 hr q1 q2 (by omega) (Nat.le_refl _)
  have f2 := sym_second hS h2 hr q1 q2 (by omega) (Nat.le_refl _)
  refine sorted_join (sorted_join f1.sl f1.sr fun i j hi him hj hjb => ?_) f2.sl hc
  have ej := hr.fst (j - st) (by omega)
  rw [show st + (j - st) = j by omega, show m + (j - st) = m by omega] at ej
  rw [ej, hr.out i (by omega)]
  exact hS.ntrans _ _ _ (p1 (by omega)) (sorted_le hS h2.sl (i := i) (j := st - 1) hi (by omega) (by omega))
/-- An exchange moves the one in front by one place on. -/
theorem rot_step_up {a k : Nat} {d dk : Array α} (h : Rot a (a + 1) (k + 1) d dk) (hk : a ≤ k) (hs : k + 1 < d.size) : Rot a (a + 1) (k + 2) d (swp dk k (k + 1)) := by
  have z := h.size
  have hl : dk[k]! = d[a]! := by have := h.snd 0 (by omega); rwa [show a + (k + 1 - (a + 1)) + 0 = k by omega, Nat.add_zero] at this
  have hk1 : dk[k + 1]! = d[k + 1]! := h.out (k + 1) (.inr (by omega))
  refine ⟨by rw [size_swp, z], fun x hx => ?_, fun x hx => ?_, fun x hx => ?_, ?_⟩
  · rw [swp_other _ _ _ _ (by omega) (by omega)]; exact h.out x (by omega)
  · by_cases e : a + x = k
    · rw [e, swp_left _ _ _ (by omega) (by omega), hk1]; congr 1; omega
    · rw [swp_other _ _ _ _ e (by omega)]; exact h.fst x (by omega)
  · rw [show a + (k + 2 - (a + 1)) + x = k + 1 by omega, swp_right _ _ _ (by omega), hl]; congr 1; omega
  · exact permIn_trans _ _ _ _ _ (permIn_mono _ _ _ _ _ _ (Nat.le_refl _) (by omega) (by omega) h.perm) (swp_permIn _ _ _ _ _ (by omega) (by omega) (by omega) (by omega) (by omega))
/-- An exchange moves the last one by one place ahead. -/
theorem rot_step_down {m k : Nat} {d dk : Array α} (h : Rot k m (m + 1) d dk) (hk : k ≤ m) (h0 : 0 < k) (hs : m < d.size) : Rot (k - 1) m (m + 1) d (swp dk k (k - 1)) := by
  have z := h.size
  have hl : dk[k]! = d[m]! := by have := h.fst 0 (by omega); rwa [Nat.add_zero, Nat.add_zero] at this
  have hk1 : dk[k - 1]! = d[k - 1]! := h.out (k - 1) (.inl (by omega))
  refine ⟨by rw [size_swp, z], fun x hx => ?_, fun x hx => ?_, fun x hx => ?_, ?_⟩
  · rw [swp_other _ _ _ _ (by omega) (by omega)]; exact h.out x (by omega)
  · rw [show k - 1 + x = k - 1 by omega, swp_right _ _ _ (by omega), hl]; congr 1; omega
  · by_cases e : x = 0
    · subst e
      rw [show k - 1 + (m + 1 - m) + 0 = k by omega, swp_left _ _ _ (by omega) (by omega), hk1]; congr 1
    · rw [swp_other _ _ _ _ (by omega) (by omega)]
      have := h.snd (x - 1) (by omega)
      rw [show k + (m + 1 - m) + (x - 1) = k - 1 + (m + 1 - m) + x by omega] at this
      rw [this]; congr 1; omega
  · exact permIn_trans _ _ _ _ _ (permIn_mono _ _ _ _ _ _ (by omega) (Nat.le_refl _) (by omega) h.perm) (swp_permIn _ _ _ _ _ (by omega) (by omega) (by omega) (by omega) (by omega))
end
end Go.Proofs.Mon

/- sort's symMerge_func: two sorted parts become one. -/
namespace Go.Proofs.Ytcmijedhjebpkaa
open Go.RowKit Go.Proofs.Geo Go.Proofs.Mon Go.Shelf Go.Lib Go.Sort
set_option linter.unusedVariables false
section
variable {α : Type} [Inhabited α] {enc : α → Value} {lt T : α → α → Bool} {g : Nat} {lb : Array Value} {sf : Nat} {sb : Array Value} {blk off N : Nat}
set_option maxHeartbeats 4000000 in
set_option maxRecDepth 100000 in
theorem sym_left (hS : SWO T) (a b : Nat) (d : Array α) (W : World) (H : LS enc lt g lb sf sb blk off N W) (hH : Holds enc W blk off d) (hd : d.size = N) (hmb : a + 1 < b) (hb : b ≤ N) (h2 : Two T lt a (a + 1) b d) :
    Calls Try.prog 61 #[.agg #[.func (.func g) #[] lb, .func (.func sf) #[] sb], .int .i64 a, .int .i64 (a + 1 : Nat), .int .i64 b] W fun e w' => e = .returned (.tuple #[]) ∧ ∃ d', (PermIn a b d d' ∧ SortedIn T a b d') ∧ SW enc W blk off d' w' := by
  have hN := H.N
  have eg := H.eg
  have hb0 : W.heap.size ≠ blk := by have := H.lt; omega
  have s0 := Lib.hid ((SW.start hH).alloc (lsBox g lb sf sb))
  obtain ⟨w1, hw1⟩ : ∃ w1, W.alloc (lsBox g lb sf sb) = w1 := ⟨_, rfl⟩
  have c0 : w1.cell? ⟨W.heap.size, 0, none⟩ = some (.func (.func g) #[] lb) := by rw [← hw1]; simp [go_sem]
  have c1 : w1.cell? ⟨W.heap.size, 1, none⟩ = some (.func (.func sf) #[] sb) := by rw [← hw1]; simp [go_sem]
  obtain ⟨m, hm⟩ : ∃ m, a + 1 = m := ⟨_, rfl⟩
  rw [hm] at hmb h2 ⊢
  have wi : IntKind.i64.wrap ((m : Int) - (a : Int)) = 1 := by rw [IntWalk.i64_in _ (by omega)]; omega
  have HM := Lib.hid hm
  have ham : a < m := by omega
  have HH := Lib.hid H; have HHO := Lib.hid hH; have HD := Lib.hid hd; have H2 := Lib.hid h2
  clear H hH hd h2 hm
  go_enter Try.func61, Try.ntmps61
  go_wp2_with fail
  rw [hw1] at s0
  have hH1 : Hid (Holds enc w1 blk off d) := Lib.hid (s0.out.holds HH.out.lt HHO.out rfl)
  have HL1 := Lib.hid (HH.out.on s0.out HD.out)
  have C0 := Lib.hid c0; have C1 := Lib.hid c1
  clear c0 c1 hw1 wi
  go_loopw [8, 9] (fun vi vj wr => ∃ i j : Nat, vi = .int .i64 i ∧ vj = .int .i64 j ∧ m ≤ i ∧ i ≤ j ∧ j ≤ b ∧ (m < i → T d[i - 1]! d[a]! = true) ∧ (j < b → T d[j]! d[a]! = false) ∧ SW enc w1 blk off d wr) (fun vi vj _ => (intOf vj).toNat - (intOf vi).toNat)
  case atStart => exact ⟨m, b, rfl, rfl, by omega, by omega, by omega, fun h => absurd h (by omega), fun h => absurd h (by omega), SW.start hH1.out⟩
  case round =>
    obtain ⟨i, j, rfl, rfl, hi, hij, hj, p2, p3, hs⟩ := hrel
    have c0 := SW_cell hs hb0 C0.out
    have lB := cell_lt c0
    have P2 := Lib.hid p2; have P3 := Lib.hid p3; have HS := Lib.hid hs
    clear p2 p3
    by_cases hlt : i < j
    · obtain ⟨h, hh⟩ : ∃ h, (i + j) / 2 = h := ⟨_, rfl⟩
      have hl := hs.less HL1.out.less HD.out h a (by omega) (by omega)
      rw [H2.out.cr a h (by omega) ham (by omega) (by omega)] at hl
      have HB1 := Lib.hid (show i ≤ h ∧ h < j by omega)
      have u1 : IntKind.i64.wrap ((i : Int) + (j : Int)) = (i : Int) + (j : Int) := IntWalk.i64_in _ (by omega)
      have u2 : IntKind.u64.wrap ((i : Int) + (j : Int)) = (i : Int) + (j : Int) := by rw [IntKind.wrap_u64]; omega
      have u3 : ((i : Int) + (j : Int)) / 2 = (h : Int) := by omega
      have u4 : IntKind.i64.wrap (h : Int) = (h : Int) := IntWalk.i64_in _ (by omega)
      have u5 : IntKind.u64.wrap (h : Int) = (h : Int) := by rw [IntKind.wrap_u64]; omega
      have u6 : IntKind.i64.wrap ((h : Int) + 1) = (h : Int) + 1 := IntWalk.i64_in _ (by omega)
      have z1 : (i : Int) < (j : Int) := by omega
      have HL := Lib.hid hl
      clear hl hh hs
      cases hv : T d[h]! d[a]! with
      | true =>
        rw [hv] at HL
        go_wp2_with (go_at_fn g; refine HL.out.mono ?_; rintro e w' ⟨rfl, q, rfl⟩)
        have HV := Lib.hid hv
        exact ⟨⟨h + 1, j, by go_num, rfl, by have := HB1.out; omega, by have := HB1.out; omega, hj, fun _ => by rw [show h + 1 - 1 = h by omega]; exact HV.out, P3.out, HS.out.drewN q⟩, by have := HB1.out; simp [intOf]; omega⟩
      | false =>
        rw [hv] at HL
        go_wp2_with (go_at_fn g; refine HL.out.mono ?_; rintro e w' ⟨rfl, q, rfl⟩)
        have HV := Lib.hid hv
        exact ⟨⟨i, h, rfl, rfl, hi, by have := HB1.out; omega, by have := HB1.out; omega, P2.out, fun _ => HV.out, HS.out.drewN q⟩, by have := HB1.out; simp [intOf]; omega⟩
    · obtain rfl : i = j := by omega
      have u1 : IntKind.i64.wrap ((i : Int) - 1) = (i : Int) - 1 := IntWalk.i64_in _ (by omega)
      go_wp2_with fail
      go_loopw [11] (fun vk wr2 => ∃ (k : Nat) (dk : Array α), vk = .int .i64 k ∧ a ≤ k ∧ k + 1 ≤ i ∧ Rot a m (k + 1) d dk ∧ SW enc w1 blk off dk wr2) (fun vk _ => i - (intOf vk).toNat)
      case atStart => exact ⟨a, d, rfl, by omega, by omega, rot_triv (.inr (by have := HM.out; omega)) (by omega) (by have := HM.out; omega), hs⟩
      case round =>
        obtain ⟨k, dk, rfl, hak, hki, hrk, hsk⟩ := hrel
        have HR := Lib.hid hrk
        have c1 := SW_cell hsk hb0 C1.out
        have lB1 := cell_lt c1
        have HSK := Lib.hid hsk
        have hsz : dk.size = N := by rw [hrk.size, HD.out]
        by_cases hlt2 : k + 1 < i
        · have z1 : (k : Int) < (i : Int) - 1 := by omega
          have w2' : IntKind.i64.wrap ((k : Int) + 1) = (k : Int) + 1 := IntWalk.i64_in _ (by omega)
          have hsw := HL1.out.swap _ dk (hsk.holds HL1.out.lt hH1.out (by rw [hrk.size])) hsz k (k + 1) (by omega) (by omega)
          rw [show (((k + 1 : Nat)) : Int) = (k : Int) + 1 by omega] at hsw
          have HSW := Lib.hid hsw
          have HNX := Lib.hid (hsk.swap HL1.out.lt k (k + 1) (by omega) (by omega))
          have HRN := Lib.hid (show Rot a m (k + 1 + 1) d (swp dk k (k + 1)) by have := HM.out; subst this; exact rot_step_up HR.out hak (by rw [HD.out]; omega))
          clear hsw hrk hsk hs
          go_wp2_with fail
          rw [HSW.out, Oper.upon_value]
          go_wp2_with fail
          exact ⟨⟨k + 1, _, by go_num, by omega, by omega, HRN.out, HNX.out⟩, by simp [intOf]; omega⟩
        · have z1 : ¬ (k : Int) < (i : Int) - 1 := by omega
          clear hrk hsk hs
          go_wp2_with fail
          refine bodyPost_ret (v := .tuple #[]) (by simp [results, Try.results61, go_sem]) rfl ?_
          have hke : k + 1 = i := by omega
          have hr := HR.out
          rw [hke] at hr
          refine ⟨rfl, dk, ⟨permIn_mono _ _ _ _ _ _ (Nat.le_refl _) (by omega) (by rw [HD.out]; exact hb) hr.perm, ?_⟩, SW_trans s0.out HH.out.lt HSK.out (by rw [HR.out.size])⟩
          have hm := HM.out
          subst hm
          exact one_left hS H2.out hr (by omega) (by omega) (fun h => P2.out h) (fun h => P3.out h)
set_option maxHeartbeats 4000000 in
set_option maxRecDepth 100000 in
theorem sym_right (hS : SWO T) (a m : Nat) (d : Array α) (W : World) (H : LS enc lt g lb sf sb blk off N W) (hH : Holds enc W blk off d) (hd : d.size = N) (ham : a + 1 < m) (hb : m + 1 ≤ N) (h2 : Two T lt a m (m + 1) d) :
    Calls Try.prog 61 #[.agg #[.func (.func g) #[] lb, .func (.func sf) #[] sb], .int .i64 a, .int .i64 m, .int .i64 (m + 1 : Nat)] W fun e w' => e = .returned (.tuple #[]) ∧ ∃ d', (PermIn a (m + 1) d d' ∧ SortedIn T a (m + 1) d') ∧ SW enc W blk off d' w' := by
  have hN := H.N
  have eg := H.eg
  have hb0 : W.heap.size ≠ blk := by have := H.lt; omega
  have s0 := Lib.hid ((SW.start hH).alloc (lsBox g lb sf sb))
  obtain ⟨w1, hw1⟩ : ∃ w1, W.alloc (lsBox g lb sf sb) = w1 := ⟨_, rfl⟩
  have c0 : w1.cell? ⟨W.heap.size, 0, none⟩ = some (.func (.func g) #[] lb) := by rw [← hw1]; simp [go_sem]
  have c1 : w1.cell? ⟨W.heap.size, 1, none⟩ = some (.func (.func sf) #[] sb) := by rw [← hw1]; simp [go_sem]
  obtain ⟨b, hm⟩ : ∃ b, m + 1 = b := ⟨_, rfl⟩
  rw [hm] at hb h2 ⊢
  have wi : IntKind.i64.wrap ((b : Int) - (m : Int)) = 1 := by rw [IntWalk.i64_in _ (by omega)]; omega
  have wj : IntKind.i64.wrap ((m : Int) - (a : Int)) = (m : Int) - (a : Int) := IntWalk.i64_in _ (by omega)
  have wt : ((m : Int) - (a : Int) == 1) = false := by simp; omega
  have HM := Lib.hid hm
  have hmb : m < b := by omega
  have HH := Lib.hid H; have HHO := Lib.hid hH; have HD := Lib.hid hd; have H2 := Lib.hid h2
  clear H hH hd h2 hm
  go_enter Try.func61, Try.ntmps61
  go_wp2_with fail
  rw [hw1] at s0
  have hH1 : Hid (Holds enc w1 blk off d) := Lib.hid (s0.out.holds HH.out.lt HHO.out rfl)
  have HL1 := Lib.hid (HH.out.on s0.out HD.out)
  have C0 := Lib.hid c0; have C1 := Lib.hid c1
  clear c0 c1 hw1 wi wj wt
  go_loopw [12, 13] (fun vi vj wr => ∃ i j : Nat, vi = .int .i64 i ∧ vj = .int .i64 j ∧ a ≤ i ∧ i ≤ j ∧ j ≤ m ∧ (a < i → T d[m]! d[i - 1]! = false) ∧ (j < m → T d[m]! d[j]! = true) ∧ SW enc w1 blk off d wr) (fun vi vj _ => (intOf vj).toNat - (intOf vi).toNat)
  case atStart => exact ⟨a, m, rfl, rfl, by omega, by omega, by omega, fun h => absurd h (by omega), fun h => absurd h (by omega), SW.start hH1.out⟩
  case round =>
    obtain ⟨i, j, rfl, rfl, hi, hij, hj, p1, p2, hs⟩ := hrel
    have c0 := SW_cell hs hb0 C0.out
    have lB := cell_lt c0
    have P1 := Lib.hid p1; have P2 := Lib.hid p2; have HS := Lib.hid hs
    clear p1 p2
    by_cases hlt : i < j
    · obtain ⟨h, hh⟩ : ∃ h, (i + j) / 2 = h := ⟨_, rfl⟩
      have hl := hs.less HL1.out.less HD.out m h (by omega) (by omega)
      rw [H2.out.cr h m (by omega) (by omega) (by omega) (by omega)] at hl
      have HB1 := Lib.hid (show i ≤ h ∧ h < j by omega)
      have u1 : IntKind.i64.wrap ((i : Int) + (j : Int)) = (i : Int) + (j : Int) := IntWalk.i64_in _ (by omega)
      have u2 : IntKind.u64.wrap ((i : Int) + (j : Int)) = (i : Int) + (j : Int) := by rw [IntKind.wrap_u64]; omega
      have u3 : ((i : Int) + (j : Int)) / 2 = (h : Int) := by omega
      have u4 : IntKind.i64.wrap (h : Int) = (h : Int) := IntWalk.i64_in _ (by omega)
      have u5 : IntKind.u64.wrap (h : Int) = (h : Int) := by rw [IntKind.wrap_u64]; omega
      have u6 : IntKind.i64.wrap ((h : Int) + 1) = (h : Int) + 1 := IntWalk.i64_in _ (by omega)
      have z1 : (i : Int) < (j : Int) := by omega
      have HL := Lib.hid hl
      clear hl hh hs
      cases hv : T d[m]! d[h]! with
      | true =>
        rw [hv] at HL
        go_wp2_with (go_at_fn g; refine HL.out.mono ?_; rintro e w' ⟨rfl, q, rfl⟩)
        have HV := Lib.hid hv
        exact ⟨⟨i, h, rfl, rfl, hi, by have := HB1.out; omega, by have := HB1.out; omega, P1.out, fun _ => HV.out, HS.out.drewN q⟩, by have := HB1.out; simp [intOf]; omega⟩
      | false =>
        rw [hv] at HL
        go_wp2_with (go_at_fn g; refine HL.out.mono ?_; rintro e w' ⟨rfl, q, rfl⟩)
        have HV := Lib.hid hv
        exact ⟨⟨h + 1, j, by go_num, rfl, by have := HB1.out; omega, by have := HB1.out; omega, hj, fun _ => by rw [show h + 1 - 1 = h by omega]; exact HV.out, P2.out, HS.out.drewN q⟩, by have := HB1.out; simp [intOf]; omega⟩
    · obtain rfl : i = j := by omega
      go_wp2_with fail
      go_loopw [15] (fun vk wr2 => ∃ (k : Nat) (dk : Array α), vk = .int .i64 k ∧ i ≤ k ∧ k ≤ m ∧ Rot k m b d dk ∧ SW enc w1 blk off dk wr2) (fun vk _ => (intOf vk).toNat)
      case atStart => exact ⟨m, d, rfl, by omega, by omega, rot_triv (.inl rfl) (by omega) (by omega), hs⟩
      case round =>
        obtain ⟨k, dk, rfl, hak, hki, hrk, hsk⟩ := hrel
        have HR := Lib.hid hrk
        have c1 := SW_cell hsk hb0 C1.out
        have lB1 := cell_lt c1
        have HSK := Lib.hid hsk
        have hsz : dk.size = N := by rw [hrk.size, HD.out]
        by_cases hlt2 : i < k
        · have z1 : (i : Int) < (k : Int) := by omega
          have w2' : IntKind.i64.wrap ((k : Int) - 1) = (k : Int) - 1 := IntWalk.i64_in _ (by omega)
          have hsw := HL1.out.swap _ dk (hsk.holds HL1.out.lt hH1.out (by rw [hrk.size])) hsz k (k - 1) (by omega) (by omega)
          rw [show (((k - 1 : Nat)) : Int) = (k : Int) - 1 by omega] at hsw
          have HSW := Lib.hid hsw
          have HNX := Lib.hid (hsk.swap HL1.out.lt k (k - 1) (by omega) (by omega))
          have HRN := Lib.hid (show Rot (k - 1) m b d (swp dk k (k - 1)) by have := HM.out; subst this; exact rot_step_down HR.out hki (by omega) (by rw [HD.out]; omega))
          clear hsw hrk hsk hs
          go_wp2_with fail
          rw [HSW.out, Oper.upon_value]
          go_wp2_with fail
          exact ⟨⟨k - 1, _, by go_num, by omega, by omega, HRN.out, HNX.out⟩, by simp [intOf]; omega⟩
        · have z1 : ¬ (i : Int) < (k : Int) := by omega
          clear hrk hsk hs
          go_wp2_with fail
          refine bodyPost_ret (v := .tuple #[]) (by simp [results, Try.results61, go_sem]) rfl ?_
          have hke : k = i := by omega
          have hr := HR.out
          rw [hke] at hr
          refine ⟨rfl, dk, ⟨permIn_mono _ _ _ _ _ _ (by omega) (Nat.le_refl _) (by rw [HD.out]; exact hb) hr.perm, ?_⟩, SW_trans s0.out HH.out.lt HSK.out (by rw [HR.out.size])⟩
          have hm := HM.out
          subst hm
          exact one_right hS H2.out hr hi hj (fun h => P1.out h) (fun h => P2.out h)
end
end Go.Proofs.Ytcmijedhjebpkaa

/- sort's symMerge_func, in general. -/
namespace Go.Proofs.Ytcmijedhjebpkaa
open Go.RowKit Go.Proofs.Geo Go.Proofs.Mon Go.Shelf Go.Lib Go.Sort
set_option linter.unusedVariables false
section
variable {α : Type} [Inhabited α] {enc : α → Value} {lt T : α → α → Bool} {g : Nat} {lb : Array Value} {sf : Nat} {sb : Array Value} {blk off N : Nat}
/-- symMerge_func's contract at two parts. -/
@[reducible] def SymC (enc : α → Value) (lt T : α → α → Bool) (g : Nat) (lb : Array Value) (sf : Nat) (sb : Array Value) (blk off N a m b : Nat) : Prop :=
  ∀ (d : Array α) (W : World), LS enc lt g lb sf sb blk off N W → Holds enc W blk off d → d.size = N → a < m → m < b → b ≤ N → Two T lt a m b d →
    Calls Try.prog 61 #[.agg #[.func (.func g) #[] lb, .func (.func sf) #[] sb], .int .i64 a, .int .i64 m, .int .i64 b] W fun e w' => e = .returned (.tuple #[]) ∧ ∃ d', (PermIn a b d d' ∧ SortedIn T a b d') ∧ SW enc W blk off d' w'
set_option maxHeartbeats 16000000 in
set_option maxRecDepth 100000 in
theorem sym_rec (hS : SWO T) (a m b : Nat) (IH : ∀ a' m' b', b' - a' < b - a → SymC enc lt T g lb sf sb blk off N a' m' b') (hma : m ≠ a + 1) (hmb' : b ≠ m + 1) : SymC enc lt T g lb sf sb blk off N a m b := by
  intro d W H hH hd ham hmb hb h2
  have hN := H.N
  have eg := H.eg
  have hb0 : W.heap.size ≠ blk := by have := H.lt; omega
  have s0 := Lib.hid ((SW.start hH).alloc (lsBox g lb sf sb))
  obtain ⟨w1, hw1⟩ : ∃ w1, W.alloc (lsBox g lb sf sb) = w1 := ⟨_, rfl⟩
  have c0 : w1.cell? ⟨W.heap.size, 0, none⟩ = some (.func (.func g) #[] lb) := by rw [← hw1]; simp [go_sem]
  have c1 : w1.cell? ⟨W.heap.size, 1, none⟩ = some (.func (.func sf) #[] sb) := by rw [← hw1]; simp [go_sem]
  obtain ⟨mid, hmid⟩ : ∃ mid, (a + b) / 2 = mid := ⟨_, rfl⟩
  have wi : IntKind.i64.wrap ((b : Int) - (m : Int)) = (b : Int) - (m : Int) := IntWalk.i64_in _ (by omega)
  have wj : IntKind.i64.wrap ((m : Int) - (a : Int)) = (m : Int) - (a : Int) := IntWalk.i64_in _ (by omega)
  have wt : ((m : Int) - (a : Int) == 1) = false := by simp; omega
  have wt2 : ((b : Int) - (m : Int) == 1) = false := by simp; omega
  have v1 : IntKind.i64.wrap ((a : Int) + (b : Int)) = (a : Int) + (b : Int) := IntWalk.i64_in _ (by omega)
  have v2 : IntKind.u64.wrap ((a : Int) + (b : Int)) = (a : Int) + (b : Int) := by rw [IntKind.wrap_u64]; omega
  have v3 : ((a : Int) + (b : Int)) / 2 = (mid : Int) := by omega
  have v4 : IntKind.i64.wrap (mid : Int) = (mid : Int) := IntWalk.i64_in _ (by omega)
  have v5 : IntKind.u64.wrap (mid : Int) = (mid : Int) := by rw [IntKind.wrap_u64]; omega
  have v6 : IntKind.i64.wrap ((mid : Int) + (m : Int)) = (mid : Int) + (m : Int) := IntWalk.i64_in _ (by omega)
  have v7 : IntKind.i64.wrap ((mid : Int) + (m : Int) - (b : Int)) = (mid : Int) + (m : Int) - (b : Int) := IntWalk.i64_in _ (by omega)
  have v8 : IntKind.i64.wrap ((mid : Int) + (m : Int) - 1) = (mid : Int) + (m : Int) - 1 := IntWalk.i64_in _ (by omega)
  obtain ⟨s₀, r₀, hs₀, f1, f2, f3, f4, f5, f6, f7⟩ : ∃ s₀ r₀ : Nat, (if mid < m then s₀ + b = mid + m ∧ r₀ = mid else s₀ = a ∧ r₀ = m) ∧ a ≤ s₀ ∧ r₀ ≤ m ∧ r₀ ≤ mid ∧ mid + m ≤ b + s₀ ∧ s₀ ≤ r₀ ∧ (s₀ = a ∨ mid + m = b + s₀) ∧ (r₀ = m ∨ r₀ = mid) := by
    by_cases h : mid < m
    · exact ⟨mid + m - b, mid, by rw [if_pos h]; exact ⟨by omega, rfl⟩, by omega, by omega, by omega, by omega, by omega, by omega, by omega⟩
    · exact ⟨a, m, by rw [if_neg h]; exact ⟨rfl, rfl⟩, by omega, by omega, by omega, by omega, by omega, by omega, by omega⟩
  have HS0 := Lib.hid hs₀; have F6 := Lib.hid f6; have F7 := Lib.hid f7
  have hml : a < mid ∧ mid < b := by omega
  have HH := Lib.hid H; have HHO := Lib.hid hH; have HD := Lib.hid hd; have H2 := Lib.hid h2
  clear H hH hd h2 hmid hs₀ f6 f7 hma hmb'
  go_enter Try.func61, Try.ntmps61
  go_upto_if 106 with fail
  rw [hw1] at s0
  have hH1 : Hid (Holds enc w1 blk off d) := Lib.hid (s0.out.holds HH.out.lt HHO.out rfl)
  have HL1 := Lib.hid (HH.out.on s0.out HD.out)
  have C0 := Lib.hid c0; have C1 := Lib.hid c1
  clear c0 c1 hw1 wi wj wt wt2
  go_cut [18, 19] (fun vs vr wx => vs = .int .i64 (s₀ : Nat) ∧ vr = .int .i64 (r₀ : Nat) ∧ w1 = wx)
  case first =>
    by_cases h : mid < m
    · have z : (mid : Int) < (m : Int) := by omega
      have e := HS0.out
      rw [if_pos h] at e
      obtain ⟨e1, e2⟩ := e
      have E1 := Lib.hid e1; have E2 := Lib.hid e2
      clear e1 e2
      go_wp2_with fail
      go_meet
      exact ⟨by have := E1.out; go_num, by rw [E2.out], rfl⟩
    · have z : ¬ (mid : Int) < (m : Int) := by omega
      have e := HS0.out
      rw [if_neg h] at e
      have E1 := Lib.hid e.1; have E2 := Lib.hid e.2
      clear e
      go_wp2_with fail
      go_meet
      exact ⟨by rw [E1.out], by rw [E2.out], rfl⟩
  case rest =>
    obtain ⟨rfl, rfl, rfl⟩ := hcut
    go_wp2_with fail
    clear v1 v2 v3 v4 v5 v7
    go_loopw [18, 19] (fun vs vr wr => ∃ s r : Nat, vs = .int .i64 s ∧ vr = .int .i64 r ∧ s₀ ≤ s ∧ s ≤ r ∧ r ≤ r₀ ∧ (s₀ < s → T d[mid + m - s]! d[s - 1]! = false) ∧ (r < r₀ → T d[mid + m - 1 - r]! d[r]! = true) ∧ SW enc w1 blk off d wr) (fun vs vr _ => (intOf vr).toNat - (intOf vs).toNat)
    case atStart => exact ⟨s₀, r₀, rfl, rfl, by omega, by omega, by omega, fun h => absurd h (by omega), fun h => absurd h (by omega), SW.start hH1.out⟩
    case round =>
      obtain ⟨s, r, rfl, rfl, hs1, hsr, hr1, p1, p2, hs⟩ := hrel
      have c0 := SW_cell hs hb0 C0.out
      have c1 := SW_cell hs hb0 C1.out
      have lB := cell_lt c0
      have P1 := Lib.hid p1; have P2 := Lib.hid p2; have HS := Lib.hid hs
      clear p1 p2
      by_cases hlt : s < r
      · obtain ⟨h, hh⟩ : ∃ h, (s + r) / 2 = h := ⟨_, rfl⟩
        have hl := hs.less HL1.out.less HD.out (mid + m - 1 - h) h (by omega) (by omega)
        rw [H2.out.cr h (mid + m - 1 - h) (by omega) (by omega) (by omega) (by omega)] at hl
        rw [show ((mid + m - 1 - h : Nat) : Int) = (mid : Int) + (m : Int) - 1 - (h : Int) by omega] at hl
        have HB1 := Lib.hid (show s ≤ h ∧ h < r by omega)
        have u1 : IntKind.i64.wrap ((s : Int) + (r : Int)) = (s : Int) + (r : Int) := IntWalk.i64_in _ (by omega)
        have u2 : IntKind.u64.wrap ((s : Int) + (r : Int)) = (s : Int) + (r : Int) := by rw [IntKind.wrap_u64]; omega
        have u3 : ((s : Int) + (r : Int)) / 2 = (h : Int) := by omega
        have u4 : IntKind.i64.wrap (h : Int) = (h : Int) := IntWalk.i64_in _ (by omega)
        have u5 : IntKind.u64.wrap (h : Int) = (h : Int) := by rw [IntKind.wrap_u64]; omega
        have u6 : IntKind.i64.wrap ((h : Int) + 1) = (h : Int) + 1 := IntWalk.i64_in _ (by omega)
        have u7 : IntKind.i64.wrap ((mid : Int) + (m : Int) - 1 - (h : Int)) = (mid : Int) + (m : Int) - 1 - (h : Int) := IntWalk.i64_in _ (by omega)
        have z1 : (s : Int) < (r : Int) := by omega
        have HL := Lib.hid hl
        clear hl hh hs
        cases hv : T d[mid + m - 1 - h]! d[h]! with
        | true =>
          rw [hv] at HL
          go_wp2_with (go_at_fn g; refine HL.out.mono ?_; rintro e w' ⟨rfl, q, rfl⟩)
          have HV := Lib.hid hv
          exact ⟨⟨s, h, rfl, rfl, hs1, by have := HB1.out; omega, by have := HB1.out; omega, P1.out, fun _ => HV.out, HS.out.drewN q⟩, by have := HB1.out; simp [intOf]; omega⟩
        | false =>
          rw [hv] at HL
          go_wp2_with (go_at_fn g; refine HL.out.mono ?_; rintro e w' ⟨rfl, q, rfl⟩)
          have HV := Lib.hid hv
          exact ⟨⟨h + 1, r, by go_num, rfl, by have := HB1.out; omega, by have := HB1.out; omega, hr1, fun _ => by rw [show h + 1 - 1 = h by omega, show mid + m - (h + 1) = mid + m - 1 - h by omega]; exact HV.out, P2.out, HS.out.drewN q⟩, by have := HB1.out; simp [intOf]; omega⟩
      · obtain rfl : s = r := by omega
        obtain ⟨en, hen⟩ : ∃ en, mid + m - s = en := ⟨_, rfl⟩
        have x1 : IntKind.i64.wrap ((mid : Int) + (m : Int) - (s : Int)) = (en : Int) := by rw [IntWalk.i64_in _ (by omega)]; omega
        have g1 : a ≤ s := by omega
        have g2 : s ≤ m := by omega
        have g3 : m ≤ en := by omega
        have g4 : en ≤ b := by omega
        have g5 : s ≤ mid := by omega
        have g6 : mid ≤ en := by omega
        have HMID := Lib.hid (show s + (en - m) = mid by omega)
        have Q1 := Lib.hid (show a < s → en < b → T d[en]! d[s - 1]! = false from fun h1 h2 => by rw [← hen]; exact P1.out (by have := F6.out; omega))
        have Q2 := Lib.hid (show s < m → m < en → T d[en - 1]! d[s]! = true from fun h1 h2 => by rw [show en - 1 = mid + m - 1 - s by omega]; exact P2.out (by have := F7.out; omega))
        clear hen
        have FS1 := Lib.hid (show ∀ d1, Rot s m en d d1 → Two T lt a s mid d1 from fun d1 h => by have := sym_first hS H2.out h g1 g2 g3 g4; rwa [HMID.out] at this)
        have FS2 := Lib.hid (show ∀ d1, Rot s m en d d1 → Two T lt mid en b d1 from fun d1 h => by have := sym_second hS H2.out h g1 g2 g3 g4; rwa [HMID.out] at this)
        have FSC := Lib.hid (show ∀ d1, Rot s m en d d1 → ∀ i j, a ≤ i → i < mid → mid ≤ j → j < b → T d1[j]! d1[i]! = false from fun d1 h => by have := sym_cross hS H2.out h g1 g2 g3 g4 Q1.out Q2.out; rwa [HMID.out] at this)
        have SZ := Lib.hid (show ∀ d1, Rot s m en d d1 → d1.size = N from fun d1 h => by rw [h.size, HD.out])
        have SZ2 := Lib.hid (show ∀ d1 d2 x y, Rot s m en d d1 → PermIn x y d1 d2 → d2.size = N from fun d1 d2 x y h k => by rw [k.1, h.size, HD.out])
        have END := Lib.hid (show ∀ d1 d2 d3, Rot s m en d d1 → PermIn a mid d1 d2 → SortedIn T a mid d2 → PermIn mid b d2 d3 → SortedIn T mid b d3 → PermIn a b d d3 ∧ SortedIn T a b d3 from fun d1 d2 d3 h k2 s2 k3 s3 => by
          have q := sym_done (Nat.le_of_lt hml.1) (Nat.le_of_lt hml.2) (by rw [h.size, HD.out]; exact hb) (FSC.out d1 h) k2 s2 k3 s3
          exact ⟨permIn_trans _ _ _ _ _ (permIn_mono _ _ _ _ _ _ g1 g4 (by rw [HD.out]; exact hb) h.perm) q.1, q.2⟩)
        have PR := Lib.hid (show ∀ x : Array α, PermIn a mid x x from fun x => permIn_refl x a mid)
        have PR2 := Lib.hid (show ∀ x : Array α, PermIn mid b x x from fun x => permIn_refl x mid b)
        have IHA := Lib.hid (IH a s mid (by omega))
        have IHB := Lib.hid (IH mid en b (by omega))
        have HRO := Lib.hid (fun h1 h3 => rotate_any s m en d _ (HL1.out.on hs HD.out) (hs.holds HL1.out.lt hH1.out rfl) HD.out h1 h3 (by omega))
        clear hs
        by_cases k1 : s < m
        · have z1 : (s : Int) < (m : Int) := by omega
          by_cases k2 : m < en
          · have z2 : (m : Int) < (en : Int) := by omega
            by_cases l1 : a < s
            · have z3 : (a : Int) < (s : Int) := by omega
              by_cases l2 : s < mid
              · have z4 : (s : Int) < (mid : Int) := by omega
                by_cases l3 : mid < en
                · have z5 : (mid : Int) < (en : Int) := by omega
                  by_cases l4 : en < b
                  · have z6 : (en : Int) < (b : Int) := by omega
                    go_wp2_with (first
                      | (go_at_call 69; refine (HRO.out k1 k2).mono ?_; rintro e wk ⟨rfl, d1, hr, hsk⟩; have HR := Lib.hid hr; have HS1 := Lib.hid (SW_trans HS.out HL1.out.lt hsk hr.size); clear hsk hr; have c0 := SW_cell HS1.out hb0 C0.out; have c1 := SW_cell HS1.out hb0 C1.out; have lB := cell_lt c0)
                      | (go_at_call 61; (with_reducible refine (IHA.out d1 _ (HL1.out.on HS1.out (SZ.out _ HR.out)) (HS1.out.holds HL1.out.lt hH1.out ((SZ.out _ HR.out).trans HD.out.symm)) (SZ.out _ HR.out) l1 l2 (by omega) (FS1.out _ HR.out)).mono ?_); rintro e wk ⟨rfl, d2, ⟨hp2, hs2⟩, hsk⟩; have HP2 := Lib.hid hp2; have HO2 := Lib.hid hs2; have HS2 := Lib.hid (SW_trans HS1.out HL1.out.lt hsk hp2.1); clear hsk hp2 hs2; have c0 := SW_cell HS2.out hb0 C0.out; have c1 := SW_cell HS2.out hb0 C1.out; have lB := cell_lt c0)
                      | (go_at_call 61; (with_reducible refine (IHB.out d2 _ (HL1.out.on HS2.out (SZ2.out _ _ _ _ HR.out HP2.out)) (HS2.out.holds HL1.out.lt hH1.out ((SZ2.out _ _ _ _ HR.out HP2.out).trans HD.out.symm)) (SZ2.out _ _ _ _ HR.out HP2.out) l3 l4 hb (two_out (lo := a) (hi := mid) (FS2.out _ HR.out) g6 g4 HP2.out (.inr (Nat.le_refl _)))).mono ?_); rintro e wk ⟨rfl, d3, ⟨hp3, hs3⟩, hsk⟩; have HP3 := Lib.hid hp3; have HO3 := Lib.hid hs3; have HS3 := Lib.hid (SW_trans HS2.out HL1.out.lt hsk hp3.1); clear hsk hp3 hs3))
                    first
                      | go_end0
                      | refine bodyPost_ret (v := .tuple #[]) (by simp [results, Try.results61, go_sem]) rfl ?_
                      | (trace_state; fail)
                    exact ⟨rfl, d3, END.out _ _ _ HR.out HP2.out HO2.out HP3.out HO3.out, SW_trans s0.out HH.out.lt HS3.out (by rw [(END.out _ _ _ HR.out HP2.out HO2.out HP3.out HO3.out).1.1])⟩
                  · have z6 : ¬ (en : Int) < (b : Int) := by omega
                    go_wp2_with (first
                      | (go_at_call 69; refine (HRO.out k1 k2).mono ?_; rintro e wk ⟨rfl, d1, hr, hsk⟩; have HR := Lib.hid hr; have HS1 := Lib.hid (SW_trans HS.out HL1.out.lt hsk hr.size); clear hsk hr; have c0 := SW_cell HS1.out hb0 C0.out; have c1 := SW_cell HS1.out hb0 C1.out; have lB := cell_lt c0)
                      | (go_at_call 61; (with_reducible refine (IHA.out d1 _ (HL1.out.on HS1.out (SZ.out _ HR.out)) (HS1.out.holds HL1.out.lt hH1.out ((SZ.out _ HR.out).trans HD.out.symm)) (SZ.out _ HR.out) l1 l2 (by omega) (FS1.out _ HR.out)).mono ?_); rintro e wk ⟨rfl, d2, ⟨hp2, hs2⟩, hsk⟩; have HP2 := Lib.hid hp2; have HO2 := Lib.hid hs2; have HS2 := Lib.hid (SW_trans HS1.out HL1.out.lt hsk hp2.1); clear hsk hp2 hs2; have c0 := SW_cell HS2.out hb0 C0.out; have c1 := SW_cell HS2.out hb0 C1.out; have lB := cell_lt c0))
                    first
                      | go_end0
                      | refine bodyPost_ret (v := .tuple #[]) (by simp [results, Try.results61, go_sem]) rfl ?_
                      | (trace_state; fail)
                    exact ⟨rfl, d2, END.out _ _ _ HR.out HP2.out HO2.out (PR2.out _) (by have := (two_out (lo := a) (hi := mid) (FS2.out _ HR.out) g6 g4 HP2.out (.inr (Nat.le_refl _))).sl; rwa [show en = b by omega] at this), SW_trans s0.out HH.out.lt HS2.out (by rw [(END.out _ _ _ HR.out HP2.out HO2.out (PR2.out _) (by have := (two_out (lo := a) (hi := mid) (FS2.out _ HR.out) g6 g4 HP2.out (.inr (Nat.le_refl _))).sl; rwa [show en = b by omega] at this)).1.1])⟩
                · have z5 : ¬ (mid : Int) < (en : Int) := by omega
                  go_wp2_with (first
                    | (go_at_call 69; refine (HRO.out k1 k2).mono ?_; rintro e wk ⟨rfl, d1, hr, hsk⟩; have HR := Lib.hid hr; have HS1 := Lib.hid (SW_trans HS.out HL1.out.lt hsk hr.size); clear hsk hr; have c0 := SW_cell HS1.out hb0 C0.out; have c1 := SW_cell HS1.out hb0 C1.out; have lB := cell_lt c0)
                    | (go_at_call 61; (with_reducible refine (IHA.out d1 _ (HL1.out.on HS1.out (SZ.out _ HR.out)) (HS1.out.holds HL1.out.lt hH1.out ((SZ.out _ HR.out).trans HD.out.symm)) (SZ.out _ HR.out) l1 l2 (by omega) (FS1.out _ HR.out)).mono ?_); rintro e wk ⟨rfl, d2, ⟨hp2, hs2⟩, hsk⟩; have HP2 := Lib.hid hp2; have HO2 := Lib.hid hs2; have HS2 := Lib.hid (SW_trans HS1.out HL1.out.lt hsk hp2.1); clear hsk hp2 hs2; have c0 := SW_cell HS2.out hb0 C0.out; have c1 := SW_cell HS2.out hb0 C1.out; have lB := cell_lt c0))
                  first
                    | go_end0
                    | refine bodyPost_ret (v := .tuple #[]) (by simp [results, Try.results61, go_sem]) rfl ?_
                    | (trace_state; fail)
                  exact ⟨rfl, d2, END.out _ _ _ HR.out HP2.out HO2.out (PR2.out _) (by have := (two_out (lo := a) (hi := mid) (FS2.out _ HR.out) g6 g4 HP2.out (.inr (Nat.le_refl _))).sr; rwa [show en = mid by omega] at this), SW_trans s0.out HH.out.lt HS2.out (by rw [(END.out _ _ _ HR.out HP2.out HO2.out (PR2.out _) (by have := (two_out (lo := a) (hi := mid) (FS2.out _ HR.out) g6 g4 HP2.out (.inr (Nat.le_refl _))).sr; rwa [show en = mid by omega] at this)).1.1])⟩
              · have z4 : ¬ (s : Int) < (mid : Int) := by omega
                by_cases l3 : mid < en
                · have z5 : (mid : Int) < (en : Int) := by omega
                  by_cases l4 : en < b
                  · have z6 : (en : Int) < (b : Int) := by omega
                    go_wp2_with (first
                      | (go_at_call 69; refine (HRO.out k1 k2).mono ?_; rintro e wk ⟨rfl, d1, hr, hsk⟩; have HR := Lib.hid hr; have HS1 := Lib.hid (SW_trans HS.out HL1.out.lt hsk hr.size); clear hsk hr; have c0 := SW_cell HS1.out hb0 C0.out; have c1 := SW_cell HS1.out hb0 C1.out; have lB := cell_lt c0)
                      | (go_at_call 61; (with_reducible refine (IHB.out d1 _ (HL1.out.on HS1.out (SZ2.out _ _ _ _ HR.out (PR.out _))) (HS1.out.holds HL1.out.lt hH1.out ((SZ2.out _ _ _ _ HR.out (PR.out _)).trans HD.out.symm)) (SZ2.out _ _ _ _ HR.out (PR.out _)) l3 l4 hb (two_out (lo := a) (hi := mid) (FS2.out _ HR.out) g6 g4 (PR.out _) (.inr (Nat.le_refl _)))).mono ?_); rintro e wk ⟨rfl, d3, ⟨hp3, hs3⟩, hsk⟩; have HP3 := Lib.hid hp3; have HO3 := Lib.hid hs3; have HS3 := Lib.hid (SW_trans HS1.out HL1.out.lt hsk hp3.1); clear hsk hp3 hs3))
                    first
                      | go_end0
                      | refine bodyPost_ret (v := .tuple #[]) (by simp [results, Try.results61, go_sem]) rfl ?_
                      | (trace_state; fail)
                    exact ⟨rfl, d3, END.out _ _ _ HR.out (PR.out _) (by have := (FS1.out _ HR.out).sl; rwa [show s = mid by omega] at this) HP3.out HO3.out, SW_trans s0.out HH.out.lt HS3.out (by rw [(END.out _ _ _ HR.out (PR.out _) (by have := (FS1.out _ HR.out).sl; rwa [show s = mid by omega] at this) HP3.out HO3.out).1.1])⟩
                  · have z6 : ¬ (en : Int) < (b : Int) := by omega
                    go_wp2_with (first
                      | (go_at_call 69; refine (HRO.out k1 k2).mono ?_; rintro e wk ⟨rfl, d1, hr, hsk⟩; have HR := Lib.hid hr; have HS1 := Lib.hid (SW_trans HS.out HL1.out.lt hsk hr.size); clear hsk hr; have c0 := SW_cell HS1.out hb0 C0.out; have c1 := SW_cell HS1.out hb0 C1.out; have lB := cell_lt c0))
                    first
                      | go_end0
                      | refine bodyPost_ret (v := .tuple #[]) (by simp [results, Try.results61, go_sem]) rfl ?_
                      | (trace_state; fail)
                    exact ⟨rfl, d1, END.out _ _ _ HR.out (PR.out _) (by have := (FS1.out _ HR.out).sl; rwa [show s = mid by omega] at this) (PR2.out _) (by have := (two_out (lo := a) (hi := mid) (FS2.out _ HR.out) g6 g4 (PR.out _) (.inr (Nat.le_refl _))).sl; rwa [show en = b by omega] at this), SW_trans s0.out HH.out.lt HS1.out (by rw [(END.out _ _ _ HR.out (PR.out _) (by have := (FS1.out _ HR.out).sl; rwa [show s = mid by omega] at this) (PR2.out _) (by have := (two_out (lo := a) (hi := mid) (FS2.out _ HR.out) g6 g4 (PR.out _) (.inr (Nat.le_refl _))).sl; rwa [show en = b by omega] at this)).1.1])⟩
                · have z5 : ¬ (mid : Int) < (en : Int) := by omega
                  go_wp2_with (first
                    | (go_at_call 69; refine (HRO.out k1 k2).mono ?_; rintro e wk ⟨rfl, d1, hr, hsk⟩; have HR := Lib.hid hr; have HS1 := Lib.hid (SW_trans HS.out HL1.out.lt hsk hr.size); clear hsk hr; have c0 := SW_cell HS1.out hb0 C0.out; have c1 := SW_cell HS1.out hb0 C1.out; have lB := cell_lt c0))
                  first
                    | go_end0
                    | refine bodyPost_ret (v := .tuple #[]) (by simp [results, Try.results61, go_sem]) rfl ?_
                    | (trace_state; fail)
                  exact ⟨rfl, d1, END.out _ _ _ HR.out (PR.out _) (by have := (FS1.out _ HR.out).sl; rwa [show s = mid by omega] at this) (PR2.out _) (by have := (two_out (lo := a) (hi := mid) (FS2.out _ HR.out) g6 g4 (PR.out _) (.inr (Nat.le_refl _))).sr; rwa [show en = mid by omega] at this), SW_trans s0.out HH.out.lt HS1.out (by rw [(END.out _ _ _ HR.out (PR.out _) (by have := (FS1.out _ HR.out).sl; rwa [show s = mid by omega] at this) (PR2.out _) (by have := (two_out (lo := a) (hi := mid) (FS2.out _ HR.out) g6 g4 (PR.out _) (.inr (Nat.le_refl _))).sr; rwa [show en = mid by omega] at this)).1.1])⟩
            · have z3 : ¬ (a : Int) < (s : Int) := by omega
              by_cases l3 : mid < en
              · have z5 : (mid : Int) < (en : Int) := by omega
                by_cases l4 : en < b
                · have z6 : (en : Int) < (b : Int) := by omega
                  go_wp2_with (first
                    | (go_at_call 69; refine (HRO.out k1 k2).mono ?_; rintro e wk ⟨rfl, d1, hr, hsk⟩; have HR := Lib.hid hr; have HS1 := Lib.hid (SW_trans HS.out HL1.out.lt hsk hr.size); clear hsk hr; have c0 := SW_cell HS1.out hb0 C0.out; have c1 := SW_cell HS1.out hb0 C1.out; have lB := cell_lt c0)
                    | (go_at_call 61; (with_reducible refine (IHB.out d1 _ (HL1.out.on HS1.out (SZ2.out _ _ _ _ HR.out (PR.out _))) (HS1.out.holds HL1.out.lt hH1.out ((SZ2.out _ _ _ _ HR.out (PR.out _)).trans HD.out.symm)) (SZ2.out _ _ _ _ HR.out (PR.out _)) l3 l4 hb (two_out (lo := a) (hi := mid) (FS2.out _ HR.out) g6 g4 (PR.out _) (.inr (Nat.le_refl _)))).mono ?_); rintro e wk ⟨rfl, d3, ⟨hp3, hs3⟩, hsk⟩; have HP3 := Lib.hid hp3; have HO3 := Lib.hid hs3; have HS3 := Lib.hid (SW_trans HS1.out HL1.out.lt hsk hp3.1); clear hsk hp3 hs3))
                  first
                    | go_end0
                    | refine bodyPost_ret (v := .tuple #[]) (by simp [results, Try.results61, go_sem]) rfl ?_
                    | (trace_state; fail)
                  exact ⟨rfl, d3, END.out _ _ _ HR.out (PR.out _) (by have := (FS1.out _ HR.out).sr; rwa [show s = a by omega] at this) HP3.out HO3.out, SW_trans s0.out HH.out.lt HS3.out (by rw [(END.out _ _ _ HR.out (PR.out _) (by have := (FS1.out _ HR.out).sr; rwa [show s = a by omega] at this) HP3.out HO3.out).1.1])⟩
                · have z6 : ¬ (en : Int) < (b : Int) := by omega
                  go_wp2_with (first
                    | (go_at_call 69; refine (HRO.out k1 k2).mono ?_; rintro e wk ⟨rfl, d1, hr, hsk⟩; have HR := Lib.hid hr; have HS1 := Lib.hid (SW_trans HS.out HL1.out.lt hsk hr.size); clear hsk hr; have c0 := SW_cell HS1.out hb0 C0.out; have c1 := SW_cell HS1.out hb0 C1.out; have lB := cell_lt c0))
                  first
                    | go_end0
                    | refine bodyPost_ret (v := .tuple #[]) (by simp [results, Try.results61, go_sem]) rfl ?_
                    | (trace_state; fail)
                  exact ⟨rfl, d1, END.out _ _ _ HR.out (PR.out _) (by have := (FS1.out _ HR.out).sr; rwa [show s = a by omega] at this) (PR2.out _) (by have := (two_out (lo := a) (hi := mid) (FS2.out _ HR.out) g6 g4 (PR.out _) (.inr (Nat.le_refl _))).sl; rwa [show en = b by omega] at this), SW_trans s0.out HH.out.lt HS1.out (by rw [(END.out _ _ _ HR.out (PR.out _) (by have := (FS1.out _ HR.out).sr; rwa [show s = a by omega] at this) (PR2.out _) (by have := (two_out (lo := a) (hi := mid) (FS2.out _ HR.out) g6 g4 (PR.out _) (.inr (Nat.le_refl _))).sl; rwa [show en = b by omega] at this)).1.1])⟩
              · have z5 : ¬ (mid : Int) < (en : Int) := by omega
                go_wp2_with (first
                  | (go_at_call 69; refine (HRO.out k1 k2).mono ?_; rintro e wk ⟨rfl, d1, hr, hsk⟩; have HR := Lib.hid hr; have HS1 := Lib.hid (SW_trans HS.out HL1.out.lt hsk hr.size); clear hsk hr; have c0 := SW_cell HS1.out hb0 C0.out; have c1 := SW_cell HS1.out hb0 C1.out; have lB := cell_lt c0))
                first
                  | go_end0
                  | refine bodyPost_ret (v := .tuple #[]) (by simp [results, Try.results61, go_sem]) rfl ?_
                  | (trace_state; fail)
                exact ⟨rfl, d1, END.out _ _ _ HR.out (PR.out _) (by have := (FS1.out _ HR.out).sr; rwa [show s = a by omega] at this) (PR2.out _) (by have := (two_out (lo := a) (hi := mid) (FS2.out _ HR.out) g6 g4 (PR.out _) (.inr (Nat.le_refl _))).sr; rwa [show en = mid by omega] at this), SW_trans s0.out HH.out.lt HS1.out (by rw [(END.out _ _ _ HR.out (PR.out _) (by have := (FS1.out _ HR.out).sr; rwa [show s = a by omega] at this) (PR2.out _) (by have := (two_out (lo := a) (hi := mid) (FS2.out _ HR.out) g6 g4 (PR.out _) (.inr (Nat.le_refl _))).sr; rwa [show en = mid by omega] at this)).1.1])⟩
          · have z2 : ¬ (m : Int) < (en : Int) := by omega
            by_cases l1 : a < s
            · have z3 : (a : Int) < (s : Int) := by omega
              by_cases l2 : s < mid
              · have z4 : (s : Int) < (mid : Int) := by omega
                by_cases l3 : mid < en
                · have z5 : (mid : Int) < (en : Int) := by omega
                  by_cases l4 : en < b
                  · have z6 : (en : Int) < (b : Int) := by omega
                    have HR := Lib.hid (rot_triv (d := d) (show s = m ∨ m = en by omega) g2 g3)
                    go_wp2_with (first
                      | (go_at_call 61; (with_reducible refine (IHA.out d _ (HL1.out.on HS.out (SZ.out _ HR.out)) (HS.out.holds HL1.out.lt hH1.out ((SZ.out _ HR.out).trans HD.out.symm)) (SZ.out _ HR.out) l1 l2 (by omega) (FS1.out _ HR.out)).mono ?_); rintro e wk ⟨rfl, d2, ⟨hp2, hs2⟩, hsk⟩; have HP2 := Lib.hid hp2; have HO2 := Lib.hid hs2; have HS2 := Lib.hid (SW_trans HS.out HL1.out.lt hsk hp2.1); clear hsk hp2 hs2; have c0 := SW_cell HS2.out hb0 C0.out; have c1 := SW_cell HS2.out hb0 C1.out; have lB := cell_lt c0)
                      | (go_at_call 61; (with_reducible refine (IHB.out d2 _ (HL1.out.on HS2.out (SZ2.out _ _ _ _ HR.out HP2.out)) (HS2.out.holds HL1.out.lt hH1.out ((SZ2.out _ _ _ _ HR.out HP2.out).trans HD.out.symm)) (SZ2.out _ _ _ _ HR.out HP2.out) l3 l4 hb (two_out (lo := a) (hi := mid) (FS2.out _ HR.out) g6 g4 HP2.out (.inr (Nat.le_refl _)))).mono ?_); rintro e wk ⟨rfl, d3, ⟨hp3, hs3⟩, hsk⟩; have HP3 := Lib.hid hp3; have HO3 := Lib.hid hs3; have HS3 := Lib.hid (SW_trans HS2.out HL1.out.lt hsk hp3.1); clear hsk hp3 hs3))
                    first
                      | go_end0
                      | refine bodyPost_ret (v := .tuple #[]) (by simp [results, Try.results61, go_sem]) rfl ?_
                      | (trace_state; fail)
                    exact ⟨rfl, d3, END.out _ _ _ HR.out HP2.out HO2.out HP3.out HO3.out, SW_trans s0.out HH.out.lt HS3.out (by rw [(END.out _ _ _ HR.out HP2.out HO2.out HP3.out HO3.out).1.1])⟩
                  · have z6 : ¬ (en : Int) < (b : Int) := by omega
                    have HR := Lib.hid (rot_triv (d := d) (show s = m ∨ m = en by omega) g2 g3)
                    go_wp2_with (first
                      | (go_at_call 61; (with_reducible refine (IHA.out d _ (HL1.out.on HS.out (SZ.out _ HR.out)) (HS.out.holds HL1.out.lt hH1.out ((SZ.out _ HR.out).trans HD.out.symm)) (SZ.out _ HR.out) l1 l2 (by omega) (FS1.out _ HR.out)).mono ?_); rintro e wk ⟨rfl, d2, ⟨hp2, hs2⟩, hsk⟩; have HP2 := Lib.hid hp2; have HO2 := Lib.hid hs2; have HS2 := Lib.hid (SW_trans HS.out HL1.out.lt hsk hp2.1); clear hsk hp2 hs2; have c0 := SW_cell HS2.out hb0 C0.out; have c1 := SW_cell HS2.out hb0 C1.out; have lB := cell_lt c0))
                    first
                      | go_end0
                      | refine bodyPost_ret (v := .tuple #[]) (by simp [results, Try.results61, go_sem]) rfl ?_
                      | (trace_state; fail)
                    exact ⟨rfl, d2, END.out _ _ _ HR.out HP2.out HO2.out (PR2.out _) (by have := (two_out (lo := a) (hi := mid) (FS2.out _ HR.out) g6 g4 HP2.out (.inr (Nat.le_refl _))).sl; rwa [show en = b by omega] at this), SW_trans s0.out HH.out.lt HS2.out (by rw [(END.out _ _ _ HR.out HP2.out HO2.out (PR2.out _) (by have := (two_out (lo := a) (hi := mid) (FS2.out _ HR.out) g6 g4 HP2.out (.inr (Nat.le_refl _))).sl; rwa [show en = b by omega] at this)).1.1])⟩
                · have z5 : ¬ (mid : Int) < (en : Int) := by omega
                  have HR := Lib.hid (rot_triv (d := d) (show s = m ∨ m = en by omega) g2 g3)
                  go_wp2_with (first
                    | (go_at_call 61; (with_reducible refine (IHA.out d _ (HL1.out.on HS.out (SZ.out _ HR.out)) (HS.out.holds HL1.out.lt hH1.out ((SZ.out _ HR.out).trans HD.out.symm)) (SZ.out _ HR.out) l1 l2 (by omega) (FS1.out _ HR.out)).mono ?_); rintro e wk ⟨rfl, d2, ⟨hp2, hs2⟩, hsk⟩; have HP2 := Lib.hid hp2; have HO2 := Lib.hid hs2; have HS2 := Lib.hid (SW_trans HS.out HL1.out.lt hsk hp2.1); clear hsk hp2 hs2; have c0 := SW_cell HS2.out hb0 C0.out; have c1 := SW_cell HS2.out hb0 C1.out; have lB := cell_lt c0))
                  first
                    | go_end0
                    | refine bodyPost_ret (v := .tuple #[]) (by simp [results, Try.results61, go_sem]) rfl ?_
                    | (trace_state; fail)
                  exact ⟨rfl, d2, END.out _ _ _ HR.out HP2.out HO2.out (PR2.out _) (by have := (two_out (lo := a) (hi := mid) (FS2.out _ HR.out) g6 g4 HP2.out (.inr (Nat.le_refl _))).sr; rwa [show en = mid by omega] at this), SW_trans s0.out HH.out.lt HS2.out (by rw [(END.out _ _ _ HR.out HP2.out HO2.out (PR2.out _) (by have := (two_out (lo := a) (hi := mid) (FS2.out _ HR.out) g6 g4 HP2.out (.inr (Nat.le_refl _))).sr; rwa [show en = mid by omega] at this)).1.1])⟩
              · have z4 : ¬ (s : Int) < (mid : Int) := by omega
                by_cases l3 : mid < en
                · have z5 : (mid : Int) < (en : Int) := by omega
                  by_cases l4 : en < b
                  · have z6 : (en : Int) < (b : Int) := by omega
                    have HR := Lib.hid (rot_triv (d := d) (show s = m ∨ m = en by omega) g2 g3)
                    go_wp2_with (first
                      | (go_at_call 61; (with_reducible refine (IHB.out d _ (HL1.out.on HS.out (SZ2.out _ _ _ _ HR.out (PR.out _))) (HS.out.holds HL1.out.lt hH1.out ((SZ2.out _ _ _ _ HR.out (PR.out _)).trans HD.out.symm)) (SZ2.out _ _ _ _ HR.out (PR.out _)) l3 l4 hb (two_out (lo := a) (hi := mid) (FS2.out _ HR.out) g6 g4 (PR.out _) (.inr (Nat.le_refl _)))).mono ?_); rintro e wk ⟨rfl, d3, ⟨hp3, hs3⟩, hsk⟩; have HP3 := Lib.hid hp3; have HO3 := Lib.hid hs3; have HS3 := Lib.hid (SW_trans HS.out HL1.out.lt hsk hp3.1); clear hsk hp3 hs3))
                    first
                      | go_end0
                      | refine bodyPost_ret (v := .tuple #[]) (by simp [results, Try.results61, go_sem]) rfl ?_
                      | (trace_state; fail)
                    exact ⟨rfl, d3, END.out _ _ _ HR.out (PR.out _) (by have := (FS1.out _ HR.out).sl; rwa [show s = mid by omega] at this) HP3.out HO3.out, SW_trans s0.out HH.out.lt HS3.out (by rw [(END.out _ _ _ HR.out (PR.out _) (by have := (FS1.out _ HR.out).sl; rwa [show s = mid by omega] at this) HP3.out HO3.out).1.1])⟩
                  · have z6 : ¬ (en : Int) < (b : Int) := by omega
                    have HR := Lib.hid (rot_triv (d := d) (show s = m ∨ m = en by omega) g2 g3)
                    go_wp2_with fail
                    first
                      | go_end0
                      | refine bodyPost_ret (v := .tuple #[]) (by simp [results, Try.results61, go_sem]) rfl ?_
                      | (trace_state; fail)
                    exact ⟨rfl, d, END.out _ _ _ HR.out (PR.out _) (by have := (FS1.out _ HR.out).sl; rwa [show s = mid by omega] at this) (PR2.out _) (by have := (two_out (lo := a) (hi := mid) (FS2.out _ HR.out) g6 g4 (PR.out _) (.inr (Nat.le_refl _))).sl; rwa [show en = b by omega] at this), SW_trans s0.out HH.out.lt HS.out (by rw [(END.out _ _ _ HR.out (PR.out _) (by have := (FS1.out _ HR.out).sl; rwa [show s = mid by omega] at this) (PR2.out _) (by have := (two_out (lo := a) (hi := mid) (FS2.out _ HR.out) g6 g4 (PR.out _) (.inr (Nat.le_refl _))).sl; rwa [show en = b by omega] at this)).1.1])⟩
                · have z5 : ¬ (mid : Int) < (en : Int) := by omega
                  have HR := Lib.hid (rot_triv (d := d) (show s = m ∨ m = en by omega) g2 g3)
                  go_wp2_with fail
                  first
                    | go_end0
                    | refine bodyPost_ret (v := .tuple #[]) (by simp [results, Try.results61, go_sem]) rfl ?_
                    | (trace_state; fail)
                  exact ⟨rfl, d, END.out _ _ _ HR.out (PR.out _) (by have := (FS1.out _ HR.out).sl; rwa [show s = mid by omega] at this) (PR2.out _) (by have := (two_out (lo := a) (hi := mid) (FS2.out _ HR.out) g6 g4 (PR.out _) (.inr (Nat.le_refl _))).sr; rwa [show en = mid by omega] at this), SW_trans s0.out HH.out.lt HS.out (by rw [(END.out _ _ _ HR.out (PR.out _) (by have := (FS1.out _ HR.out).sl; rwa [show s = mid by omega] at this) (PR2.out _) (by have := (two_out (lo := a) (hi := mid) (FS2.out _ HR.out) g6 g4 (PR.out _) (.inr (Nat.le_refl _))).sr; rwa [show en = mid by omega] at this)).1.1])⟩
            · have z3 : ¬ (a : Int) < (s : Int) := by omega
              by_cases l3 : mid < en
              · have z5 : (mid : Int) < (en : Int) := by omega
                by_cases l4 : en < b
                · have z6 : (en : Int) < (b : Int) := by omega
                  have HR := Lib.hid (rot_triv (d := d) (show s = m ∨ m = en by omega) g2 g3)
                  go_wp2_with (first
                    | (go_at_call 61; (with_reducible refine (IHB.out d _ (HL1.out.on HS.out (SZ2.out _ _ _ _ HR.out (PR.out _))) (HS.out.holds HL1.out.lt hH1.out ((SZ2.out _ _ _ _ HR.out (PR.out _)).trans HD.out.symm)) (SZ2.out _ _ _ _ HR.out (PR.out _)) l3 l4 hb (two_out (lo := a) (hi := mid) (FS2.out _ HR.out) g6 g4 (PR.out _) (.inr (Nat.le_refl _)))).mono ?_); rintro e wk ⟨rfl, d3, ⟨hp3, hs3⟩, hsk⟩; have HP3 := Lib.hid hp3; have HO3 := Lib.hid hs3; have HS3 := Lib.hid (SW_trans HS.out HL1.out.lt hsk hp3.1); clear hsk hp3 hs3))
                  first
                    | go_end0
                    | refine bodyPost_ret (v := .tuple #[]) (by simp [results, Try.results61, go_sem]) rfl ?_
                    | (trace_state; fail)
                  exact ⟨rfl, d3, END.out _ _ _ HR.out (PR.out _) (by have := (FS1.out _ HR.out).sr; rwa [show s = a by omega] at this) HP3.out HO3.out, SW_trans s0.out HH.out.lt HS3.out (by rw [(END.out _ _ _ HR.out (PR.out _) (by have := (FS1.out _ HR.out).sr; rwa [show s = a by omega] at this) HP3.out HO3.out).1.1])⟩
                · have z6 : ¬ (en : Int) < (b : Int) := by omega
                  have HR := Lib.hid (rot_triv (d := d) (show s = m ∨ m = en by omega) g2 g3)
                  go_wp2_with fail
                  first
                    | go_end0
                    | refine bodyPost_ret (v := .tuple #[]) (by simp [results, Try.results61, go_sem]) rfl ?_
                    | (trace_state; fail)
                  exact ⟨rfl, d, END.out _ _ _ HR.out (PR.out _) (by have := (FS1.out _ HR.out).sr; rwa [show s = a by omega] at this) (PR2.out _) (by have := (two_out (lo := a) (hi := mid) (FS2.out _ HR.out) g6 g4 (PR.out _) (.inr (Nat.le_refl _))).sl; rwa [show en = b by omega] at this), SW_trans s0.out HH.out.lt HS.out (by rw [(END.out _ _ _ HR.out (PR.out _) (by have := (FS1.out _ HR.out).sr; rwa [show s = a by omega] at this) (PR2.out _) (by have := (two_out (lo := a) (hi := mid) (FS2.out _ HR.out) g6 g4 (PR.out _) (.inr (Nat.le_refl _))).sl; rwa [show en = b by omega] at this)).1.1])⟩
              · have z5 : ¬ (mid : Int) < (en : Int) := by omega
                have HR := Lib.hid (rot_triv (d := d) (show s = m ∨ m = en by omega) g2 g3)
                go_wp2_with fail
                first
                  | go_end0
                  | refine bodyPost_ret (v := .tuple #[]) (by simp [results, Try.results61, go_sem]) rfl ?_
                  | (trace_state; fail)
                exact ⟨rfl, d, END.out _ _ _ HR.out (PR.out _) (by have := (FS1.out _ HR.out).sr; rwa [show s = a by omega] at this) (PR2.out _) (by have := (two_out (lo := a) (hi := mid) (FS2.out _ HR.out) g6 g4 (PR.out _) (.inr (Nat.le_refl _))).sr; rwa [show en = mid by omega] at this), SW_trans s0.out HH.out.lt HS.out (by rw [(END.out _ _ _ HR.out (PR.out _) (by have := (FS1.out _ HR.out).sr; rwa [show s = a by omega] at this) (PR2.out _) (by have := (two_out (lo := a) (hi := mid) (FS2.out _ HR.out) g6 g4 (PR.out _) (.inr (Nat.le_refl _))).sr; rwa [show en = mid by omega] at this)).1.1])⟩
        · have z1 : ¬ (s : Int) < (m : Int) := by omega
          by_cases l1 : a < s
          · have z3 : (a : Int) < (s : Int) := by omega
            by_cases l2 : s < mid
            · have z4 : (s : Int) < (mid : Int) := by omega
              by_cases l3 : mid < en
              · have z5 : (mid : Int) < (en : Int) := by omega
                by_cases l4 : en < b
                · have z6 : (en : Int) < (b : Int) := by omega
                  have HR := Lib.hid (rot_triv (d := d) (show s = m ∨ m = en by omega) g2 g3)
                  go_wp2_with (first
                    | (go_at_call 61; (with_reducible refine (IHA.out d _ (HL1.out.on HS.out (SZ.out _ HR.out)) (HS.out.holds HL1.out.lt hH1.out ((SZ.out _ HR.out).trans HD.out.symm)) (SZ.out _ HR.out) l1 l2 (by omega) (FS1.out _ HR.out)).mono ?_); rintro e wk ⟨rfl, d2, ⟨hp2, hs2⟩, hsk⟩; have HP2 := Lib.hid hp2; have HO2 := Lib.hid hs2; have HS2 := Lib.hid (SW_trans HS.out HL1.out.lt hsk hp2.1); clear hsk hp2 hs2; have c0 := SW_cell HS2.out hb0 C0.out; have c1 := SW_cell HS2.out hb0 C1.out; have lB := cell_lt c0)
                    | (go_at_call 61; (with_reducible refine (IHB.out d2 _ (HL1.out.on HS2.out (SZ2.out _ _ _ _ HR.out HP2.out)) (HS2.out.holds HL1.out.lt hH1.out ((SZ2.out _ _ _ _ HR.out HP2.out).trans HD.out.symm)) (SZ2.out _ _ _ _ HR.out HP2.out) l3 l4 hb (two_out (lo := a) (hi := mid) (FS2.out _ HR.out) g6 g4 HP2.out (.inr (Nat.le_refl _)))).mono ?_); rintro e wk ⟨rfl, d3, ⟨hp3, hs3⟩, hsk⟩; have HP3 := Lib.hid hp3; have HO3 := Lib.hid hs3; have HS3 := Lib.hid (SW_trans HS2.out HL1.out.lt hsk hp3.1); clear hsk hp3 hs3))
                  first
                    | go_end0
                    | refine bodyPost_ret (v := .tuple #[]) (by simp [results, Try.results61, go_sem]) rfl ?_
                    | (trace_state; fail)
                  exact ⟨rfl, d3, END.out _ _ _ HR.out HP2.out HO2.out HP3.out HO3.out, SW_trans s0.out HH.out.lt HS3.out (by rw [(END.out _ _ _ HR.out HP2.out HO2.out HP3.out HO3.out).1.1])⟩
                · have z6 : ¬ (en : Int) < (b : Int) := by omega
                  have HR := Lib.hid (rot_triv (d := d) (show s = m ∨ m = en by omega) g2 g3)
                  go_wp2_with (first
                    | (go_at_call 61; (with_reducible refine (IHA.out d _ (HL1.out.on HS.out (SZ.out _ HR.out)) (HS.out.holds HL1.out.lt hH1.out ((SZ.out _ HR.out).trans HD.out.symm)) (SZ.out _ HR.out) l1 l2 (by omega) (FS1.out _ HR.out)).mono ?_); rintro e wk ⟨rfl, d2, ⟨hp2, hs2⟩, hsk⟩; have HP2 := Lib.hid hp2; have HO2 := Lib.hid hs2; have HS2 := Lib.hid (SW_trans HS.out HL1.out.lt hsk hp2.1); clear hsk hp2 hs2; have c0 := SW_cell HS2.out hb0 C0.out; have c1 := SW_cell HS2.out hb0 C1.out; have lB := cell_lt c0))
                  first
                    | go_end0
                    | refine bodyPost_ret (v := .tuple #[]) (by simp [results, Try.results61, go_sem]) rfl ?_
                    | (trace_state; fail)
                  exact ⟨rfl, d2, END.out _ _ _ HR.out HP2.out HO2.out (PR2.out _) (by have := (two_out (lo := a) (hi := mid) (FS2.out _ HR.out) g6 g4 HP2.out (.inr (Nat.le_refl _))).sl; rwa [show en = b by omega] at this), SW_trans s0.out HH.out.lt HS2.out (by rw [(END.out _ _ _ HR.out HP2.out HO2.out (PR2.out _) (by have := (two_out (lo := a) (hi := mid) (FS2.out _ HR.out) g6 g4 HP2.out (.inr (Nat.le_refl _))).sl; rwa [show en = b by omega] at this)).1.1])⟩
              · have z5 : ¬ (mid : Int) < (en : Int) := by omega
                have HR := Lib.hid (rot_triv (d := d) (show s = m ∨ m = en by omega) g2 g3)
                go_wp2_with (first
                  | (go_at_call 61; (with_reducible refine (IHA.out d _ (HL1.out.on HS.out (SZ.out _ HR.out)) (HS.out.holds HL1.out.lt hH1.out ((SZ.out _ HR.out).trans HD.out.symm)) (SZ.out _ HR.out) l1 l2 (by omega) (FS1.out _ HR.out)).mono ?_); rintro e wk ⟨rfl, d2, ⟨hp2, hs2⟩, hsk⟩; have HP2 := Lib.hid hp2; have HO2 := Lib.hid hs2; have HS2 := Lib.hid (SW_trans HS.out HL1.out.lt hsk hp2.1); clear hsk hp2 hs2; have c0 := SW_cell HS2.out hb0 C0.out; have c1 := SW_cell HS2.out hb0 C1.out; have lB := cell_lt c0))
                first
                  | go_end0
                  | refine bodyPost_ret (v := .tuple #[]) (by simp [results, Try.results61, go_sem]) rfl ?_
                  | (trace_state; fail)
                exact ⟨rfl, d2, END.out _ _ _ HR.out HP2.out HO2.out (PR2.out _) (by have := (two_out (lo := a) (hi := mid) (FS2.out _ HR.out) g6 g4 HP2.out (.inr (Nat.le_refl _))).sr; rwa [show en = mid by omega] at this), SW_trans s0.out HH.out.lt HS2.out (by rw [(END.out _ _ _ HR.out HP2.out HO2.out (PR2.out _) (by have := (two_out (lo := a) (hi := mid) (FS2.out _ HR.out) g6 g4 HP2.out (.inr (Nat.le_refl _))).sr; rwa [show en = mid by omega] at this)).1.1])⟩
            · have z4 : ¬ (s : Int) < (mid : Int) := by omega
              by_cases l3 : mid < en
              · have z5 : (mid : Int) < (en : Int) := by omega
                by_cases l4 : en < b
                · have z6 : (en : Int) < (b : Int) := by omega
                  have HR := Lib.hid (rot_triv (d := d) (show s = m ∨ m = en by omega) g2 g3)
                  go_wp2_with (first
                    | (go_at_call 61; (with_reducible refine (IHB.out d _ (HL1.out.on HS.out (SZ2.out _ _ _ _ HR.out (PR.out _))) (HS.out.holds HL1.out.lt hH1.out ((SZ2.out _ _ _ _ HR.out (PR.out _)).trans HD.out.symm)) (SZ2.out _ _ _ _ HR.out (PR.out _)) l3 l4 hb (two_out (lo := a) (hi := mid) (FS2.out _ HR.out) g6 g4 (PR.out _) (.inr (Nat.le_refl _)))).mono ?_); rintro e wk ⟨rfl, d3, ⟨hp3, hs3⟩, hsk⟩; have HP3 := Lib.hid hp3; have HO3 := Lib.hid hs3; have HS3 := Lib.hid (SW_trans HS.out HL1.out.lt hsk hp3.1); clear hsk hp3 hs3))
                  first
                    | go_end0
                    | refine bodyPost_ret (v := .tuple #[]) (by simp [results, Try.results61, go_sem]) rfl ?_
                    | (trace_state; fail)
                  exact ⟨rfl, d3, END.out _ _ _ HR.out (PR.out _) (by have := (FS1.out _ HR.out).sl; rwa [show s = mid by omega] at this) HP3.out HO3.out, SW_trans s0.out HH.out.lt HS3.out (by rw [(END.out _ _ _ HR.out (PR.out _) (by have := (FS1.out _ HR.out).sl; rwa [show s = mid by omega] at this) HP3.out HO3.out).1.1])⟩
                · have z6 : ¬ (en : Int) < (b : Int) := by omega
                  have HR := Lib.hid (rot_triv (d := d) (show s = m ∨ m = en by omega) g2 g3)
                  go_wp2_with fail
                  first
                    | go_end0
                    | refine bodyPost_ret (v := .tuple #[]) (by simp [results, Try.results61, go_sem]) rfl ?_
                    | (trace_state; fail)
                  exact ⟨rfl, d, END.out _ _ _ HR.out (PR.out _) (by have := (FS1.out _ HR.out).sl; rwa [show s = mid by omega] at this) (PR2.out _) (by have := (two_out (lo := a) (hi := mid) (FS2.out _ HR.out) g6 g4 (PR.out _) (.inr (Nat.le_refl _))).sl; rwa [show en = b by omega] at this), SW_trans s0.out HH.out.lt HS.out (by rw [(END.out _ _ _ HR.out (PR.out _) (by have := (FS1.out _ HR.out).sl; rwa [show s = mid by omega] at this) (PR2.out _) (by have := (two_out (lo := a) (hi := mid) (FS2.out _ HR.out) g6 g4 (PR.out _) (.inr (Nat.le_refl _))).sl; rwa [show en = b by omega] at this)).1.1])⟩
              · have z5 : ¬ (mid : Int) < (en : Int) := by omega
                have HR := Lib.hid (rot_triv (d := d) (show s = m ∨ m = en by omega) g2 g3)
                go_wp2_with fail
                first
                  | go_end0
                  | refine bodyPost_ret (v := .tuple #[]) (by simp [results, Try.results61, go_sem]) rfl ?_
                  | (trace_state; fail)
                exact ⟨rfl, d, END.out _ _ _ HR.out (PR.out _) (by have := (FS1.out _ HR.out).sl; rwa [show s = mid by omega] at this) (PR2.out _) (by have := (two_out (lo := a) (hi := mid) (FS2.out _ HR.out) g6 g4 (PR.out _) (.inr (Nat.le_refl _))).sr; rwa [show en = mid by omega] at this), SW_trans s0.out HH.out.lt HS.out (by rw [(END.out _ _ _ HR.out (PR.out _) (by have := (FS1.out _ HR.out).sl; rwa [show s = mid by omega] at this) (PR2.out _) (by have := (two_out (lo := a) (hi := mid) (FS2.out _ HR.out) g6 g4 (PR.out _) (.inr (Nat.le_refl _))).sr; rwa [show en = mid by omega] at this)).1.1])⟩
          · have z3 : ¬ (a : Int) < (s : Int) := by omega
            by_cases l3 : mid < en
            · have z5 : (mid : Int) < (en : Int) := by omega
              by_cases l4 : en < b
              · have z6 : (en : Int) < (b : Int) := by omega
                have HR := Lib.hid (rot_triv (d := d) (show s = m ∨ m = en by omega) g2 g3)
                go_wp2_with (first
                  | (go_at_call 61; (with_reducible refine (IHB.out d _ (HL1.out.on HS.out (SZ2.out _ _ _ _ HR.out (PR.out _))) (HS.out.holds HL1.out.lt hH1.out ((SZ2.out _ _ _ _ HR.out (PR.out _)).trans HD.out.symm)) (SZ2.out _ _ _ _ HR.out (PR.out _)) l3 l4 hb (two_out (lo := a) (hi := mid) (FS2.out _ HR.out) g6 g4 (PR.out _) (.inr (Nat.le_refl _)))).mono ?_); rintro e wk ⟨rfl, d3, ⟨hp3, hs3⟩, hsk⟩; have HP3 := Lib.hid hp3; have HO3 := Lib.hid hs3; have HS3 := Lib.hid (SW_trans HS.out HL1.out.lt hsk hp3.1); clear hsk hp3 hs3))
                first
                  | go_end0
                  | refine bodyPost_ret (v := .tuple #[]) (by simp [results, Try.results61, go_sem]) rfl ?_
                  | (trace_state; fail)
                exact ⟨rfl, d3, END.out _ _ _ HR.out (PR.out _) (by have := (FS1.out _ HR.out).sr; rwa [show s = a by omega] at this) HP3.out HO3.out, SW_trans s0.out HH.out.lt HS3.out (by rw [(END.out _ _ _ HR.out (PR.out _) (by have := (FS1.out _ HR.out).sr; rwa [show s = a by omega] at this) HP3.out HO3.out).1.1])⟩
              · have z6 : ¬ (en : Int) < (b : Int) := by omega
                have HR := Lib.hid (rot_triv (d := d) (show s = m ∨ m = en by omega) g2 g3)
                go_wp2_with fail
                first
                  | go_end0
                  | refine bodyPost_ret (v := .tuple #[]) (by simp [results, Try.results61, go_sem]) rfl ?_
                  | (trace_state; fail)
                exact ⟨rfl, d, END.out _ _ _ HR.out (PR.out _) (by have := (FS1.out _ HR.out).sr; rwa [show s = a by omega] at this) (PR2.out _) (by have := (two_out (lo := a) (hi := mid) (FS2.out _ HR.out) g6 g4 (PR.out _) (.inr (Nat.le_refl _))).sl; rwa [show en = b by omega] at this), SW_trans s0.out HH.out.lt HS.out (by rw [(END.out _ _ _ HR.out (PR.out _) (by have := (FS1.out _ HR.out).sr; rwa [show s = a by omega] at this) (PR2.out _) (by have := (two_out (lo := a) (hi := mid) (FS2.out _ HR.out) g6 g4 (PR.out _) (.inr (Nat.le_refl _))).sl; rwa [show en = b by omega] at this)).1.1])⟩
            · have z5 : ¬ (mid : Int) < (en : Int) := by omega
              have HR := Lib.hid (rot_triv (d := d) (show s = m ∨ m = en by omega) g2 g3)
              go_wp2_with fail
              first
                | go_end0
                | refine bodyPost_ret (v := .tuple #[]) (by simp [results, Try.results61, go_sem]) rfl ?_
                | (trace_state; fail)
              exact ⟨rfl, d, END.out _ _ _ HR.out (PR.out _) (by have := (FS1.out _ HR.out).sr; rwa [show s = a by omega] at this) (PR2.out _) (by have := (two_out (lo := a) (hi := mid) (FS2.out _ HR.out) g6 g4 (PR.out _) (.inr (Nat.le_refl _))).sr; rwa [show en = mid by omega] at this), SW_trans s0.out HH.out.lt HS.out (by rw [(END.out _ _ _ HR.out (PR.out _) (by have := (FS1.out _ HR.out).sr; rwa [show s = a by omega] at this) (PR2.out _) (by have := (two_out (lo := a) (hi := mid) (FS2.out _ HR.out) g6 g4 (PR.out _) (.inr (Nat.le_refl _))).sr; rwa [show en = mid by omega] at this)).1.1])⟩
/-- symMerge_func, of any two sorted parts. -/
theorem sym_any (hS : SWO T) : ∀ n a m b, b - a ≤ n → SymC enc lt T g lb sf sb blk off N a m b := by
  intro n
  induction n with
  | zero => intro a m b hn d W H hH hd ham hmb; omega
  | succ n ih =>
    intro a m b hn
    by_cases h1 : m = a + 1
    · subst h1
      intro d W H hH hd ham hmb hb h2
      exact sym_left hS a b d W H hH hd hmb hb h2
    · by_cases h2 : b = m + 1
      · subst h2
        intro d W H hH hd ham hmb hb h2
        exact sym_right hS a m d W H hH hd (by omega) hb h2
      · exact sym_rec hS a m b (fun a' m' b' h => ih a' m' b' (by omega)) h1 h2
end
end Go.Proofs.Ytcmijedhjebpkaa

/- Plain: the insertion sort of a block of places in their order is that by the total order. -/
namespace Go.Proofs.Mon
open Go.Sort
set_option linter.unusedVariables false
section
variable {n : Nat} [Inhabited (Fin n)]
theorem inner_sameA (R : List Int) (a : Nat) : ∀ (j : Nat) (d : Array (Fin n)), j < d.size → (∀ k, a ≤ k → k < j → d[k]!.val < d[j]!.val) → insInner (ltF R) a j d = insInner (ltT R) a j d
  | 0, d, _, _ => rfl
  | j + 1, d, hj, h => by
    unfold insInner
    by_cases hja : j + 1 > a
    · rw [lt_same R (h j (by omega) (by omega))]
      split
      · refine inner_sameA R a j _ (by rw [size_swp]; omega) fun k hak hk => ?_
        rw [swp_right d (j + 1) j (by omega), swp_other d (j + 1) j k (by omega) (by omega)]
        exact h k hak (by omega)
      · rfl
    · rw [decide_eq_false hja]; rfl
/-- The places of [a, b) alone change. -/
theorem inner_keepA (lt : Fin n → Fin n → Bool) (a : Nat) (Q : Fin n → Prop) : ∀ (j : Nat) (d : Array (Fin n)), j < d.size → (∀ k, a ≤ k → k ≤ j → Q d[k]!) →
    (insInner lt a j d).size = d.size ∧ (∀ k, j < k → (insInner lt a j d)[k]! = d[k]!) ∧ (∀ k, a ≤ k → k ≤ j → Q (insInner lt a j d)[k]!)
  | 0, d, _, h => ⟨rfl, fun _ _ => rfl, h⟩
  | j + 1, d, hj, h => by
    unfold insInner
    split
    · rename_i hc
      have hja : a ≤ j := by
        rw [Bool.and_eq_true, decide_eq_true_eq] at hc
        have := hc.1
        omega
      have hs : ∀ k, a ≤ k → k ≤ j → Q (swp d (j + 1) j)[k]! := fun k hak hk => by
        by_cases e : k = j
        · subst e; rw [swp_right d (k + 1) k (by omega)]; exact h (k + 1) (by omega) (Nat.le_refl _)
        · rw [swp_other d (j + 1) j k (by omega) e]; exact h k hak (by omega)
      obtain ⟨a1, a2, a3⟩ := inner_keepA lt a Q j (swp d (j + 1) j) (by rw [size_swp]; omega) hs
      refine ⟨by rw [a1, size_swp], fun k hk => ?_, fun k hak hk => ?_⟩
      · rw [a2 k (by omega), swp_other d (j + 1) j k (by omega) (by omega)]
      · by_cases e : k = j + 1
        · subst e
          rw [a2 (j + 1) (by omega), swp_left d (j + 1) j hj (by omega)]
          exact h j hja (by omega)
        · exact a3 k hak (by omega)
    · exact ⟨rfl, fun _ _ => rfl, h⟩
theorem outer_sameA (R : List Int) (a b : Nat) : ∀ (m i : Nat) (d : Array (Fin n)), b - i = m → a < i → b ≤ d.size → (∀ k, i ≤ k → k < b → d[k]!.val = k) → (∀ k, a ≤ k → k < i → d[k]!.val < i) → insOuter (ltF R) a b i d = insOuter (ltT R) a b i d := by
  intro m
  induction m with
  | zero =>
    intro i d hm _ _ _ _
    rw [insOuter_stop (ltF R) a b i d (by omega), insOuter_stop (ltT R) a b i d (by omega)]
  | succ m ih =>
    intro i d hm h0 hb h1 h2
    rw [insOuter_go (ltF R) a b i d (by omega), insOuter_go (ltT R) a b i d (by omega)]
    have hii : d[i]!.val = i := h1 i (Nat.le_refl _) (by omega)
    rw [inner_sameA R a i d (by omega) (fun k hak hk => by rw [hii]; exact h2 k hak hk)]
    obtain ⟨a1, a2, a3⟩ := inner_keepA (ltT R) a (fun x => x.val < i + 1) i d (by omega) (fun k hak hk => by
      by_cases e : k = i
      · subst e; omega
      · have := h2 k hak (by omega); omega)
    exact ih (i + 1) _ (by omega) (by omega) (by rw [a1]; exact hb) (fun k hk hk2 => by rw [a2 k (by omega)]; exact h1 k (by omega) hk2) (fun k hak hk => a3 k hak (by omega))
/-- A block of places in their order, sorted. -/
theorem block_sort (R : List Int) (a b : Nat) (d : Array (Fin n)) (hab : a ≤ b) (hb : b ≤ d.size) (h : ∀ k, a ≤ k → k < b → d[k]!.val = k) :
    PermIn a b d (insertionSort (ltF R) d a b) ∧ SortedIn (ltT R) a b (insertionSort (ltF R) d a b) := by
  have e : insertionSort (ltF R) d a b = insertionSort (ltT R) d a b := by
    unfold insertionSort
    by_cases g : a < b
    · refine outer_sameA R a b _ _ _ rfl (by omega) hb (fun k hk hk2 => h k (by omega) hk2) (fun k hk hk2 => ?_)
      rw [h k hk (by omega)]; omega
    · rw [insOuter_stop (ltF R) a b (a + 1) d (by omega), insOuter_stop (ltT R) a b (a + 1) d (by omega)]
  rw [e]
  exact insertionSort_holds (ltT_swo R) d a b hab hb
end
end Go.Proofs.Mon

/- Plain: blocks of places, while they are merged two by two. -/
namespace Go.Proofs.Mon
open Go.Sort
set_option linter.unusedVariables false
section
variable {n : Nat} [Inhabited (Fin n)]
/-- The places of [a, b) hold just what belongs there: each of them is one of a .. b - 1. -/
def OwnBlk (a b : Nat) (d : Array (Fin n)) : Prop := ∀ k, a ≤ k → k < b → a ≤ d[k]!.val ∧ d[k]!.val < b
theorem OwnBlk.perm {a b : Nat} {d d' : Array (Fin n)} (h : OwnBlk a b d) (hb : b ≤ d.size) (hp : PermIn a b d d') : OwnBlk a b d' :=
  permIn_all d d' a b (fun x => a ≤ x.val ∧ x.val < b) hb hp h
theorem OwnBlk.out {a b lo hi : Nat} {d d' : Array (Fin n)} (h : OwnBlk a b d) (hp : PermIn lo hi d d') (ho : b ≤ lo ∨ hi ≤ a) : OwnBlk a b d' := fun k h1 h2 => by
  rw [hp.2.1 k (by omega)]; exact h k h1 h2
theorem OwnBlk.join {a m b : Nat} {d : Array (Fin n)} (h : OwnBlk a m d) (k : OwnBlk m b d) (ham : a ≤ m) (hmb : m ≤ b) : OwnBlk a b d := fun x h1 h2 => by
  by_cases g : x < m
  · have := h x h1 g; omega
  · have := k x (by omega) h2; omega
theorem sorted_out {T : Fin n → Fin n → Bool} {a b lo hi : Nat} {d d' : Array (Fin n)} (h : SortedIn T a b d) (hp : PermIn lo hi d d') (ho : b ≤ lo ∨ hi ≤ a) : SortedIn T a b d' := fun i j h1 h2 h3 => by
  rw [hp.2.1 i (by omega), hp.2.1 j (by omega)]; exact h i j h1 h2 h3
/-- Two blocks beside one another are two parts to be merged. -/
theorem two_blk (R : List Int) {a m b : Nat} {d : Array (Fin n)} (s1 : SortedIn (ltT R) a m d) (s2 : SortedIn (ltT R) m b d) (o1 : OwnBlk a m d) (o2 : OwnBlk m b d) : Two (ltT R) (ltF R) a m b d :=
  ⟨s1, s2, fun i j h1 h2 h3 h4 => lt_same R (by have := o1 i h1 h2; have := o2 j h3 h4; omega)⟩
end
end Go.Proofs.Mon

/- sort's insertionSort_func on a block of places. -/
namespace Go.Proofs.Ytcmijedhjebpkaa
open Go.RowKit Go.Proofs.Geo Go.Proofs.Mon Go.Shelf Go.Lib Go.Sort
set_option linter.unusedVariables false
theorem ins_any {m : Nat} {enc : Fin (m + 1) → Value} {g : Nat} {lb : Array Value} {sf : Nat} {sb : Array Value} {blk off N : Nat} (R : List Int) (a b : Nat) (d : Array (Fin (m + 1))) (W : World)
    (H : LS enc (ltF R) g lb sf sb blk off N W) (hH : Holds enc W blk off d) (hd : d.size = N) (hab : a ≤ b) (hb : b ≤ N) (h : ∀ k, a ≤ k → k < b → d[k]!.val = k) :
    Calls Try.prog 60 #[.agg #[.func (.func g) #[] lb, .func (.func sf) #[] sb], .int .i64 a, .int .i64 b] W fun e w' => e = .returned (.tuple #[]) ∧ ∃ d', (PermIn a b d d' ∧ SortedIn (ltT R) a b d') ∧ SW enc W blk off d' w' := by
  have LI : LaysGg.n26 Try.prog ssRen.viaGt := ({ ssLays with } : LaysGt.n29 Try.prog ssRen).elder
  subst hd
  have hc := Any.insertionSort_func_w LI enc (ltF R) g lb sf sb blk off a b d W H.eg H.less H.swap hH H.lt hab hb H.N
  refine Calls.mono hc ?_
  rintro e w' ⟨rfl, n, os, rfl⟩
  exact ⟨rfl, _, block_sort R a b d hab hb h, n, os, rfl⟩
end Go.Proofs.Ytcmijedhjebpkaa

/- Plain: a row in sorted blocks. -/
namespace Go.Proofs.Mon
open Go.Sort
set_option linter.unusedVariables false
section
variable {n : Nat} [Inhabited (Fin n)]
/-- A sorted block of its own places. -/
def Blk (R : List Int) (a b : Nat) (d : Array (Fin n)) : Prop := SortedIn (ltT R) a b d ∧ OwnBlk a b d
theorem Blk.out {R : List Int} {a b lo hi : Nat} {d d' : Array (Fin n)} (h : Blk R a b d) (hp : PermIn lo hi d d') (ho : b ≤ lo ∨ hi ≤ a) : Blk R a b d' := ⟨sorted_out h.1 hp ho, h.2.out hp ho⟩
theorem Blk.two {R : List Int} {a m b : Nat} {d : Array (Fin n)} (h : Blk R a m d) (k : Blk R m b d) : Two (ltT R) (ltF R) a m b d := two_blk R h.1 k.1 h.2 k.2
theorem Blk.merged {R : List Int} {a m b : Nat} {d d' : Array (Fin n)} (h : Blk R a m d) (k : Blk R m b d) (ham : a ≤ m) (hmb : m ≤ b) (hb : b ≤ d.size) (hp : PermIn a b d d') (hs : SortedIn (ltT R) a b d') : Blk R a b d' :=
  ⟨hs, (h.2.join k.2 ham hmb).perm hb hp⟩
theorem Blk.none {R : List Int} {a : Nat} {d : Array (Fin n)} : Blk R a a d := ⟨fun i j h1 h2 h3 => by omega, fun k h1 h2 => by omega⟩
/-- Sorted blocks of bs up to a. -/
inductive Bef (R : List Int) (bs : Nat) (d : Array (Fin n)) : Nat → Prop
  | none : Bef R bs d 0
  | more {a : Nat} : Bef R bs d a → Blk R a (a + bs) d → Bef R bs d (a + bs)
/-- Sorted blocks of bs from a to N, the last one shorter perhaps. -/
inductive Fro (R : List Int) (bs N : Nat) (d : Array (Fin n)) : Nat → Prop
  | last {a : Nat} : a ≤ N → N ≤ a + bs → Blk R a N d → Fro R bs N d a
  | more {a : Nat} : a + bs ≤ N → Blk R a (a + bs) d → Fro R bs N d (a + bs) → Fro R bs N d a
theorem Bef.out {R : List Int} {bs a lo hi : Nat} {d d' : Array (Fin n)} (h : Bef R bs d a) (hp : PermIn lo hi d d') (ho : a ≤ lo) : Bef R bs d' a := by
  induction h with
  | none => exact .none
  | more _ k ih => exact .more (ih (by omega)) (k.out hp (.inl ho))
theorem Fro.out {R : List Int} {bs N a lo hi : Nat} {d d' : Array (Fin n)} (h : Fro R bs N d a) (hp : PermIn lo hi d d') (ho : hi ≤ a) : Fro R bs N d' a := by
  induction h with
  | last h1 h2 k => exact .last h1 h2 (k.out hp (.inr ho))
  | more h1 k _ ih => exact .more h1 (k.out hp (.inr ho)) (ih (by omega))
theorem Bef.all {R : List Int} {bs N a : Nat} {d : Array (Fin n)} (h : Bef R bs d a) (k : Fro R bs N d a) : Fro R bs N d 0 := by
  induction h with
  | none => exact k
  | more _ b ih => exact ih (.more (by cases k <;> omega) b k)
/-- The two blocks ahead. -/
theorem Fro.two {R : List Int} {bs N a : Nat} {d : Array (Fin n)} (h : Fro R bs N d a) (h0 : 0 < bs) (h2 : a + 2 * bs ≤ N) : Blk R a (a + bs) d ∧ Blk R (a + bs) (a + 2 * bs) d ∧ Fro R bs N d (a + 2 * bs) := by
  cases h with
  | last h1 h3 k => omega
  | more h1 k r =>
    refine ⟨k, ?_⟩
    cases r with
    | last h3 h4 k2 =>
      obtain rfl : N = a + 2 * bs := by omega
      exact ⟨k2, .last (Nat.le_refl _) (by omega) .none⟩
    | more h3 k2 r2 =>
      rw [show a + 2 * bs = a + bs + bs by omega]
      exact ⟨k2, r2⟩
/-- What is left: a block, and less than a block. -/
theorem Fro.rest {R : List Int} {bs N a : Nat} {d : Array (Fin n)} (h : Fro R bs N d a) (h2 : N < a + 2 * bs) (hm : a + bs < N) : Blk R a (a + bs) d ∧ Blk R (a + bs) N d := by
  cases h with
  | last h1 h3 k => omega
  | more h1 k r =>
    refine ⟨k, ?_⟩
    cases r with
    | last h3 h4 k2 => exact k2
    | more h3 k2 r2 => omega
theorem Fro.one {R : List Int} {bs N a : Nat} {d : Array (Fin n)} (h : Fro R bs N d a) (hm : N ≤ a + bs) : Blk R a N d := by
  cases h with
  | last h1 h3 k => exact k
  | more h1 k r =>
    obtain rfl : N = a + bs := by omega
    exact k
theorem Fro.le {R : List Int} {bs N a : Nat} {d : Array (Fin n)} (h : Fro R bs N d a) : a ≤ N := by
  cases h <;> omega
theorem own_ids {a b : Nat} {d d' : Array (Fin n)} (hab : a ≤ b) (hb : b ≤ d.size) (h : ∀ k, a ≤ k → k < b → d[k]!.val = k) (hp : PermIn a b d d') : OwnBlk a b d' :=
  OwnBlk.perm (d := d) (fun k h1 h2 => by rw [h k h1 h2]; omega) hb hp
end
theorem srt_of (m : Nat) (R : List Int) (hR : R.length = m + 1) (d : Array (Fin (m + 1))) (hp : PermIn 0 (m + 1) (ids m) d) (p4 : SortedIn (ltT R) 0 (m + 1) d) : SrtBy R (outI d).toList ∧ d.size = m + 1 := by
  obtain ⟨p1, _, p3⟩ := hp
  rw [ids_size] at p1
  have p5 : d.toList.Perm (ids m).toList := by
    have h1 : d.extract 0 (m + 1) = d := by
      have h := Array.extract_size (xs := d)
      rwa [show d.extract 0 d.size = d.extract 0 (m + 1) from congrArg (fun z => d.extract 0 z) p1] at h
    have h2 : (ids m).extract 0 (m + 1) = ids m := by
      have h := Array.extract_size (xs := ids m)
      rwa [show (ids m).extract 0 (ids m).size = (ids m).extract 0 (m + 1) from congrArg (fun z => (ids m).extract 0 z) (ids_size m)] at h
    rwa [h1, h2] at p3
  have p6 : (outI d).toList.Perm (idxL (m + 1)) := by
    unfold outI
    rw [Array.toList_map, ← ids_out]
    exact p5.map _
  refine ⟨⟨by rw [hR]; exact p6, fun i j hij hj => ?_⟩, p1⟩
  have hjd : j < d.size := by simpa [outI] using hj
  have hnd : (outI d).toList.Nodup := p6.nodup_iff.2 (idxL_nodup _)
  have hg : ∀ k, k < d.size → ((outI d).toList.getD k 0) = (d[k]!.val : Int) := fun k hk => by
    rw [getElem!_pos d k hk]
    simp [outI, hk]
  rw [hg i (by omega), hg j hjd, Int.toNat_natCast, Int.toNat_natCast]
  have hne : d[i]! ≠ d[j]! := fun e2 => by
    have h1 := hg i (by omega)
    have h2 := hg j hjd
    rw [e2, ← h2] at h1
    have hi' : i < (outI d).toList.length := by simp [outI]; omega
    rw [List.getD_eq_getElem?_getD, List.getElem?_eq_getElem hi', List.getD_eq_getElem?_getD, List.getElem?_eq_getElem hj] at h1
    have := (List.getElem_inj hnd).1 h1
    omega
  exact ltT_total (p4 i j (by omega) hij (by omega)) hne
end Go.Proofs.Mon

/- sort's stable_func, of places in their order. -/
namespace Go.Proofs.Ytcmijedhjebpkaa
open Go.RowKit Go.Proofs.Geo Go.Proofs.Mon Go.Shelf Go.Lib Go.Sort
set_option linter.unusedVariables false
set_option maxHeartbeats 16000000 in
set_option maxRecDepth 100000 in
theorem stable_any {m : Nat} {enc : Fin (m + 1) → Value} {g : Nat} {lb : Array Value} {sf : Nat} {sb : Array Value} {blk off N : Nat} (R : List Int) (d : Array (Fin (m + 1))) (W : World)
    (H : LS enc (ltF R) g lb sf sb blk off N W) (hH : Holds enc W blk off d) (hd : d.size = N) (h : ∀ k, k < N → d[k]!.val = k) (hN : N ≤ 1000000) :
    Calls Try.prog 35 #[.agg #[.func (.func g) #[] lb, .func (.func sf) #[] sb], .int .i64 N] W fun e w' => e = .returned (.tuple #[]) ∧ ∃ d', (PermIn 0 N d d' ∧ SortedIn (ltT R) 0 N d') ∧ SW enc W blk off d' w' := by
  have hb0 : W.heap.size ≠ blk := by have := H.lt; omega
  have s0 := Lib.hid ((SW.start hH).alloc (lsBox g lb sf sb))
  obtain ⟨w1, hw1⟩ : ∃ w1, W.alloc (lsBox g lb sf sb) = w1 := ⟨_, rfl⟩
  have c0 : w1.cell? ⟨W.heap.size, 0, none⟩ = some (.func (.func g) #[] lb) := by rw [← hw1]; simp [go_sem]
  have c1 : w1.cell? ⟨W.heap.size, 1, none⟩ = some (.func (.func sf) #[] sb) := by rw [← hw1]; simp [go_sem]
  have HH := Lib.hid H; have HHO := Lib.hid hH; have HD := Lib.hid hd; have HI := Lib.hid h
  have HSW : Hid (SWO (ltT (n := m + 1) R)) := Lib.hid (ltT_swo R)
  clear H hH hd h
  go_enter Try.func35, Try.ntmps35
  go_wp2_with fail
  rw [hw1] at s0
  have hH1 : Hid (Holds enc w1 blk off d) := Lib.hid (s0.out.holds HH.out.lt HHO.out rfl)
  have HL1 := Lib.hid (HH.out.on s0.out HD.out)
  have C0 := Lib.hid c0; have C1 := Lib.hid c1
  clear c0 c1 hw1
  go_loopw [5, 6] (fun va vb wr => ∃ (a b : Nat) (dk : Array (Fin (m + 1))), va = .int .i64 a ∧ vb = .int .i64 b ∧ b = a + 20 ∧ a ≤ N ∧ Bef R 20 dk a ∧ (∀ k, a ≤ k → k < N → dk[k]!.val = k) ∧ PermIn 0 N d dk ∧ SW enc w1 blk off dk wr) (fun va _ _ => N - (intOf va).toNat)
  case atStart => exact ⟨0, 20, d, rfl, rfl, rfl, by omega, .none, fun k _ hk => HI.out k hk, permIn_refl _ _ _, SW.start hH1.out⟩
  case round =>
    obtain ⟨a, b, dk, rfl, rfl, hab, ha, hbf, hdi, hpm, hs⟩ := hrel
    have c0 := SW_cell hs hb0 C0.out
    have c1 := SW_cell hs hb0 C1.out
    have lB := cell_lt c0
    have hsz : dk.size = N := by rw [hpm.1, HD.out]
    have HSZ := Lib.hid hsz; have HS := Lib.hid hs; have HBF := Lib.hid hbf; have HDI := Lib.hid hdi; have HPM := Lib.hid hpm
    by_cases hlt : b ≤ N
    · have z1 : (b : Int) ≤ (N : Int) := by omega
      have u1 : IntKind.i64.wrap ((b : Int) + 20) = (b : Int) + 20 := IntWalk.i64_in _ (by omega)
      have HC := Lib.hid (ins_any R a b dk wr (HL1.out.on hs hsz) (hs.holds HL1.out.lt hH1.out (by rw [hpm.1])) hsz (by omega) hlt (fun k h1 h2 => hdi k h1 (by omega)))
      have HAB := Lib.hid hab
      clear hs hsz hbf hdi hpm hab
      go_wp2_with (go_at_call 60; refine HC.out.mono ?_; rintro e w' ⟨rfl, d', ⟨hp, hsd⟩, hsw⟩)
      have hab := HAB.out
      have hN' := HSZ.out
      refine ⟨⟨b, b + 20, d', rfl, by go_num, rfl, hlt, ?_, fun k h1 h2 => ?_, ?_, SW_trans HS.out HL1.out.lt hsw hp.1⟩, by simp [intOf]; omega⟩
      · rw [hab]
        refine .more (HBF.out.out hp (Nat.le_refl _)) ?_
        rw [← hab]
        exact ⟨hsd, own_ids (by omega) (by omega) (fun k h1 h2 => HDI.out k h1 (by omega)) hp⟩
      · rw [hp.2.1 k (by omega)]; exact HDI.out k (by omega) h2
      · exact permIn_trans _ _ _ _ _ HPM.out (permIn_mono _ _ _ _ _ _ (Nat.zero_le _) hlt (by omega) hp)
    · have z1 : ¬ (b : Int) ≤ (N : Int) := by omega
      have HC := Lib.hid (ins_any R a N dk wr (HL1.out.on hs hsz) (hs.holds HL1.out.lt hH1.out (by rw [hpm.1])) hsz ha (Nat.le_refl _) (fun k h1 h2 => hdi k h1 (by omega)))
      have HAB := Lib.hid hab
      clear hs hsz hbf hdi hpm hab
      go_wp2_with (go_at_call 60; refine HC.out.mono ?_; rintro e w' ⟨rfl, d1, ⟨hp, hsd⟩, hsw⟩)
      have HF := Lib.hid (show Fro R 20 N d1 0 from by
        have hab := HAB.out
        have hN' := HSZ.out
        exact (HBF.out.out hp (Nat.le_refl _)).all (.last ha (by omega) ⟨hsd, own_ids ha (by omega) (fun k h1 h2 => HDI.out k h1 (by omega)) hp⟩))
      have HP1 := Lib.hid (show PermIn 0 N d d1 from permIn_trans _ _ _ _ _ HPM.out (permIn_mono _ _ _ _ _ _ (Nat.zero_le _) (Nat.le_refl _) (by rw [HSZ.out]; exact Nat.le_refl _) hp))
      have HS1 := Lib.hid (SW_trans HS.out HL1.out.lt hsw hp.1)
      clear hp hsd hsw HPM HBF HDI HS HSZ HC c0 c1 lB
      go_loopw [4, 5, 6, 7] (fun vs va vb vm wr => ∃ (bs : Nat) (dk : Array (Fin (m + 1))), vs = .int .i64 bs ∧ 20 ≤ bs ∧ Fro R bs N dk 0 ∧ PermIn 0 N d dk ∧ SW enc w1 blk off dk wr) (fun vs _ _ _ _ => N - (intOf vs).toNat)
      case atStart => exact ⟨20, d1, rfl, Nat.le_refl _, HF.out, HP1.out, HS1.out⟩
      case round =>
        obtain ⟨bs, d2, rfl, h20, hfr, hpm, hs⟩ := hrel
        have HFR := Lib.hid hfr; have HPM := Lib.hid hpm; have HS := Lib.hid hs
        clear hfr hpm hs
        by_cases hlt2 : bs < N
        · have z2 : (bs : Int) < (N : Int) := by omega
          have u1 : IntKind.i64.wrap (2 * (bs : Int)) = 2 * (bs : Int) := IntWalk.i64_in _ (by omega)
          have u2 : IntKind.i64.wrap ((bs : Int) * 2) = (bs : Int) * 2 := IntWalk.i64_in _ (by omega)
          go_wp2_with fail
          go_loopw [5, 6] (fun va vb wr2 => ∃ (a b : Nat) (dk : Array (Fin (m + 1))), va = .int .i64 a ∧ vb = .int .i64 b ∧ b = a + 2 * bs ∧ a ≤ N ∧ Bef R (2 * bs) dk a ∧ Fro R bs N dk a ∧ PermIn 0 N d dk ∧ SW enc w1 blk off dk wr2) (fun va _ _ => N - (intOf va).toNat)
          case atStart => exact ⟨0, 2 * bs, d2, rfl, by go_num, by omega, by omega, .none, HFR.out, HPM.out, HS.out⟩
          case round =>
            obtain ⟨a, b, dk, rfl, rfl, hab, ha, hbf, hfo, hpm, hs⟩ := hrel
            have c0 := SW_cell hs hb0 C0.out
            have c1 := SW_cell hs hb0 C1.out
            have lB := cell_lt c0
            have hsz : dk.size = N := by rw [hpm.1, HD.out]
            have HSZ := Lib.hid hsz; have HSA := Lib.hid hs; have HBF := Lib.hid hbf; have HFO := Lib.hid hfo; have HPA := Lib.hid hpm
            have HAB := Lib.hid hab
            have u3 : IntKind.i64.wrap ((a : Int) + (bs : Int)) = (a : Int) + (bs : Int) := IntWalk.i64_in _ (by omega)
            by_cases hlt3 : b ≤ N
            · have z3 : (b : Int) ≤ (N : Int) := by omega
              have u4 : IntKind.i64.wrap ((b : Int) + 2 * (bs : Int)) = (b : Int) + 2 * (bs : Int) := IntWalk.i64_in _ (by omega)
              obtain ⟨k1, k2, k3⟩ := hfo.two (by omega) (by omega)
              rw [← hab] at k2 k3
              have hc := sym_any (enc := enc) (lt := ltF R) (g := g) (lb := lb) (sf := sf) (sb := sb) (blk := blk) (off := off) (N := N) HSW.out (b - a) a (a + bs) b (Nat.le_refl _) dk wr (HL1.out.on hs hsz) (hs.holds HL1.out.lt hH1.out (by rw [hpm.1])) hsz (by omega) (by omega) hlt3 (k1.two k2)
              rw [show ((a + bs : Nat) : Int) = (a : Int) + (bs : Int) by omega] at hc
              have HC := Lib.hid hc; have K1 := Lib.hid k1; have K2 := Lib.hid k2; have K3 := Lib.hid k3
              clear hc k1 k2 k3 hs hsz hbf hfo hpm hab
              go_wp2_with (go_at_call 61; refine HC.out.mono ?_; rintro e w' ⟨rfl, d', ⟨hp, hsd⟩, hsw⟩)
              have hab := HAB.out
              have hN' := HSZ.out
              refine ⟨⟨b, b + 2 * bs, d', rfl, by go_num, rfl, hlt3, ?_, K3.out.out hp (Nat.le_refl _), ?_, SW_trans HSA.out HL1.out.lt hsw hp.1⟩, by simp [intOf]; omega⟩
              · rw [hab]
                refine .more (HBF.out.out hp (Nat.le_refl _)) ?_
                rw [← hab]
                exact K1.out.merged K2.out (by omega) (by omega) (by omega) hp hsd
              · exact permIn_trans _ _ _ _ _ HPA.out (permIn_mono _ _ _ _ _ _ (Nat.zero_le _) hlt3 (by omega) hp)
            · have z3 : ¬ (b : Int) ≤ (N : Int) := by omega
              by_cases hlt4 : a + bs < N
              · have z4 : (a : Int) + (bs : Int) < (N : Int) := by omega
                obtain ⟨k1, k2⟩ := hfo.rest (by omega) hlt4
                have hc := sym_any (enc := enc) (lt := ltF R) (g := g) (lb := lb) (sf := sf) (sb := sb) (blk := blk) (off := off) (N := N) HSW.out (N - a) a (a + bs) N (Nat.le_refl _) dk wr (HL1.out.on hs hsz) (hs.holds HL1.out.lt hH1.out (by rw [hpm.1])) hsz (by omega) hlt4 (Nat.le_refl _) (k1.two k2)
                rw [show ((a + bs : Nat) : Int) = (a : Int) + (bs : Int) by omega] at hc
                have HC := Lib.hid hc; have K1 := Lib.hid k1; have K2 := Lib.hid k2
                clear hc k1 k2 hs hsz hbf hfo hpm hab
                go_wp2_with (go_at_call 61; refine HC.out.mono ?_; rintro e w' ⟨rfl, d', ⟨hp, hsd⟩, hsw⟩)
                have hab := HAB.out
                have hN' := HSZ.out
                refine ⟨⟨2 * bs, d', by go_num, by omega, ?_, ?_, SW_trans HSA.out HL1.out.lt hsw hp.1⟩, by simp [intOf]; omega⟩
                · exact (HBF.out.out hp (Nat.le_refl _)).all (.last ha (by omega) (K1.out.merged K2.out (by omega) (by omega) (by omega) hp hsd))
                · exact permIn_trans _ _ _ _ _ HPA.out (permIn_mono _ _ _ _ _ _ (Nat.zero_le _) (Nat.le_refl _) (by omega) hp)
              · have z4 : ¬ (a : Int) + (bs : Int) < (N : Int) := by omega
                clear hs hsz hbf hfo hpm hab
                go_wp2_with fail
                have hab := HAB.out
                refine ⟨⟨2 * bs, dk, by go_num, by omega, ?_, HPA.out, HSA.out⟩, by simp [intOf]; omega⟩
                exact HBF.out.all (.last ha (by omega) (HFO.out.one (by omega)))
        · have z2 : ¬ (bs : Int) < (N : Int) := by omega
          go_wp2_with fail
          have hq : Blk R 0 N d2 := HFR.out.one (by omega)
          first
          | go_end0
          | refine bodyPost_ret (v := .tuple #[]) (by simp [results, Try.results35, go_sem]) rfl ?_
          exact ⟨rfl, d2, ⟨HPM.out, hq.1⟩, SW_trans s0.out HH.out.lt HS.out (by rw [HPM.out.1])⟩
end Go.Proofs.Ytcmijedhjebpkaa

/- sort.SliceStable of Split's places, of any number. -/
namespace Go.Proofs.Ytcmijedhjebpkaa
open Go.RowKit Go.Proofs.Geo Go.Proofs.Mon Go.Shelf Go.Lib Go.Sort
set_option linter.unusedVariables false
set_option maxHeartbeats 2000000 in
theorem sort_zz (m z : Nat) (hz : z = (ids m).size) (hm : 1 ≤ m) (hb : m + 1 ≤ 1000000) (R : List Int) (w : World) (gC gX gY : Nat)
    (hless : LessReads Try.prog 26 #[.pointer (some ⟨gX, 0, none⟩), .pointer (some ⟨gY, 0, none⟩)] (encF m) (ltF R) gC 0 z w) (hH : Holds (encF m) w gC 0 (ids m)) (hlt : gC < w.heap.size) :
    Calls Try.prog 25 #[.iface 22 (.slice (some ⟨gC, 0, none⟩) z z), .func (.func 26) #[] #[.pointer (some ⟨gX, 0, none⟩), .pointer (some ⟨gY, 0, none⟩)]] w fun e w' =>
      e = .returned (.tuple #[]) ∧ ∃ n os d', (PermIn 0 z (ids m) d' ∧ SortedIn (ltT R) 0 z d') ∧ w' = Sort.grow (Sort.putRow (encF m) (Sort.ahead w n) gC 0 d') os := by
  subst hz
  have hs := ids_size m
  refine Any.sort_SliceStable_of_stable ssLays 22 3 siT siE (by kernel_rfl) (by kernel_rfl) (by kernel_rfl) (by kernel_rfl) 2 (fun _ => by kernel_rfl) _ _ _ (by omega) 55 (by rw [siK _ (by omega)]; kernel_rfl) _ _ _ w
    (fun w' => ∃ n os d', (PermIn 0 (ids m).size (ids m) d' ∧ SortedIn (ltT R) 0 (ids m).size d') ∧ w' = Sort.grow (Sort.putRow (encF m) (Sort.ahead w n) gC 0 d') os) ?_
  have hB : sliceBound Try.prog 3 siE 2 (some ⟨gC, 0, none⟩) (ids m).size (ids m).size = #[.slice (some ⟨gC, 0, none⟩) (ids m).size (ids m).size, typeHandle Try.prog 3] := by
    unfold sliceBound; rw [if_neg (swapperK_gt _ _ _ (by omega))]
  obtain ⟨os0, hW⟩ : ∃ os0, stableWorld Try.prog ssRen 22 (some ⟨gC, 0, none⟩) (ids m).size (ids m).size w = grow w os0 := ⟨_, by unfold stableWorld; rw [alloc_eq_grow, alloc_eq_grow, grow_grow]⟩
  rw [hB, hW]
  have hp := stable_any R (ids m) (grow w os0) (N := (ids m).size)
    ⟨enters_of Try.func26 (by kernel_rfl) rfl, hless.grow hlt os0,
     swapSwaps_of_literal true 55 (fun args W => run_callFunc_extern Try.func55 (by kernel_rfl) (by kernel_rfl) (by kernel_rfl) (e := Extern.ReflectliteSwapper.swap true) (by kernel_rfl) args W) 3 siE (by kernel_rfl) (by kernel_rfl) (fun _ => by kernel_rfl) (encF m) (fun _ => rfl) gC 0 (ids m).size (ids m).size,
     by rw [size_grow]; omega, by omega⟩
    (holds_grow (encF m) w _ gC 0 (ids m) hlt hH) rfl (fun k hk => ids_get m (by omega)) (by omega)
  refine hp.mono ?_
  rintro e w' ⟨rfl, d', ⟨hp, hs'⟩, n, os, rfl⟩
  exact ⟨rfl, n, _, d', ⟨hp, hs'⟩, by unfold sortWorld; rw [ahead_grow, putRow_grow (encF m) (Sort.ahead w n) _ gC 0 _ hlt, grow_grow]⟩
theorem sortC_more (m : Nat) (hm : 1 ≤ m) (hb : m + 1 ≤ 1000000) (R : List Int) (hR : R.length = m + 1) : SortC (m + 1) R := by
  intro w gB gC gX gY hb' hc hx hy hbc hxc hyc
  have h := sort_zz m (m + 1) (ids_size m).symm hm hb R w gC gX gY (less_reads m R hR w gB gC gX gY hb' hc hx hy hbc hxc hyc) (holds_ids m hc) hc.lt
  refine Calls.mono h ?_
  rintro e w' ⟨rfl, n, os, d', ⟨hp, hs⟩, rfl⟩
  obtain ⟨s1, s2⟩ := srt_of m R hR d' hp hs
  exact ⟨rfl, n, outI _, os, by simp [outI, s2], s1, by rw [putRow_out]⟩
/-- SliceStable, of any number of places from one on. -/
theorem sortC_any (R : List Int) (h0 : 0 < R.length) (hb : R.length ≤ 1000000) : SortC R.length R := by
  rcases Nat.lt_or_ge 1 R.length with h | h
  · obtain ⟨m, hm⟩ : ∃ m, R.length = m + 1 := ⟨R.length - 1, by omega⟩
    rw [hm]
    exact sortC_more m (by omega) (by omega) R hm
  · have e : R.length = 1 := by omega
    rw [e]
    exact sortC_one R e
end Go.Proofs.Ytcmijedhjebpkaa
