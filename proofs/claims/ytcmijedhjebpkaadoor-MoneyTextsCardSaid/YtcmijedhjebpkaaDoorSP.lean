/- sort.SliceStable of Split's places, up to twenty. -/
import Derived.Test.YtcmijedhjebpkaaDoorSO
import Derived.Test.YtcmijedhjebpkaaDoorMS4
namespace Go.Proofs.YtcmijedhjebpkaaDoor
open Go.RowKit Go.Proofs.Geo Go.Proofs.Mon Go.Shelf Go.Lib Go.Sort
set_option linter.unusedVariables false
abbrev encF (m : Nat) (x : Fin (m + 1)) : Value := .int .i64 (x.val : Int)
theorem putCells_out (m : Nat) (d : Array (Fin (m + 1))) (c : Array Value) : putCells (encF m) 0 d c = putCells (Value.int .i64) 0 (outI d) c := by
  unfold putCells
  apply Array.ext_getElem?
  intro k
  rw [Array.getElem?_mapIdx, Array.getElem?_mapIdx]
  cases c[k]? with
  | none => rfl
  | some x =>
    simp only [Option.map_some, Nat.zero_le, Nat.zero_add, true_and, Nat.sub_zero, outI, Array.size_map]
    by_cases h : k < d.size
    · rw [if_pos h, if_pos h, getElem!_pos d k h, getElem!_pos _ k (by simpa using h)]
      simp
    · rw [if_neg h, if_neg h]
theorem putRow_out (m : Nat) (w : World) (g : Nat) (d : Array (Fin (m + 1))) : putRow (encF m) w g 0 d = putRow (Value.int .i64) w g 0 (outI d) := by
  unfold putRow
  exact mapBlock_congr w g _ _ fun c _ _ _ => putCells_out m d c
theorem holds_ids (m : Nat) {w : World} {g : Nat} (h : RowB .i64 3 g (idxL (m + 1)) w) : Holds (encF m) w g 0 (ids m) := fun j hj => by
  rw [ids_size] at hj
  refine ⟨?_, h.froz _⟩
  rw [Nat.zero_add, h.cell (by rw [idxL_len]; exact hj), idxL_get hj]
  unfold encF
  rw [ids_get m hj]
noncomputable def siT : TypeInfo := (Tryd.prog.info? 35).get (by kernel_rfl)
noncomputable def siE : TypeInfo := (Tryd.prog.info? 3).get (by kernel_rfl)
theorem siK (n : Nat) (h2 : 2 ≤ n) : Lib.swapperK n siE 2 = 5 := by
  have a : siE.hasPointers = false := by kernel_rfl
  have b : siE.bytes = 8 := by kernel_rfl
  have c : (n == 0) = false := by simp; omega
  have d : (n == 1) = false := by simp; omega
  simp [Lib.swapperK, a, b, c, d]
set_option maxHeartbeats 2000000 in
theorem less_reads (m : Nat) (R : List Int) (hR : R.length = m + 1) (w : World) (gB gC gX gY : Nat) (hb : RowB .u64 49 gB R w) (hc : RowB .i64 3 gC (idxL (m + 1)) w) (hx : w.cell? ⟨gX, 0, none⟩ = some (.slice (some ⟨gB, 0, none⟩) (m + 1) (m + 1))) (hy : w.cell? ⟨gY, 0, none⟩ = some (.slice (some ⟨gC, 0, none⟩) (m + 1) (m + 1)))
    (hbc : gB ≠ gC) (hxc : gX ≠ gC) (hyc : gY ≠ gC) : LessReads Tryd.prog 29 #[.pointer (some ⟨gX, 0, none⟩), .pointer (some ⟨gY, 0, none⟩)] (encF m) (ltF R) gC 0 (m + 1) w := by
  intro q os dk hs i j hi hj
  have hH := holds_ids m hc
  have hHw : Holds (encF m) (Sort.ahead w q) gC 0 (ids m) := holds_ahead _ _ _ _ _ _ hH
  have cc : ∀ k, k < m + 1 → (sortWorld (encF m) w gC 0 q dk os).cell? ⟨gC, k, none⟩ = some (.int .i64 (dk[k]!.val : Int)) := fun k hk => by
    unfold sortWorld
    rw [cell?_grow _ _ _ (by show gC < _; rw [size_putRow]; exact hc.lt)]
    have := cell?_putRow (encF m) (Sort.ahead w q) gC 0 (ids m) dk hHw (by rw [hs, ids_size]) k (by omega)
    rwa [Nat.zero_add] at this
  have e : sortWorld (encF m) w gC 0 q dk os = Sort.grow (Sort.putRow (Value.int .i64) (Sort.ahead w q) gC 0 (outI dk)) os := by unfold sortWorld; rw [putRow_out]
  have rb : RowB .u64 49 gB R (sortWorld (encF m) w gC 0 q dk os) := by rw [e]; exact hb.else' hbc _ _
  have rx : (sortWorld (encF m) w gC 0 q dk os).cell? ⟨gX, 0, none⟩ = some (.slice (some ⟨gB, 0, none⟩) (m + 1) (m + 1)) := by
    rw [e]; exact (World.cell?_of_block (a := ⟨gX, 0, none⟩) (heap_sorted (cell_lt hx) hxc)).trans hx
  have ry : (sortWorld (encF m) w gC 0 q dk os).cell? ⟨gY, 0, none⟩ = some (.slice (some ⟨gC, 0, none⟩) (m + 1) (m + 1)) := by
    rw [e]; exact (World.cell?_of_block (a := ⟨gY, 0, none⟩) (heap_sorted (cell_lt hy) hyc)).trans hy
  exact closure_any (m + 1) gB gC gX gY R hR _ rb rx ry i j dk[i]!.val dk[j]!.val hi hj dk[i]!.isLt dk[j]!.isLt (cc i hi) (cc j hj)
set_option maxHeartbeats 2000000 in
theorem sort_z (m z : Nat) (hz : z = (ids m).size) (hm : 1 ≤ m) (h20 : m + 1 ≤ 20) (R : List Int) (w : World) (gC gX gY : Nat)
    (hless : LessReads Tryd.prog 29 #[.pointer (some ⟨gX, 0, none⟩), .pointer (some ⟨gY, 0, none⟩)] (encF m) (ltF R) gC 0 z w) (hH : Holds (encF m) w gC 0 (ids m)) (hlt : gC < w.heap.size) :
    Calls Tryd.prog 28 #[.iface 35 (.slice (some ⟨gC, 0, none⟩) z z), .func (.func 29) #[] #[.pointer (some ⟨gX, 0, none⟩), .pointer (some ⟨gY, 0, none⟩)]] w fun e w' =>
      e = .returned (.tuple #[]) ∧ ∃ n os, w' = Sort.grow (Sort.putRow (encF m) (Sort.ahead w n) gC 0 (Sort.insertionSort (ltF R) (ids m) 0 z)) os := by
  subst hz
  exact Any.sort_SliceStable_small ssLays 35 3 siT siE (by kernel_rfl) (by kernel_rfl) (by kernel_rfl) (by kernel_rfl) 2 (fun _ => by kernel_rfl) (by kernel_rfl) (fun _ => by kernel_rfl) (encF m) (fun _ => rfl) (ltF R) 29 _
    (enters_of Tryd.func29 (by kernel_rfl) rfl) gC 0 _ (ids m) (by rw [ids_size]; omega) (by rw [ids_size]; exact h20) 53 (by rw [siK _ (by rw [ids_size]; omega)]; kernel_rfl) true
    (fun args W => run_callFunc_extern Tryd.func53 (by kernel_rfl) (by kernel_rfl) (by kernel_rfl) (e := Extern.ReflectliteSwapper.swap true) (by kernel_rfl) args W) w hless hH hlt
theorem sortC_small (m : Nat) (hm : 1 ≤ m) (h20 : m + 1 ≤ 20) (R : List Int) (hR : R.length = m + 1) : SortC (m + 1) R := by
  intro w gB gC gX gY hb hc hx hy hbc hxc hyc
  have h := sort_z m (m + 1) (ids_size m).symm hm h20 R w gC gX gY (less_reads m R hR w gB gC gX gY hb hc hx hy hbc hxc hyc) (holds_ids m hc) hc.lt
  refine Calls.mono h ?_
  rintro e w' ⟨rfl, n, os, rfl⟩
  obtain ⟨s1, s2⟩ := srt_ins m R hR
  exact ⟨rfl, n, outI _, os, by simp [outI, s2], s1, by rw [putRow_out]⟩
theorem sortC_one (R : List Int) (hR : R.length = 1) : SortC 1 R := by
  intro w gB gC gX gY hb hc hx hy hbc hxc hyc
  have h := Any.sort_SliceStable_tiny ssLays 35 3 siT siE (by kernel_rfl) (by kernel_rfl) (by kernel_rfl) (by kernel_rfl) 2 (fun _ => by kernel_rfl) (some ⟨gC, 0, none⟩) 1 1 (by omega) 50 (by kernel_rfl) (.func 29) #[] #[.pointer (some ⟨gX, 0, none⟩), .pointer (some ⟨gY, 0, none⟩)] w
  refine Calls.mono h ?_
  rintro e w' ⟨rfl, os, rfl⟩
  refine ⟨rfl, 0, outI (ids 0), os, by simp [outI, ids_size], ?_, ?_⟩
  · have := (srt_ins 0 R hR).1
    rwa [show insertionSort (ltF R) (ids 0) 0 (0 + 1) = ids 0 by rw [insertionSort]; exact insOuter_stop _ 0 1 1 _ (by omega)] at this
  · rw [← putRow_out, ahead_zero, putRow_self _ _ _ _ _ (holds_ids 0 hc)]
end Go.Proofs.YtcmijedhjebpkaaDoor
