/- Contract of ring.unlike: a set of the points so far. -/
import Derived.Test.YtcpbemoiodbliaaRG1
import Derived.Test.YtcpbemoiodbliaaKP
import Derived.Maps.AppendAt
namespace Go.Proofs.Ytcpbemoiodbliaa
open Go.RowKit Go.Proofs.Geo Go.Maps
theorem zeroUnit (w : World) : (zeroValue 63).run Try.prog w = .ok (.agg #[]) w := by kernel_rfl
/-- The set of the first k points. -/
def setD (l : List Pt) (k : Nat) : DataW Unit := setOf (.agg []) ((l.take k).map keyP)
theorem setD_zero (l : List Pt) : setD l 0 = .map [] := rfl
theorem setD_succ {l : List Pt} {k : Nat} (h : k < l.length) : setD l (k + 1) = (setD l k).put (keyP (pt l k)) (.agg []) := by
  unfold setD
  rw [List.take_succ_eq_append_getElem h, List.map_append, pt_get h]
  exact setOf_snoc _ _ _
theorem setD_has {l : List Pt} {k : Nat} (h : k < l.length) (hok : ∀ i, i < l.length → okP (pt l i) = true) : Maps.has (setD l k) (keyP (pt l k)) = twiceB l k := by
  unfold setD
  rw [has_setOf _ _ _ (by intro x hx; obtain ⟨q, _, rfl⟩ := List.mem_map.1 hx; trivial), Bool.eq_iff_iff]
  unfold twiceB
  rw [List.any_eq_true, List.any_eq_true]
  constructor
  · rintro ⟨x, hx, hs⟩
    obtain ⟨q, hq, rfl⟩ := List.mem_map.1 hx
    obtain ⟨j, hj, rfl⟩ := List.getElem_of_mem hq
    have hjk : j < k := by simp at hj; omega
    have hjl : j < l.length := by omega
    refine ⟨j, List.mem_range.2 hjk, ?_⟩
    have e : (l.take k)[j] = pt l j := by rw [pt_get hjl, List.getElem_take]
    rw [e] at hs
    exact decide_eq_true (keyP_inj (hok j hjl) (hok k h) (WideAt.sameKey_eq hs))
  · rintro ⟨j, hj, hs⟩
    have hjk : j < k := List.mem_range.1 hj
    have hjl : j < l.length := by omega
    have e := of_decide_eq_true hs
    refine ⟨keyP (pt l j), List.mem_map.2 ⟨pt l j, ?_, rfl⟩, ?_⟩
    · rw [pt_get hjl]; exact List.mem_iff_getElem.2 ⟨j, by simp; omega, by rw [List.getElem_take]⟩
    · rw [e]; exact WideAt.sameKey_self trivial
theorem FltB.grown {w w1 w2 : World} (h : FltB w w1) (hg : w1.grownBy w2 (some (w.heap.size + 1))) : FltB w w2 := by
  have hb : ∀ o, w2.cell? ⟨w.heap.size, o, none⟩ = w1.cell? ⟨w.heap.size, o, none⟩ := fun o => World.cell?_of_block (hg.block _ h.lt (by simp))
  have hf : ∀ o, w2.frozen? ⟨w.heap.size, o, none⟩ = w1.frozen? ⟨w.heap.size, o, none⟩ := fun o => World.frozen?_of_block (hg.block _ h.lt (by simp))
  exact ⟨(hb 0).trans h.z0, (hb 1).trans h.z1, (hf 0).trans h.f0, (hf 1).trans h.f1, Nat.lt_of_lt_of_le h.lt hg.size, Below.grown h.k hg (Below.size h.k) fun k hk => by cases hk; omega⟩
/-- The memory of unlike between two rounds. -/
structure UnSt (l : List Pt) (w : World) (k : Nat) (wr : World) : Prop where
  m : wr.ownsMap Try.prog 25 (unitElem (H := Unit)) (w.heap.size + 1) k (setD l k)
  f : FltB w wr
  lt : w.heap.size + 1 < wr.heap.size
  no : ∀ j, j < k → twiceB l j = false
set_option linter.unusedVariables false
set_option maxHeartbeats 8000000 in
set_option maxRecDepth 100000 in
theorem twS_any (b off len cap : Nat) (l : List Pt) (w : World) (hp : PtsAt w b off l) (hlen : len = l.length) (hl : len ≤ 100000) (hok : ∀ i, i < l.length → okP (pt l i) = true) : Calls Try.prog 35 #[.slice (some ⟨b, off, none⟩) len cap] w fun e w' => e = .returned (.tuple #[.agg #[.int .i64 (twS l).1, .int .i64 (twS l).2.1], .bool (twS l).2.2]) ∧ Kp w w' := by
  have hmm := @run_makeMap Try.prog
  have hv : twS l = stg 191 (firstN (twiceB l) l.length) := rfl
  rw [hv]
  have HP := Lib.hid hp
  have HL := Lib.hid hlen
  have HO := Lib.hid hok
  clear hp hlen hok hv
  go_enter Try.func35, Try.ntmps35
  go_wp2_with fail
  go_loopw [12] (fun i wr => ∃ k : Nat, k ≤ len ∧ i = .int .i64 k ∧ UnSt l w k wr) (fun i _ => len - (intOf i).toNat)
  case atStart =>
    refine ⟨0, by omega, rfl, ⟨by rw [setD_zero]; have h := World.ownsMap_made (H := Unit) (w.alloc (.cells #[.int .i64 0, .int .i64 0] 28)) Try.prog 25 unitElem; simpa using h, ⟨by simp [go_sem], by simp [go_sem], by simp [go_sem], by simp [go_sem], by simp; omega, (by repeat (first | exact kp_refl _ | apply kp_alloc | apply kp_drew | apply kp_drewN))⟩, by simp, fun j h => by omega⟩⟩
  case round =>
    obtain ⟨k, hk, rfl, hst⟩ := hrel
    have HS := Lib.hid hst
    by_cases hlt : k < len
    · have hkl : k < l.length := by rw [← HL.out]; exact hlt
      obtain ⟨y0, y1⟩ := pt_lt (HP.out.kp hst.f.k) hkl
      have hkey := keyOf_pt (HO.out k hkl)
      have hhas := setD_has hkl HO.out
      have hsucc := setD_succ hkl
      obtain ⟨x, hx⟩ : ∃ x, (pt l k).1 = x := ⟨_, rfl⟩
      obtain ⟨y, hy⟩ : ∃ x, (pt l k).2 = x := ⟨_, rfl⟩
      obtain ⟨K, hK⟩ : ∃ K, keyP (pt l k) = K := ⟨_, rfl⟩
      rw [hx] at y0; rw [hy] at y1
      rw [hx, hy, hK] at hkey
      rw [hK] at hhas hsucc
      have HKEY := Lib.hid hkey
      have HSUC := Lib.hid hsucc
      have lb : b < wr.heap.size := cell_lt y0
      have lz := hst.f.lt
      have lm := hst.lt
      have c1 : (0 : Int) ≤ (k : Int) := by omega
      have c2 : (k : Int) < (len : Int) := by omega
      have hown := hst.m
      have HOWN := Lib.hid hown
      clear hown hkey hsucc hx hy hK hst
      cases ht : twiceB l k
      · have HT := Lib.hid ht
        rw [ht] at hhas
        have HH := Lib.hid hhas
        clear hhas ht
        go_wp2_with (first
          | (at_lookup; refine wpList_lookup_own_unit _ rfl _ _ 62 rfl 25 63 lawPt Try.underlying62 (zeroUnit _) (w.heap.size + 1) k _ rfl (HOWN.out.alloc _) _ _ rfl HKEY.out ?_; rw [HH.out])
          | (at_mapUpdate; refine wpList_mapUpdate_own _ rfl _ _ _ 62 rfl 25 63 lawPt Try.underlying62 (unitElem (H := Unit)) (w.heap.size + 1) k _ rfl ((HOWN.out.alloc _).alloc _) (by unfold maxLen; omega) _ _ _ rfl rfl HKEY.out _ [] unitElem_mk ?_; intro w1 hown1 hgrow1; have HO1 := Lib.hid hown1; have HG1 := Lib.hid hgrow1; clear hown1 hgrow1))
        refine ⟨⟨k + 1, by omega, by go_num, ⟨by rw [HSUC.out]; exact HO1.out, ((HS.out.f.kp (kp_alloc (kp_alloc (kp_refl _) _) _)).grown HG1.out), by have := HG1.out.size; simp at this; omega, ?_⟩⟩, by simp [intOf]; omega⟩
        intro j hj
        by_cases e : j = k
        · subst e; exact HT.out
        · exact HS.out.no j (by omega)
      · have hf : firstN (twiceB l) l.length = some k := firstN_some hkl ht HS.out.no
        have HF := Lib.hid hf
        rw [ht] at hhas
        have HH := Lib.hid hhas
        clear hhas ht hf
        go_wp2_with (first
          | (at_lookup; refine wpList_lookup_own_unit _ rfl _ _ 62 rfl 25 63 lawPt Try.underlying62 (zeroUnit _) (w.heap.size + 1) k _ rfl (HOWN.out.alloc _) _ _ rfl HKEY.out ?_; rw [HH.out])
          | (go_at_call 58; refine (bad_any _ _ _).mono ?_; rintro e wz ⟨rfl, hk⟩; have HB := Lib.hid (HS.out.f.kp (kp_trans (by repeat (first | exact kp_refl _ | apply kp_alloc)) hk)); have z0 := HB.out.z0; have z1 := HB.out.z1; have f0 := HB.out.f0; have f1 := HB.out.f1; have lz := HB.out.lt; clear hk))
        refine bodyPost_ret (v := (.tuple #[.agg #[.int .i64 191, .int .i64 (k : Int)], .bool true])) (by simp [results, Try.results35, go_sem, z0, z1]) rfl ⟨by rw [HF.out]; rfl, ?_⟩
        ((repeat (first | exact HB.out.k | exact kp_refl _ | apply kp_alloc | apply kp_drew | apply kp_drewN | refine kp_set ?_ ?_ _)); all_goals (first | exact Nat.le_refl _ | (simp; done) | omega))
    · obtain rfl : k = len := by omega
      have hf : firstN (twiceB l) l.length = none := firstN_none (by rw [← HL.out]; exact hst.no)
      have HF := Lib.hid hf
      have HB := Lib.hid hst.f
      have z0 := hst.f.z0
      have z1 := hst.f.z1
      have f0 := hst.f.f0
      have f1 := hst.f.f1
      have lz := hst.f.lt
      clear hf hst
      go_wp2_with fail
      refine bodyPost_ret (v := (.tuple #[.agg #[.int .i64 0, .int .i64 0], .bool false])) (by simp [results, Try.results35, go_sem, *]) rfl ⟨by rw [HF.out]; rfl, ?_⟩
      ((repeat (first | exact HB.out.k | exact kp_refl _ | apply kp_alloc | apply kp_drew | apply kp_drewN | refine kp_set ?_ ?_ _)); all_goals (first | exact Nat.le_refl _ | (simp; done) | omega))
end Go.Proofs.Ytcpbemoiodbliaa
