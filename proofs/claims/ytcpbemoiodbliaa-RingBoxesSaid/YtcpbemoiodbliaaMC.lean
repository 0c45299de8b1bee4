import Derived.Test.YtcpbemoiodbliaaMW
import Derived.Test.YtcpbemoiodbliaaMP
import Derived.RegionTactic
import Derived.WalkSmall
import Derived.Maps.AppendAt
import Derived.Laws.OwnMore
import Derived.Deep.DeepCutAuto
import Derived.ChangeKeysEq
/- Contracts over slices of points: slices.Index, slices.Contains, SamePoints; cross.may. -/
namespace Go.Proofs.Ytcpbemoiodbliaa
open Go.RowKit Go.Proofs.Geo

/-- slices.Index tells a number that is not below 0 just if the point is there. -/
def IdxEnd (p : Pt) (l : List Pt) (w : World) (e : Ending) (w' : World) : Prop := ∃ r : Int, (0 ≤ r ↔ p ∈ l) ∧ e = .returned (.int .i64 r) ∧ Kp w w'

theorem take_notmem {p : Pt} {l : List Pt} {k : Nat} (h : k < l.length) (hn : p ∉ l.take k) (hk : p ≠ l[k]) : p ∉ l.take (k + 1) := by
  rw [List.take_succ_eq_append_getElem h, List.mem_append, List.mem_singleton]; rintro (h1 | h1)
  · exact hn h1
  · exact hk h1

set_option maxHeartbeats 2000000 in
theorem index_any (b off cap : Nat) (l : List Pt) (px py : Int) (w : World) (hl : l.length ≤ 10000000000000) (h : PtsAt w b off l) :
    Calls Try.prog 87 #[.slice (some ⟨b, off, none⟩) l.length cap, pv px py] w (IdxEnd (px, py) l w) := by
  go_enter Try.func87, Try.ntmps87
  go_wp2
  have h' : PtsAt (w.alloc (.cells #[.int .i64 px, .int .i64 py] 25)) b off l := h.kp (kp_alloc (kp_refl w) _)
  have hp0 : (w.alloc (.cells #[.int .i64 px, .int .i64 py] 25)).cell? ⟨w.heap.size, 0, none⟩ = some (.int .i64 px) := by simp [go_sem]
  have hp1 : (w.alloc (.cells #[.int .i64 px, .int .i64 py] 25)).cell? ⟨w.heap.size, 1, none⟩ = some (.int .i64 py) := by simp [go_sem]
  have K0 : Kp w (w.alloc (.cells #[.int .i64 px, .int .i64 py] 25)) := kp_alloc (kp_refl w) _
  go_loopw [8] (fun i wr => ∃ k : Nat, k ≤ l.length ∧ i = .int .i64 k ∧ (px, py) ∉ l.take k ∧ Kp (w.alloc (.cells #[.int .i64 px, .int .i64 py] 25)) wr) (fun i _ => l.length - (intOf i).toNat)
  case atStart => exact ⟨0, Nat.zero_le _, rfl, by simp, kp_refl _⟩
  case round =>
    obtain ⟨k, hk, rfl, hn, hkp⟩ := hrel
    by_cases hlt : k < l.length
    · obtain ⟨x, y, hxy⟩ : ∃ x y, l[k] = (x, y) := ⟨_, _, rfl⟩
      have hc := (h'.kp hkp) k hlt
      rw [hxy] at hc
      obtain ⟨hc1, hc2⟩ := hc
      have p0 := kp_cell hkp hp0
      have p1 := kp_cell hkp hp1
      have hs := take_notmem hlt hn
      have hb : (px, py) = (x, y) → (px, py) ∈ l := fun e => by rw [e, ← hxy]; exact List.getElem_mem hlt
      rw [hxy] at hs
      have hs' := Lib.hid hs
      have hb' := Lib.hid hb
      have hh3 := Lib.hid (kp_trans K0 hkp)
      have hh5 := Lib.hid hkp
      clear hxy hn hkp h h' hp0 hp1 K0 hs hb
      by_cases ex : px = x
      · subst ex
        by_cases ey : py = y
        · subst ey
          have hb2 := Lib.hid (hb'.out rfl)
          clear hb'
          go_wp2
          go_quiet (fail)
          go_wp2
          go_ret
          exact ⟨_, ⟨fun _ => hb2.out, fun _ => by omega⟩, rfl, kp_drewN hh3.out _⟩
        · have ey' : (py == y) = false := by simp [ey]
          have ey2 := Lib.hid ey
          clear ey
          go_wp2
          go_quiet (fail)
          go_wp2
          go_roundw
          case rel => exact ⟨k + 1, by omega, by go_num, hs'.out (by simp [ey2.out]), kp_drewN hh5.out _⟩
          case measure => simp [intOf]; omega
      · have ex' : (px == x) = false := by simp [ex]
        have ex2 := Lib.hid ex
        clear ex
        go_wp2
        go_quiet (fail)
        go_wp2
        go_roundw
        case rel => exact ⟨k + 1, by omega, by go_num, hs'.out (by simp [ex2.out]), kp_drewN hh5.out _⟩
        case measure => simp [intOf]; omega
    · have hke : k = l.length := by omega
      have hn' : (px, py) ∉ l := by rw [hke, List.take_length] at hn; exact hn
      have hh2 := Lib.hid hn'
      have hh3 := Lib.hid (kp_trans K0 hkp)
      clear hn hkp hke hn' h h' hp0 hp1 K0
      go_wp2
      go_ret
      exact ⟨-1, ⟨fun q => absurd q (by omega), fun q => absurd q hh2.out⟩, rfl, hh3.out⟩

set_option maxHeartbeats 2000000 in
theorem index_nil (px py : Int) (w : World) : Calls Try.prog 87 #[.slice none 0 0, pv px py] w (IdxEnd (px, py) [] w) := by
  go_enter Try.func87, Try.ntmps87
  go_wp2
  go_loop [8] (fun i => i = .int .i64 0) (fun _ => 0)
  case atStart => rfl
  case round =>
    subst hrel
    go_wp2
    go_ret
    exact ⟨-1, ⟨fun q => absurd q (by omega), fun q => absurd q (by simp)⟩, rfl, kp_alloc (kp_refl w) _⟩

theorem index_rd (v : Value) (l : List Pt) (px py : Int) (w : World) (h : Rd w v l) :
    Calls Try.prog 87 #[v, pv px py] w (IdxEnd (px, py) l w) := by
  obtain ⟨hl, ⟨rfl, rfl⟩ | ⟨b, off, cap, rfl, h⟩⟩ := h
  · exact index_nil px py w
  · exact index_any b off cap l px py w hl h

theorem contains_rd (v : Value) (l : List Pt) (px py : Int) (w : World) (h : Rd w v l) :
    Calls Try.prog 79 #[v, pv px py] w fun e w' => e = .returned (.bool (decide ((px, py) ∈ l))) ∧ Kp w w' := by
  have H := fun W (k : Kp w W) => index_rd v l px py W (h.kp k)
  have H' := Lib.hid H
  clear H h
  go_enter Try.func79, Try.ntmps79
  go_wp2_with (go_at_call 87; refine (H'.out _ (kp_alloc (kp_refl _) _)).mono ?_; rintro e w' ⟨r, hr, rfl, hk⟩; have hr' := Lib.hid hr; clear hr)
  all_goals
    go_ret
    exact ⟨ret_bool (by have := hr'.out; rw [← decide_eq_decide.2 this]), kp_trans (kp_alloc (kp_refl _) _) hk⟩
end Go.Proofs.Ytcpbemoiodbliaa

/- Slices of points that a call owns; the contracts of cross.on and cross.gather. -/
namespace Go.Proofs.Ytcpbemoiodbliaa
open Go.RowKit Go.Proofs.Geo

theorem onL_take (a b : Pt) (l : List Pt) (k : Nat) (h : k < l.length) : onL a b (l.take (k + 1)) = if onS l[k] a b then onL a b (l.take k) ++ [l[k]] else onL a b (l.take k) := by
  unfold onL
  rw [List.take_succ_eq_append_getElem h, List.filter_append]
  cases hh : onS l[k] a b <;> simp [List.filter, hh]
theorem onL_len (a b : Pt) (l : List Pt) : (onL a b l).length ≤ l.length := List.length_filter_le _ _

set_option maxHeartbeats 4000000 in
set_option maxRecDepth 100000 in
theorem on_list (ax ay bx bY : Int) (b off cap : Nat) (l : List Pt) (w : World) (hl : l.length ≤ 1000000) (h : PtsAt w b off l) :
    Calls Try.prog 67 #[pv ax ay, pv bx bY, .slice (some ⟨b, off, none⟩) l.length cap] w (OwnEnd w (onL (ax, ay) (bx, bY) l)) := by
  obtain ⟨i0, hi, hz0, hz1, hz2⟩ := info_parts infoPt
  have HI := Lib.hid hi
  have HZ0 := Lib.hid hz0
  have HZ1 := Lib.hid hz1
  have HZ2 := Lib.hid hz2
  clear hi hz0 hz1 hz2
  go_enter Try.func67, Try.ntmps67
  go_wp2
  obtain ⟨W0, hW0⟩ : ∃ W0, (w.alloc (.cells #[.int .i64 ax, .int .i64 ay] 25)).alloc (.cells #[.int .i64 bx, .int .i64 bY] 25) = W0 := ⟨_, rfl⟩
  have c0 : W0.cell? ⟨w.heap.size, 0, none⟩ = some (.int .i64 ax) := by rw [← hW0]; simp [go_sem]
  have c1 : W0.cell? ⟨w.heap.size, 1, none⟩ = some (.int .i64 ay) := by rw [← hW0]; simp [go_sem]
  have c2 : W0.cell? ⟨w.heap.size + 1, 0, none⟩ = some (.int .i64 bx) := by rw [← hW0]; simp [go_sem]
  have c3 : W0.cell? ⟨w.heap.size + 1, 1, none⟩ = some (.int .i64 bY) := by rw [← hW0]; simp [go_sem]
  have K0 : Kp w W0 := by rw [← hW0]; exact kp_alloc (kp_alloc (kp_refl _) _) _
  rw [hW0]
  clear hW0
  have h' : PtsAt W0 b off l := h.kp K0
  go_loopw [7, 12] (fun v i wr => ∃ k : Nat, k ≤ l.length ∧ i = .int .i64 k ∧ OwnP wr W0.heap.size v (onL (ax, ay) (bx, bY) (l.take k)) ∧ Kp W0 wr) (fun _ i _ => l.length - (intOf i).toNat)
  case atStart => exact ⟨0, Nat.zero_le _, rfl, OwnP.nil _ _, kp_refl _⟩
  case round =>
    obtain ⟨k, hk, rfl, ho, hkp⟩ := hrel
    by_cases hlt : k < l.length
    · obtain ⟨x, y, hxy⟩ : ∃ x y, l[k] = (x, y) := ⟨_, _, rfl⟩
      have hc := (h'.kp hkp) k hlt
      rw [hxy] at hc
      obtain ⟨hc1, hc2⟩ := hc
      have d0 := kp_cell hkp c0
      have d1 := kp_cell hkp c1
      have d2 := kp_cell hkp c2
      have d3 := kp_cell hkp c3
      have l0 : w.heap.size < wr.heap.size := cell_lt d0
      have l1 : w.heap.size + 1 < wr.heap.size := cell_lt d2
      have hs := onL_take (ax, ay) (bx, bY) l k hlt
      rw [hxy] at hs
      have hn : (onL (ax, ay) (bx, bY) (l.take k)).length ≤ k := Nat.le_trans (onL_len _ _ _) (List.length_take_le _ _)
      have HS := Lib.hid hs
      have HO := Lib.hid ho
      have HK := Lib.hid hkp
      have HN := Lib.hid hn
      clear hxy hs ho hkp hn h h' c0 c1 c2 c3
      cases hv : onS (x, y) (ax, ay) (bx, bY)
      · have HV := Lib.hid hv
        go_wp2_with (go_at_call 61; refine (on_any _ _ _ _ _ _ _).mono ?_; rintro e w2 ⟨rfl, hk2⟩; have HK2 := Lib.hid hk2; clear hk2)
        go_roundw
        case rel => exact ⟨k + 1, by omega, by go_num, by rw [HS.out, HV.out]; exact (HO.out.kp (kp_alloc (kp_refl _) _)).kp HK2.out, kp_trans (kp_alloc HK.out _) HK2.out⟩
        case measure => simp [intOf]; omega
      · have HV := Lib.hid hv
        go_wp2_with (first
          | (go_at_call 61; refine (on_any _ _ _ _ _ _ _).mono ?_; rintro e w2 ⟨rfl, hk2⟩; have p0 : w2.cell? ⟨wr.heap.size, 0, none⟩ = some (.int .i64 x) := kp_cell hk2 (by simp [go_sem]); have p1 : w2.cell? ⟨wr.heap.size, 1, none⟩ = some (.int .i64 y) := kp_cell hk2 (by simp [go_sem]); have HK2 := Lib.hid hk2; clear hk2; have HO2 := Lib.hid ((HO.out.kp (kp_alloc (kp_refl _) _)).kp HK2.out); have HB := Lib.hid (kp_trans (kp_alloc HK.out _) HK2.out))
          | (at_builtin; refine wpList_append_own_at _ rfl _ _ 23 rfl W0.heap.size 25 i0 (.agg #[.int .i64 0, .int .i64 0]) 2 16 Try.underlying23 HI.out HZ0.out HZ1.out HZ2.out rfl (by decide) _ _ _ rfl (HO2.out.kp (kp_alloc (kp_refl _) _)) ⟨w2.heap.size, 0, none⟩ 1 1 [.int .i64 x, .int .i64 y] rfl rfl (cell_two_pt _ _ _ _) (by simp [Value.oneCell']) (by have := HN.out; unfold maxLen; omega) (by have := HN.out; omega) (Below.size (kp_alloc HB.out _)) ?_; intro v' w3 hown hgrow hnil hat; have HO3 := Lib.hid (OwnP.snoc hown); have HK3 := Lib.hid (kp_of_grown (kp_alloc HB.out _) hgrow (HO2.out.kp (kp_alloc (kp_refl _) _))); clear hown hgrow hnil hat))
        go_roundw
        case rel => exact ⟨k + 1, by omega, by go_num, by rw [HS.out, HV.out]; exact HO3.out, HK3.out⟩
        case measure => simp [intOf]; omega
    · have hke : k = l.length := by omega
      have HO := Lib.hid (show OwnP wr W0.heap.size _ (onL (ax, ay) (bx, bY) l) by rw [hke, List.take_length] at ho; exact ho)
      have HK := Lib.hid hkp
      clear ho hkp h h' hke c0 c1 c2 c3
      go_wp2
      go_ret
      exact ⟨_, rfl, HO.out.mono (Below.size K0), kp_trans K0 HK.out⟩
end Go.Proofs.Ytcpbemoiodbliaa

/- The contract of cross.gather. -/
namespace Go.Proofs.Ytcpbemoiodbliaa
open Go.RowKit Go.Proofs.Geo

theorem gather_append (l m out : List Pt) : gather out (l ++ m) = gather (gather out l) m := by
  induction l generalizing out with
  | nil => rfl
  | cons p l ih => simp only [List.cons_append, gather]; exact ih _
theorem gather_take (out l : List Pt) (k : Nat) (h : k < l.length) : gather out (l.take (k + 1)) = if l[k] ∈ gather out (l.take k) then gather out (l.take k) else gather out (l.take k) ++ [l[k]] := by
  rw [List.take_succ_eq_append_getElem h, gather_append]; rfl
theorem gather_len (out l : List Pt) : (gather out l).length ≤ out.length + l.length := by
  induction l generalizing out with
  | nil => simp [gather]
  | cons p l ih =>
    simp only [gather]
    split
    · have := ih out; simp only [List.length_cons]; omega
    · have := ih (out ++ [p]); simp only [List.length_cons, List.length_append, List.length_nil] at this ⊢; omega

theorem grown_comb {w a b : World} {r r' : Option Nat} (h : w.grownBy a r) (k : a.grownBy b r') (hr : r' = r ∨ ∃ g, r' = some g ∧ w.heap.size ≤ g) : w.grownBy b r := by
  refine ⟨k.os.trans h.os, k.tape.trans h.tape, k.output.trans h.output, Nat.le_trans h.size k.size, fun j hj hne => ?_⟩
  refine (k.block j (Nat.lt_of_lt_of_le hj h.size) ?_).trans (h.block j hj hne)
  rcases hr with rfl | ⟨g, rfl, hg⟩
  · exact hne
  · intro e; cases e; omega
theorem grown_kp {w a b : World} {r : Option Nat} (h : w.grownBy a r) (k : Kp a b) : w.grownBy b r := grown_comb h (grown_of_kp k r) (.inl rfl)
theorem grown_refl (w : World) (r : Option Nat) : w.grownBy w r := ⟨rfl, rfl, rfl, Nat.le_refl _, fun _ _ _ => rfl⟩
theorem PtsAt.grown {w w' : World} {b off : Nat} {l : List Pt} {r : Option Nat} (h : PtsAt w b off l) (g : w.grownBy w' r) (hne : some b ≠ r) : PtsAt w' b off l :=
  fun i hi => ⟨g.cell (h i hi).1 hne, g.cell (h i hi).2 hne⟩

/-- Where the slice lies that comes back: where it was, or in a new block. -/
def At (w : World) (v0 v : Value) : Prop := v.ownBlock = v0.ownBlock ∨ ∃ g, v.ownBlock = some g ∧ w.heap.size ≤ g
theorem At.next {w a : World} {v0 v v' : Value} (h : At w v0 v) (hs : w.heap.size ≤ a.heap.size) (hat : v'.ownBlock = v.ownBlock ∨ v'.ownBlock = some a.heap.size) : At w v0 v' := by
  rcases hat with e | e
  · unfold At; rw [e]; exact h
  · exact .inr ⟨_, e, hs⟩
def GatherEnd (B : Nat) (w : World) (v0 : Value) (l : List Pt) (e : Ending) (w' : World) : Prop := ∃ v, e = .returned v ∧ OwnP w' B v l ∧ w.grownBy w' v0.ownBlock ∧ At w v0 v

set_option maxHeartbeats 4000000 in
set_option maxRecDepth 100000 in
theorem gather_list (B : Nat) (v0 : Value) (l0 : List Pt) (b off cap : Nat) (l : List Pt) (w : World) (hB : B ≤ w.heap.size) (h0 : OwnP w B v0 l0) (hl0 : l0.length ≤ 1000000) (hl : l.length ≤ 1000000) (h : PtsAt w b off l) (hne : some b ≠ v0.ownBlock) :
    Calls Try.prog 66 #[v0, .slice (some ⟨b, off, none⟩) l.length cap] w (GatherEnd B w v0 (gather l0 l)) := by
  obtain ⟨i0, hi, hz0, hz1, hz2⟩ := info_parts infoPt
  have HI := Lib.hid hi
  have HZ0 := Lib.hid hz0
  have HZ1 := Lib.hid hz1
  have HZ2 := Lib.hid hz2
  have H0 := Lib.hid h0
  have H := Lib.hid h
  have HNE := Lib.hid hne
  have HBB := Lib.hid hB
  clear hi hz0 hz1 hz2 h0 h hne hB
  go_enter Try.func66, Try.ntmps66
  go_wp2
  go_loopw [0, 9] (fun v i wr => ∃ k : Nat, k ≤ l.length ∧ i = .int .i64 k ∧ OwnP wr B v (gather l0 (l.take k)) ∧ w.grownBy wr v0.ownBlock ∧ At w v0 v) (fun _ i _ => l.length - (intOf i).toNat)
  case atStart => exact ⟨0, Nat.zero_le _, rfl, H0.out, grown_refl _ _, .inl rfl⟩
  case round =>
    obtain ⟨k, hk, rfl, ho, hg, hat⟩ := hrel
    by_cases hlt : k < l.length
    · obtain ⟨x, y, hxy⟩ : ∃ x y, l[k] = (x, y) := ⟨_, _, rfl⟩
      have hc := (H.out.grown hg HNE.out) k hlt
      rw [hxy] at hc
      obtain ⟨hc1, hc2⟩ := hc
      have hs := gather_take l0 l k hlt
      rw [hxy] at hs
      have hn : (gather l0 (l.take k)).length ≤ l0.length + k := Nat.le_trans (gather_len _ _) (by have := List.length_take_le k l; omega)
      have HS := Lib.hid hs
      have HO := Lib.hid ho
      have HG := Lib.hid hg
      have HA := Lib.hid hat
      have HN := Lib.hid hn
      clear hxy hs ho hg hat hn
      cases hv : decide ((x, y) ∈ gather l0 (l.take k))
      · have HV := Lib.hid (of_decide_eq_false hv)
        go_wp2_with (first
          | (go_at_call 79; refine (contains_rd _ (gather l0 (l.take k)) _ _ _ ((HO.out.rd (by have := HN.out; omega)).kp (kp_alloc (kp_refl _) _))).mono ?_; rintro e w2 ⟨rfl, hk2⟩; have p0 : w2.cell? ⟨wr.heap.size, 0, none⟩ = some (.int .i64 x) := kp_cell hk2 (by simp [go_sem]); have p1 : w2.cell? ⟨wr.heap.size, 1, none⟩ = some (.int .i64 y) := kp_cell hk2 (by simp [go_sem]); have HK2 := Lib.hid hk2; clear hk2; have HO2 := Lib.hid ((HO.out.kp (kp_alloc (kp_refl _) _)).kp HK2.out); have HB := Lib.hid (kp_trans (kp_alloc (kp_refl _) _) HK2.out))
          | (at_builtin; refine wpList_append_own_at _ rfl _ _ 23 rfl B 25 i0 (.agg #[.int .i64 0, .int .i64 0]) 2 16 Try.underlying23 HI.out HZ0.out HZ1.out HZ2.out rfl (by decide) _ _ _ rfl (HO2.out.kp (kp_alloc (kp_refl _) _)) ⟨w2.heap.size, 0, none⟩ 1 1 [.int .i64 x, .int .i64 y] rfl rfl (cell_two_pt _ _ _ _) (by simp [Value.oneCell']) (by have := HN.out; unfold maxLen; omega) (by have := HN.out; omega) (Nat.le_trans HBB.out (Nat.le_trans HG.out.size (Below.size (kp_alloc HB.out _)))) ?_; intro v' w3 hown hgrow hnil hat; have HO3 := Lib.hid (OwnP.snoc hown); have HG3 := Lib.hid (grown_comb (grown_kp HG.out (kp_alloc HB.out _)) hgrow HA.out); have HA3 := Lib.hid (HA.out.next (Nat.le_trans HG.out.size (Below.size (kp_alloc HB.out _))) hat); clear hown hgrow hnil hat))
        go_roundw
        case rel => exact ⟨k + 1, by omega, by go_num, by rw [HS.out, if_neg HV.out]; exact HO3.out, HG3.out, HA3.out⟩
        case measure => simp [intOf]; omega
      · have HV := Lib.hid (of_decide_eq_true hv)
        go_wp2_with (go_at_call 79; refine (contains_rd _ (gather l0 (l.take k)) _ _ _ ((HO.out.rd (by have := HN.out; omega)).kp (kp_alloc (kp_refl _) _))).mono ?_; rintro e w2 ⟨rfl, hk2⟩; have HK2 := Lib.hid hk2; clear hk2)
        go_roundw
        case rel => exact ⟨k + 1, by omega, by go_num, by rw [HS.out, if_pos HV.out]; exact (HO.out.kp (kp_alloc (kp_refl _) _)).kp HK2.out, grown_kp HG.out (kp_trans (kp_alloc (kp_refl _) _) HK2.out), HA.out⟩
        case measure => simp [intOf]; omega
    · have hke : k = l.length := by omega
      have HO := Lib.hid (show OwnP wr B _ (gather l0 l) by rw [hke, List.take_length] at ho; exact ho)
      have HG := Lib.hid hg
      have HA := Lib.hid hat
      clear ho hg hat hke
      go_wp2
      go_ret
      exact ⟨_, rfl, HO.out, HG.out, HA.out⟩
end Go.Proofs.Ytcpbemoiodbliaa

/- The contracts of cross.may, cross.Ends, cross.Meets. -/
namespace Go.Proofs.Ytcpbemoiodbliaa
open Go.RowKit Go.Proofs.Geo

theorem may_f1 {a b : Pt} (h : okP a = false) : may a b = false := by simp [may, h]
theorem may_f2 {a b : Pt} (h1 : okP a = true) (h : okP b = false) : may a b = false := by simp [may, h1, h]
theorem may_t {a b : Pt} (h1 : okP a = true) (h : okP b = true) : may a b = decide (a ≠ b) := by simp [may, h1, h]

set_option maxHeartbeats 4000000 in
set_option maxRecDepth 100000 in
theorem may_any (ax ay bx bY : Int) (w : World) : Calls Try.prog 42 #[pv ax ay, pv bx bY] w fun e w' => e = .returned (.bool (may (ax, ay) (bx, bY))) ∧ Kp w w' := by
  cases ha : okP (ax, ay)
  · have H := Lib.hid (may_f1 (b := (bx, bY)) ha)
    go_enter Try.func42, Try.ntmps42
    go_wp2_with (first
      | (go_at_call_of 46 (Value.agg #[Value.int .i64 ax, Value.int .i64 ay]); refine (valid_any _ _ _).mono ?_; rintro e w1 ⟨rfl, hk⟩; have c0 : w1.cell? ⟨w.heap.size, 0, none⟩ = some (.int .i64 ax) := kp_cell hk (by simp [go_sem]); have c1 : w1.cell? ⟨w.heap.size, 1, none⟩ = some (.int .i64 ay) := kp_cell hk (by simp [go_sem]); have c2 : w1.cell? ⟨w.heap.size + 1, 0, none⟩ = some (.int .i64 bx) := kp_cell hk (by simp [go_sem]); have c3 : w1.cell? ⟨w.heap.size + 1, 1, none⟩ = some (.int .i64 bY) := kp_cell hk (by simp [go_sem]); have K : Kp w w1 := kp_trans (by repeat (first | exact kp_refl _ | apply kp_alloc | apply kp_drew)) hk; have l0 : w.heap.size < w1.heap.size := cell_lt c0; have l2 : w.heap.size + 1 < w1.heap.size := cell_lt c2; have HK := Lib.hid K; clear K hk)
      | (go_at_call 46; refine (valid_any _ _ _).mono ?_; rintro e w2 ⟨rfl, hk⟩; have HK2 := Lib.hid (kp_trans HK.out hk); replace c0 : w2.cell? ⟨w.heap.size, 0, none⟩ = some (.int .i64 ax) := kp_cell hk c0; replace c1 : w2.cell? ⟨w.heap.size, 1, none⟩ = some (.int .i64 ay) := kp_cell hk c1; replace c2 : w2.cell? ⟨w.heap.size + 1, 0, none⟩ = some (.int .i64 bx) := kp_cell hk c2; replace c3 : w2.cell? ⟨w.heap.size + 1, 1, none⟩ = some (.int .i64 bY) := kp_cell hk c3; replace l0 : w.heap.size < w2.heap.size := cell_lt c0; replace l2 : w.heap.size + 1 < w2.heap.size := cell_lt c2; clear hk))
    go_ret
    exact ⟨ret_bool (H.out.symm), HK.out⟩
  · cases hb : okP (bx, bY)
    · have H := Lib.hid (may_f2 ha hb)
      go_enter Try.func42, Try.ntmps42
      go_wp2_with (first
        | (go_at_call_of 46 (Value.agg #[Value.int .i64 ax, Value.int .i64 ay]); refine (valid_any _ _ _).mono ?_; rintro e w1 ⟨rfl, hk⟩; have c0 : w1.cell? ⟨w.heap.size, 0, none⟩ = some (.int .i64 ax) := kp_cell hk (by simp [go_sem]); have c1 : w1.cell? ⟨w.heap.size, 1, none⟩ = some (.int .i64 ay) := kp_cell hk (by simp [go_sem]); have c2 : w1.cell? ⟨w.heap.size + 1, 0, none⟩ = some (.int .i64 bx) := kp_cell hk (by simp [go_sem]); have c3 : w1.cell? ⟨w.heap.size + 1, 1, none⟩ = some (.int .i64 bY) := kp_cell hk (by simp [go_sem]); have K : Kp w w1 := kp_trans (by repeat (first | exact kp_refl _ | apply kp_alloc | apply kp_drew)) hk; have l0 : w.heap.size < w1.heap.size := cell_lt c0; have l2 : w.heap.size + 1 < w1.heap.size := cell_lt c2; have HK := Lib.hid K; clear K hk)
        | (go_at_call 46; refine (valid_any _ _ _).mono ?_; rintro e w2 ⟨rfl, hk⟩; have HK2 := Lib.hid (kp_trans HK.out hk); replace c0 : w2.cell? ⟨w.heap.size, 0, none⟩ = some (.int .i64 ax) := kp_cell hk c0; replace c1 : w2.cell? ⟨w.heap.size, 1, none⟩ = some (.int .i64 ay) := kp_cell hk c1; replace c2 : w2.cell? ⟨w.heap.size + 1, 0, none⟩ = some (.int .i64 bx) := kp_cell hk c2; replace c3 : w2.cell? ⟨w.heap.size + 1, 1, none⟩ = some (.int .i64 bY) := kp_cell hk c3; replace l0 : w.heap.size < w2.heap.size := cell_lt c0; replace l2 : w.heap.size + 1 < w2.heap.size := cell_lt c2; clear hk))
      go_ret
      exact ⟨ret_bool (H.out.symm), HK2.out⟩
    · have H := Lib.hid (may_t ha hb)
      by_cases ex : ax = bx
      · subst ex
        by_cases ey : ay = bY
        · subst ey
          have hv : okP (ax, ay) = true := ha
          go_enter Try.func42, Try.ntmps42
          go_wp2_with fail
          refine (valid_any _ _ _).mono ?_; rintro e w1 ⟨rfl, hk⟩; have c0 : w1.cell? ⟨w.heap.size, 0, none⟩ = some (.int .i64 ax) := kp_cell hk (by simp [go_sem]); have c1 : w1.cell? ⟨w.heap.size, 1, none⟩ = some (.int .i64 ay) := kp_cell hk (by simp [go_sem]); have c2 : w1.cell? ⟨w.heap.size + 1, 0, none⟩ = some (.int .i64 ax) := kp_cell hk (by simp [go_sem]); have c3 : w1.cell? ⟨w.heap.size + 1, 1, none⟩ = some (.int .i64 ay) := kp_cell hk (by simp [go_sem]); have K : Kp w w1 := kp_trans (by repeat (first | exact kp_refl _ | apply kp_alloc | apply kp_drew)) hk; have l0 : w.heap.size < w1.heap.size := cell_lt c0; have l2 : w.heap.size + 1 < w1.heap.size := cell_lt c2; have HK := Lib.hid K; clear K hk
          go_wp2_with fail
          refine (valid_any _ _ _).mono ?_; rintro e w2 ⟨rfl, hk⟩; have HK2 := Lib.hid (kp_trans HK.out hk); replace c0 : w2.cell? ⟨w.heap.size, 0, none⟩ = some (.int .i64 ax) := kp_cell hk c0; replace c1 : w2.cell? ⟨w.heap.size, 1, none⟩ = some (.int .i64 ay) := kp_cell hk c1; replace c2 : w2.cell? ⟨w.heap.size + 1, 0, none⟩ = some (.int .i64 ax) := kp_cell hk c2; replace c3 : w2.cell? ⟨w.heap.size + 1, 1, none⟩ = some (.int .i64 ay) := kp_cell hk c3; replace l0 : w.heap.size < w2.heap.size := cell_lt c0; replace l2 : w.heap.size + 1 < w2.heap.size := cell_lt c2; clear hk
          go_wp2_with fail
          go_ret
          exact ⟨ret_bool (by rw [H.out]; simp), HK2.out⟩
        · have ey' : (ay == bY) = false := by simp [ey]
          have HY := Lib.hid ey
          clear ey
          go_enter Try.func42, Try.ntmps42
          go_wp2_with (first
            | (go_at_call_of 46 (Value.agg #[Value.int .i64 ax, Value.int .i64 ay]); refine (valid_any _ _ _).mono ?_; rintro e w1 ⟨rfl, hk⟩; have c0 : w1.cell? ⟨w.heap.size, 0, none⟩ = some (.int .i64 ax) := kp_cell hk (by simp [go_sem]); have c1 : w1.cell? ⟨w.heap.size, 1, none⟩ = some (.int .i64 ay) := kp_cell hk (by simp [go_sem]); have c2 : w1.cell? ⟨w.heap.size + 1, 0, none⟩ = some (.int .i64 ax) := kp_cell hk (by simp [go_sem]); have c3 : w1.cell? ⟨w.heap.size + 1, 1, none⟩ = some (.int .i64 bY) := kp_cell hk (by simp [go_sem]); have K : Kp w w1 := kp_trans (by repeat (first | exact kp_refl _ | apply kp_alloc | apply kp_drew)) hk; have l0 : w.heap.size < w1.heap.size := cell_lt c0; have l2 : w.heap.size + 1 < w1.heap.size := cell_lt c2; have HK := Lib.hid K; clear K hk)
            | (go_at_call 46; refine (valid_any _ _ _).mono ?_; rintro e w2 ⟨rfl, hk⟩; have HK2 := Lib.hid (kp_trans HK.out hk); replace c0 : w2.cell? ⟨w.heap.size, 0, none⟩ = some (.int .i64 ax) := kp_cell hk c0; replace c1 : w2.cell? ⟨w.heap.size, 1, none⟩ = some (.int .i64 ay) := kp_cell hk c1; replace c2 : w2.cell? ⟨w.heap.size + 1, 0, none⟩ = some (.int .i64 ax) := kp_cell hk c2; replace c3 : w2.cell? ⟨w.heap.size + 1, 1, none⟩ = some (.int .i64 bY) := kp_cell hk c3; replace l0 : w.heap.size < w2.heap.size := cell_lt c0; replace l2 : w.heap.size + 1 < w2.heap.size := cell_lt c2; clear hk))
          go_ret
          exact ⟨ret_bool (by rw [H.out]; simp [HY.out]), HK2.out⟩
      · have ex' : (ax == bx) = false := by simp [ex]
        have HX := Lib.hid ex
        clear ex
        go_enter Try.func42, Try.ntmps42
        go_wp2_with (first
          | (go_at_call_of 46 (Value.agg #[Value.int .i64 ax, Value.int .i64 ay]); refine (valid_any _ _ _).mono ?_; rintro e w1 ⟨rfl, hk⟩; have c0 : w1.cell? ⟨w.heap.size, 0, none⟩ = some (.int .i64 ax) := kp_cell hk (by simp [go_sem]); have c1 : w1.cell? ⟨w.heap.size, 1, none⟩ = some (.int .i64 ay) := kp_cell hk (by simp [go_sem]); have c2 : w1.cell? ⟨w.heap.size + 1, 0, none⟩ = some (.int .i64 bx) := kp_cell hk (by simp [go_sem]); have c3 : w1.cell? ⟨w.heap.size + 1, 1, none⟩ = some (.int .i64 bY) := kp_cell hk (by simp [go_sem]); have K : Kp w w1 := kp_trans (by repeat (first | exact kp_refl _ | apply kp_alloc | apply kp_drew)) hk; have l0 : w.heap.size < w1.heap.size := cell_lt c0; have l2 : w.heap.size + 1 < w1.heap.size := cell_lt c2; have HK := Lib.hid K; clear K hk)
          | (go_at_call 46; refine (valid_any _ _ _).mono ?_; rintro e w2 ⟨rfl, hk⟩; have HK2 := Lib.hid (kp_trans HK.out hk); replace c0 : w2.cell? ⟨w.heap.size, 0, none⟩ = some (.int .i64 ax) := kp_cell hk c0; replace c1 : w2.cell? ⟨w.heap.size, 1, none⟩ = some (.int .i64 ay) := kp_cell hk c1; replace c2 : w2.cell? ⟨w.heap.size + 1, 0, none⟩ = some (.int .i64 bx) := kp_cell hk c2; replace c3 : w2.cell? ⟨w.heap.size + 1, 1, none⟩ = some (.int .i64 bY) := kp_cell hk c3; replace l0 : w.heap.size < w2.heap.size := cell_lt c0; replace l2 : w.heap.size + 1 < w2.heap.size := cell_lt c2; clear hk))
        go_ret
        exact ⟨ret_bool (by rw [H.out]; simp [HX.out]), HK2.out⟩

theorem kp_of_grown_none {w w' : World} (h : w.grownBy w' none) : Kp w w' := ⟨h.os, h.tape, h.output, h.size, fun k hk => h.block k hk (by simp)⟩
theorem gather_none (B : Nat) (v0 : Value) (l0 : List Pt) (w : World) (h0 : OwnP w B v0 l0) :
    Calls Try.prog 66 #[v0, .slice none 0 0] w (GatherEnd B w v0 (gather l0 [])) := by
  have H0 := Lib.hid h0
  clear h0
  go_enter Try.func66, Try.ntmps66
  go_wp2
  go_loop [0, 9] (fun v i => v = v0 ∧ i = .int .i64 0) (fun _ _ => 0)
  case atStart => exact ⟨rfl, rfl⟩
  case round =>
    obtain ⟨rfl, rfl⟩ := hrel
    go_wp2
    go_ret
    exact ⟨_, rfl, H0.out, grown_refl _ _, .inl rfl⟩
theorem gather_rd (B : Nat) (v0 v1 : Value) (l0 l : List Pt) (w : World) (hB : B ≤ w.heap.size) (h0 : OwnP w B v0 l0) (hl0 : l0.length ≤ 1000000) (hl : l.length ≤ 1000000) (h : Rd w v1 l) (hne : ∀ b, v1.ownBlock = some b → some b ≠ v0.ownBlock) :
    Calls Try.prog 66 #[v0, v1] w (GatherEnd B w v0 (gather l0 l)) := by
  obtain ⟨_, ⟨rfl, rfl⟩ | ⟨b, off, cap, rfl, h⟩⟩ := h
  · exact gather_none B v0 l0 w h0
  · exact gather_list B v0 l0 b off cap l w hB h0 hl0 hl h (hne b rfl)
theorem gather_nil (v1 : Value) (l : List Pt) (w : World) (hl : l.length ≤ 1000000) (h : Rd w v1 l) :
    Calls Try.prog 66 #[.slice none 0 0, v1] w (OwnEnd w (gather [] l)) :=
  (gather_rd w.heap.size _ v1 [] l w (Nat.le_refl _) (OwnP.nil _ _) (by simp) hl h (fun _ _ => by simp [Value.ownBlock])).mono fun _ _ ⟨v, he, ho, hg, _⟩ => ⟨v, he, ho, kp_of_grown_none hg⟩

theorem ptsAt_two (w : World) (x y z u : Int) (t : TypeId) (b : Nat) (hb : b = w.heap.size) : PtsAt (w.alloc (.cells #[.int .i64 x, .int .i64 y, .int .i64 z, .int .i64 u] t)) b 0 [(x, y), (z, u)] := by
  subst hb
  intro i hi
  match i, hi with
  | 0, _ => exact ⟨by simp, by simp⟩
  | 1, _ => exact ⟨by simp, by simp⟩

set_option maxHeartbeats 8000000 in
set_option maxRecDepth 100000 in
theorem ends_any (ax ay bx bY cx cy dx dy : Int) (w : World) : Calls Try.prog 43 #[pv ax ay, pv bx bY, pv cx cy, pv dx dy] w (OwnEnd w (ends (ax, ay) (bx, bY) (cx, cy) (dx, dy))) := by
  cases hm1 : may (ax, ay) (bx, bY)
  · have H : Hid (ends (ax, ay) (bx, bY) (cx, cy) (dx, dy) = []) := Lib.hid (by simp [ends, hm1])
    go_enter Try.func43, Try.ntmps43
    go_wp2_with (go_at_call_of 42 (Value.agg #[Value.int .i64 ax, Value.int .i64 ay]); refine (may_any _ _ _ _ _).mono ?_; rintro e w1 ⟨rfl, hk⟩; have c0 : w1.cell? ⟨w.heap.size, 0, none⟩ = some (.int .i64 ax) := kp_cell hk (by simp [go_sem]); have c1 : w1.cell? ⟨w.heap.size, 1, none⟩ = some (.int .i64 ay) := kp_cell hk (by simp [go_sem]); have c2 : w1.cell? ⟨w.heap.size + 1, 0, none⟩ = some (.int .i64 bx) := kp_cell hk (by simp [go_sem]); have c3 : w1.cell? ⟨w.heap.size + 1, 1, none⟩ = some (.int .i64 bY) := kp_cell hk (by simp [go_sem]); have c4 : w1.cell? ⟨w.heap.size + 1 + 1, 0, none⟩ = some (.int .i64 cx) := kp_cell hk (by simp [go_sem]); have c5 : w1.cell? ⟨w.heap.size + 1 + 1, 1, none⟩ = some (.int .i64 cy) := kp_cell hk (by simp [go_sem]); have c6 : w1.cell? ⟨w.heap.size + 1 + 1 + 1, 0, none⟩ = some (.int .i64 dx) := kp_cell hk (by simp [go_sem]); have c7 : w1.cell? ⟨w.heap.size + 1 + 1 + 1, 1, none⟩ = some (.int .i64 dy) := kp_cell hk (by simp [go_sem]); have K : Kp w w1 := kp_trans (by repeat (first | exact kp_refl _ | apply kp_alloc | apply kp_drew)) hk; have l0 : w.heap.size < w1.heap.size := cell_lt c0; have l2 : w.heap.size + 1 < w1.heap.size := cell_lt c2; have l4 : w.heap.size + 1 + 1 < w1.heap.size := cell_lt c4; have l6 : w.heap.size + 1 + 1 + 1 < w1.heap.size := cell_lt c6; clear hk)
    go_ret
    exact ⟨_, rfl, by rw [H.out]; exact OwnP.nil _ _, K⟩
  · cases hm2 : may (cx, cy) (dx, dy)
    · have H : Hid (ends (ax, ay) (bx, bY) (cx, cy) (dx, dy) = []) := Lib.hid (by simp [ends, hm2])
      go_enter Try.func43, Try.ntmps43
      go_wp2_with (first
        | (go_at_call_of 42 (Value.agg #[Value.int .i64 ax, Value.int .i64 ay]); refine (may_any _ _ _ _ _).mono ?_; rintro e w1 ⟨rfl, hk⟩; have c0 : w1.cell? ⟨w.heap.size, 0, none⟩ = some (.int .i64 ax) := kp_cell hk (by simp [go_sem]); have c1 : w1.cell? ⟨w.heap.size, 1, none⟩ = some (.int .i64 ay) := kp_cell hk (by simp [go_sem]); have c2 : w1.cell? ⟨w.heap.size + 1, 0, none⟩ = some (.int .i64 bx) := kp_cell hk (by simp [go_sem]); have c3 : w1.cell? ⟨w.heap.size + 1, 1, none⟩ = some (.int .i64 bY) := kp_cell hk (by simp [go_sem]); have c4 : w1.cell? ⟨w.heap.size + 1 + 1, 0, none⟩ = some (.int .i64 cx) := kp_cell hk (by simp [go_sem]); have c5 : w1.cell? ⟨w.heap.size + 1 + 1, 1, none⟩ = some (.int .i64 cy) := kp_cell hk (by simp [go_sem]); have c6 : w1.cell? ⟨w.heap.size + 1 + 1 + 1, 0, none⟩ = some (.int .i64 dx) := kp_cell hk (by simp [go_sem]); have c7 : w1.cell? ⟨w.heap.size + 1 + 1 + 1, 1, none⟩ = some (.int .i64 dy) := kp_cell hk (by simp [go_sem]); have K : Kp w w1 := kp_trans (by repeat (first | exact kp_refl _ | apply kp_alloc | apply kp_drew)) hk; have l0 : w.heap.size < w1.heap.size := cell_lt c0; have l2 : w.heap.size + 1 < w1.heap.size := cell_lt c2; have l4 : w.heap.size + 1 + 1 < w1.heap.size := cell_lt c4; have l6 : w.heap.size + 1 + 1 + 1 < w1.heap.size := cell_lt c6; clear hk)
        | (go_at_call_of 42 (Value.agg #[Value.int .i64 cx, Value.int .i64 cy]); refine (may_any _ _ _ _ _).mono ?_; rintro e w2 ⟨rfl, hk⟩; replace c0 : w2.cell? ⟨w.heap.size, 0, none⟩ = some (.int .i64 ax) := kp_cell hk (by first | exact c0 | exact cell_a c0 _ | exact cell_a (cell_a c0 _) _); replace c1 : w2.cell? ⟨w.heap.size, 1, none⟩ = some (.int .i64 ay) := kp_cell hk (by first | exact c1 | exact cell_a c1 _ | exact cell_a (cell_a c1 _) _); replace c2 : w2.cell? ⟨w.heap.size + 1, 0, none⟩ = some (.int .i64 bx) := kp_cell hk (by first | exact c2 | exact cell_a c2 _ | exact cell_a (cell_a c2 _) _); replace c3 : w2.cell? ⟨w.heap.size + 1, 1, none⟩ = some (.int .i64 bY) := kp_cell hk (by first | exact c3 | exact cell_a c3 _ | exact cell_a (cell_a c3 _) _); replace c4 : w2.cell? ⟨w.heap.size + 1 + 1, 0, none⟩ = some (.int .i64 cx) := kp_cell hk (by first | exact c4 | exact cell_a c4 _ | exact cell_a (cell_a c4 _) _); replace c5 : w2.cell? ⟨w.heap.size + 1 + 1, 1, none⟩ = some (.int .i64 cy) := kp_cell hk (by first | exact c5 | exact cell_a c5 _ | exact cell_a (cell_a c5 _) _); replace c6 : w2.cell? ⟨w.heap.size + 1 + 1 + 1, 0, none⟩ = some (.int .i64 dx) := kp_cell hk (by first | exact c6 | exact cell_a c6 _ | exact cell_a (cell_a c6 _) _); replace c7 : w2.cell? ⟨w.heap.size + 1 + 1 + 1, 1, none⟩ = some (.int .i64 dy) := kp_cell hk (by first | exact c7 | exact cell_a c7 _ | exact cell_a (cell_a c7 _) _); replace K : Kp w w2 := kp_trans (by first | exact K | exact kp_drew K | exact kp_alloc K _ | exact kp_alloc (kp_drew K) _ | exact kp_alloc (kp_alloc K _) _ | exact kp_alloc (kp_alloc (kp_drew K) _) _) hk; replace l0 : w.heap.size < w2.heap.size := cell_lt c0; replace l2 : w.heap.size + 1 < w2.heap.size := cell_lt c2; replace l4 : w.heap.size + 1 + 1 < w2.heap.size := cell_lt c4; replace l6 : w.heap.size + 1 + 1 + 1 < w2.heap.size := cell_lt c6; clear hk))
      go_ret
      exact ⟨_, rfl, by rw [H.out]; exact OwnP.nil _ _, K⟩
    · have H : Hid (ends (ax, ay) (bx, bY) (cx, cy) (dx, dy) = gather (gather [] (onL (cx, cy) (dx, dy) [(ax, ay), (bx, bY)])) (onL (ax, ay) (bx, bY) [(cx, cy), (dx, dy)])) := Lib.hid (by simp [ends, hm1, hm2])
      have L1 : Hid ((onL (cx, cy) (dx, dy) [(ax, ay), (bx, bY)]).length ≤ 2) := Lib.hid (onL_len _ _ _)
      have L2 : Hid ((onL (ax, ay) (bx, bY) [(cx, cy), (dx, dy)]).length ≤ 2) := Lib.hid (onL_len _ _ _)
      have L3 : Hid ((gather [] (onL (cx, cy) (dx, dy) [(ax, ay), (bx, bY)])).length ≤ 2) := Lib.hid (Nat.le_trans (gather_len _ _) (by have := L1.out; simpa using this))
      go_enter Try.func43, Try.ntmps43
      go_upto_region 3 with (first
        | (go_at_call_of 42 (Value.agg #[Value.int .i64 ax, Value.int .i64 ay]); refine (may_any _ _ _ _ _).mono ?_; rintro e w1 ⟨rfl, hk⟩; have c0 : w1.cell? ⟨w.heap.size, 0, none⟩ = some (.int .i64 ax) := kp_cell hk (by simp [go_sem]); have c1 : w1.cell? ⟨w.heap.size, 1, none⟩ = some (.int .i64 ay) := kp_cell hk (by simp [go_sem]); have c2 : w1.cell? ⟨w.heap.size + 1, 0, none⟩ = some (.int .i64 bx) := kp_cell hk (by simp [go_sem]); have c3 : w1.cell? ⟨w.heap.size + 1, 1, none⟩ = some (.int .i64 bY) := kp_cell hk (by simp [go_sem]); have c4 : w1.cell? ⟨w.heap.size + 1 + 1, 0, none⟩ = some (.int .i64 cx) := kp_cell hk (by simp [go_sem]); have c5 : w1.cell? ⟨w.heap.size + 1 + 1, 1, none⟩ = some (.int .i64 cy) := kp_cell hk (by simp [go_sem]); have c6 : w1.cell? ⟨w.heap.size + 1 + 1 + 1, 0, none⟩ = some (.int .i64 dx) := kp_cell hk (by simp [go_sem]); have c7 : w1.cell? ⟨w.heap.size + 1 + 1 + 1, 1, none⟩ = some (.int .i64 dy) := kp_cell hk (by simp [go_sem]); have K : Kp w w1 := kp_trans (by repeat (first | exact kp_refl _ | apply kp_alloc | apply kp_drew)) hk; have l0 : w.heap.size < w1.heap.size := cell_lt c0; have l2 : w.heap.size + 1 < w1.heap.size := cell_lt c2; have l4 : w.heap.size + 1 + 1 < w1.heap.size := cell_lt c4; have l6 : w.heap.size + 1 + 1 + 1 < w1.heap.size := cell_lt c6; clear hk)
        | (go_at_call_of 42 (Value.agg #[Value.int .i64 cx, Value.int .i64 cy]); refine (may_any _ _ _ _ _).mono ?_; rintro e w2 ⟨rfl, hk⟩; replace c0 : w2.cell? ⟨w.heap.size, 0, none⟩ = some (.int .i64 ax) := kp_cell hk (by first | exact c0 | exact cell_a c0 _ | exact cell_a (cell_a c0 _) _); replace c1 : w2.cell? ⟨w.heap.size, 1, none⟩ = some (.int .i64 ay) := kp_cell hk (by first | exact c1 | exact cell_a c1 _ | exact cell_a (cell_a c1 _) _); replace c2 : w2.cell? ⟨w.heap.size + 1, 0, none⟩ = some (.int .i64 bx) := kp_cell hk (by first | exact c2 | exact cell_a c2 _ | exact cell_a (cell_a c2 _) _); replace c3 : w2.cell? ⟨w.heap.size + 1, 1, none⟩ = some (.int .i64 bY) := kp_cell hk (by first | exact c3 | exact cell_a c3 _ | exact cell_a (cell_a c3 _) _); replace c4 : w2.cell? ⟨w.heap.size + 1 + 1, 0, none⟩ = some (.int .i64 cx) := kp_cell hk (by first | exact c4 | exact cell_a c4 _ | exact cell_a (cell_a c4 _) _); replace c5 : w2.cell? ⟨w.heap.size + 1 + 1, 1, none⟩ = some (.int .i64 cy) := kp_cell hk (by first | exact c5 | exact cell_a c5 _ | exact cell_a (cell_a c5 _) _); replace c6 : w2.cell? ⟨w.heap.size + 1 + 1 + 1, 0, none⟩ = some (.int .i64 dx) := kp_cell hk (by first | exact c6 | exact cell_a c6 _ | exact cell_a (cell_a c6 _) _); replace c7 : w2.cell? ⟨w.heap.size + 1 + 1 + 1, 1, none⟩ = some (.int .i64 dy) := kp_cell hk (by first | exact c7 | exact cell_a c7 _ | exact cell_a (cell_a c7 _) _); replace K : Kp w w2 := kp_trans (by first | exact K | exact kp_drew K | exact kp_alloc K _ | exact kp_alloc (kp_drew K) _ | exact kp_alloc (kp_alloc K _) _ | exact kp_alloc (kp_alloc (kp_drew K) _) _) hk; replace l0 : w.heap.size < w2.heap.size := cell_lt c0; replace l2 : w.heap.size + 1 < w2.heap.size := cell_lt c2; replace l4 : w.heap.size + 1 + 1 < w2.heap.size := cell_lt c4; replace l6 : w.heap.size + 1 + 1 + 1 < w2.heap.size := cell_lt c6; clear hk))
      have HK := Lib.hid K
      go_region_held3 (fun w' => Kp w w' ∧ w'.cell? ⟨w.heap.size, 0, none⟩ = some (.int .i64 ax) ∧ w'.cell? ⟨w.heap.size, 1, none⟩ = some (.int .i64 ay) ∧ w'.cell? ⟨w.heap.size + 1, 0, none⟩ = some (.int .i64 bx) ∧ w'.cell? ⟨w.heap.size + 1, 1, none⟩ = some (.int .i64 bY) ∧ w'.cell? ⟨w.heap.size + 1 + 1, 0, none⟩ = some (.int .i64 cx) ∧ w'.cell? ⟨w.heap.size + 1 + 1, 1, none⟩ = some (.int .i64 cy) ∧ w'.cell? ⟨w.heap.size + 1 + 1 + 1, 0, none⟩ = some (.int .i64 dx) ∧ w'.cell? ⟨w.heap.size + 1 + 1 + 1, 1, none⟩ = some (.int .i64 dy)) ((first | exact ⟨K, c0, c1, c2, c3, c4, c5, c6, c7⟩ | exact ⟨kp_drew K, c0, c1, c2, c3, c4, c5, c6, c7⟩ | exact ⟨kp_alloc K _, cell_a c0 _, cell_a c1 _, cell_a c2 _, cell_a c3 _, cell_a c4 _, cell_a c5 _, cell_a c6 _, cell_a c7 _⟩ | exact ⟨kp_alloc (kp_drew K) _, cell_a c0 _, cell_a c1 _, cell_a c2 _, cell_a c3 _, cell_a c4 _, cell_a c5 _, cell_a c6 _, cell_a c7 _⟩ | exact ⟨kp_alloc (kp_alloc K _) _, cell_a (cell_a c0 _) _, cell_a (cell_a c1 _) _, cell_a (cell_a c2 _) _, cell_a (cell_a c3 _) _, cell_a (cell_a c4 _) _, cell_a (cell_a c5 _) _, cell_a (cell_a c6 _) _, cell_a (cell_a c7 _) _⟩ | exact ⟨kp_alloc (kp_alloc (kp_drew K) _) _, cell_a (cell_a c0 _) _, cell_a (cell_a c1 _) _, cell_a (cell_a c2 _) _, cell_a (cell_a c3 _) _, cell_a (cell_a c4 _) _, cell_a (cell_a c5 _) _, cell_a (cell_a c6 _) _, cell_a (cell_a c7 _) _⟩))
        (first
          | (go_at_call_of 67 (Value.agg #[Value.int .i64 cx, Value.int .i64 cy]); refine (on_list cx cy dx dy _ 0 2 [(ax, ay), (bx, bY)] _ (by simp) ?_).mono ?_; (focus (clear K; repeat (first | exact ptsAt_two _ _ _ _ _ _ _ (by simp) | refine PtsAt.kp ?_ (by assumption) | refine PtsAt.kp ?_ (kp_alloc (kp_refl _) _) | refine PtsAt.kp ?_ (kp_drew (kp_refl _))))); rintro e w3 ⟨v24, rfl, ho24, hk⟩; have HO24 := Lib.hid ho24; have hk3 := hk; replace c0 : w3.cell? ⟨w.heap.size, 0, none⟩ = some (.int .i64 ax) := kp_cell hk (by first | exact c0 | exact cell_a c0 _ | exact cell_a (cell_a c0 _) _); replace c1 : w3.cell? ⟨w.heap.size, 1, none⟩ = some (.int .i64 ay) := kp_cell hk (by first | exact c1 | exact cell_a c1 _ | exact cell_a (cell_a c1 _) _); replace c2 : w3.cell? ⟨w.heap.size + 1, 0, none⟩ = some (.int .i64 bx) := kp_cell hk (by first | exact c2 | exact cell_a c2 _ | exact cell_a (cell_a c2 _) _); replace c3 : w3.cell? ⟨w.heap.size + 1, 1, none⟩ = some (.int .i64 bY) := kp_cell hk (by first | exact c3 | exact cell_a c3 _ | exact cell_a (cell_a c3 _) _); replace c4 : w3.cell? ⟨w.heap.size + 1 + 1, 0, none⟩ = some (.int .i64 cx) := kp_cell hk (by first | exact c4 | exact cell_a c4 _ | exact cell_a (cell_a c4 _) _); replace c5 : w3.cell? ⟨w.heap.size + 1 + 1, 1, none⟩ = some (.int .i64 cy) := kp_cell hk (by first | exact c5 | exact cell_a c5 _ | exact cell_a (cell_a c5 _) _); replace c6 : w3.cell? ⟨w.heap.size + 1 + 1 + 1, 0, none⟩ = some (.int .i64 dx) := kp_cell hk (by first | exact c6 | exact cell_a c6 _ | exact cell_a (cell_a c6 _) _); replace c7 : w3.cell? ⟨w.heap.size + 1 + 1 + 1, 1, none⟩ = some (.int .i64 dy) := kp_cell hk (by first | exact c7 | exact cell_a c7 _ | exact cell_a (cell_a c7 _) _); replace K : Kp w w3 := kp_trans (by first | exact K | exact kp_drew K | exact kp_alloc K _ | exact kp_alloc (kp_drew K) _ | exact kp_alloc (kp_alloc K _) _ | exact kp_alloc (kp_alloc (kp_drew K) _) _) hk; replace l0 : w.heap.size < w3.heap.size := cell_lt c0; replace l2 : w.heap.size + 1 < w3.heap.size := cell_lt c2; replace l4 : w.heap.size + 1 + 1 < w3.heap.size := cell_lt c4; replace l6 : w.heap.size + 1 + 1 + 1 < w3.heap.size := cell_lt c6; clear hk ho24)
          | (go_at_call_of 66 (Value.slice none 0 0); refine (gather_nil v24 (onL (cx, cy) (dx, dy) [(ax, ay), (bx, bY)]) _ (by have := L1.out; omega) ?_).mono ?_; (focus (first | exact HO24.out.rd (by have := L1.out; omega) | exact (HO24.out.kp (kp_alloc (kp_refl _) _)).rd (by have := L1.out; omega))); rintro e w4 ⟨v25, rfl, ho25, hk⟩; have HO25 := Lib.hid (ho25.mono (B' := w.heap.size + 4) (by first | exact l6 | (simp only [World.size_alloc]; omega))); have hk4 := hk; replace c0 : w4.cell? ⟨w.heap.size, 0, none⟩ = some (.int .i64 ax) := kp_cell hk (by first | exact c0 | exact cell_a c0 _ | exact cell_a (cell_a c0 _) _); replace c1 : w4.cell? ⟨w.heap.size, 1, none⟩ = some (.int .i64 ay) := kp_cell hk (by first | exact c1 | exact cell_a c1 _ | exact cell_a (cell_a c1 _) _); replace c2 : w4.cell? ⟨w.heap.size + 1, 0, none⟩ = some (.int .i64 bx) := kp_cell hk (by first | exact c2 | exact cell_a c2 _ | exact cell_a (cell_a c2 _) _); replace c3 : w4.cell? ⟨w.heap.size + 1, 1, none⟩ = some (.int .i64 bY) := kp_cell hk (by first | exact c3 | exact cell_a c3 _ | exact cell_a (cell_a c3 _) _); replace c4 : w4.cell? ⟨w.heap.size + 1 + 1, 0, none⟩ = some (.int .i64 cx) := kp_cell hk (by first | exact c4 | exact cell_a c4 _ | exact cell_a (cell_a c4 _) _); replace c5 : w4.cell? ⟨w.heap.size + 1 + 1, 1, none⟩ = some (.int .i64 cy) := kp_cell hk (by first | exact c5 | exact cell_a c5 _ | exact cell_a (cell_a c5 _) _); replace c6 : w4.cell? ⟨w.heap.size + 1 + 1 + 1, 0, none⟩ = some (.int .i64 dx) := kp_cell hk (by first | exact c6 | exact cell_a c6 _ | exact cell_a (cell_a c6 _) _); replace c7 : w4.cell? ⟨w.heap.size + 1 + 1 + 1, 1, none⟩ = some (.int .i64 dy) := kp_cell hk (by first | exact c7 | exact cell_a c7 _ | exact cell_a (cell_a c7 _) _); replace K : Kp w w4 := kp_trans (by first | exact K | exact kp_drew K | exact kp_alloc K _ | exact kp_alloc (kp_drew K) _ | exact kp_alloc (kp_alloc K _) _ | exact kp_alloc (kp_alloc (kp_drew K) _) _) hk; replace l0 : w.heap.size < w4.heap.size := cell_lt c0; replace l2 : w.heap.size + 1 < w4.heap.size := cell_lt c2; replace l4 : w.heap.size + 1 + 1 < w4.heap.size := cell_lt c4; replace l6 : w.heap.size + 1 + 1 + 1 < w4.heap.size := cell_lt c6; clear hk ho25)
          | (go_at_call_of 67 (Value.agg #[Value.int .i64 ax, Value.int .i64 ay]); refine (on_list ax ay bx bY _ 0 2 [(cx, cy), (dx, dy)] _ (by simp) ?_).mono ?_; (focus (clear K; repeat (first | exact ptsAt_two _ _ _ _ _ _ _ (by simp) | refine PtsAt.kp ?_ (by assumption) | refine PtsAt.kp ?_ (kp_alloc (kp_refl _) _) | refine PtsAt.kp ?_ (kp_drew (kp_refl _))))); rintro e w5 ⟨v31, rfl, ho31, hk⟩; have HO31 := Lib.hid ho31; have hk5 := hk; have HO255 := Lib.hid (show OwnP w5 (w.heap.size + 4) v25 _ from (by first | exact HO25.out.kp hk | exact (HO25.out.kp (kp_alloc (kp_refl _) _)).kp hk)); have HNE : Hid (∀ b, v31.ownBlock = some b → some b ≠ v25.ownBlock) := Lib.hid (by intro b hb e; have h1 := (World.ownsRow.lt ho31 b hb).1; have h2 := (World.ownsRow.lt HO25.out b e.symm).2; (try simp only [World.size_alloc] at h1); omega); replace c0 : w5.cell? ⟨w.heap.size, 0, none⟩ = some (.int .i64 ax) := kp_cell hk (by first | exact c0 | exact cell_a c0 _ | exact cell_a (cell_a c0 _) _); replace c1 : w5.cell? ⟨w.heap.size, 1, none⟩ = some (.int .i64 ay) := kp_cell hk (by first | exact c1 | exact cell_a c1 _ | exact cell_a (cell_a c1 _) _); replace c2 : w5.cell? ⟨w.heap.size + 1, 0, none⟩ = some (.int .i64 bx) := kp_cell hk (by first | exact c2 | exact cell_a c2 _ | exact cell_a (cell_a c2 _) _); replace c3 : w5.cell? ⟨w.heap.size + 1, 1, none⟩ = some (.int .i64 bY) := kp_cell hk (by first | exact c3 | exact cell_a c3 _ | exact cell_a (cell_a c3 _) _); replace c4 : w5.cell? ⟨w.heap.size + 1 + 1, 0, none⟩ = some (.int .i64 cx) := kp_cell hk (by first | exact c4 | exact cell_a c4 _ | exact cell_a (cell_a c4 _) _); replace c5 : w5.cell? ⟨w.heap.size + 1 + 1, 1, none⟩ = some (.int .i64 cy) := kp_cell hk (by first | exact c5 | exact cell_a c5 _ | exact cell_a (cell_a c5 _) _); replace c6 : w5.cell? ⟨w.heap.size + 1 + 1 + 1, 0, none⟩ = some (.int .i64 dx) := kp_cell hk (by first | exact c6 | exact cell_a c6 _ | exact cell_a (cell_a c6 _) _); replace c7 : w5.cell? ⟨w.heap.size + 1 + 1 + 1, 1, none⟩ = some (.int .i64 dy) := kp_cell hk (by first | exact c7 | exact cell_a c7 _ | exact cell_a (cell_a c7 _) _); replace K : Kp w w5 := kp_trans (by first | exact K | exact kp_drew K | exact kp_alloc K _ | exact kp_alloc (kp_drew K) _ | exact kp_alloc (kp_alloc K _) _ | exact kp_alloc (kp_alloc (kp_drew K) _) _) hk; replace l0 : w.heap.size < w5.heap.size := cell_lt c0; replace l2 : w.heap.size + 1 < w5.heap.size := cell_lt c2; replace l4 : w.heap.size + 1 + 1 < w5.heap.size := cell_lt c4; replace l6 : w.heap.size + 1 + 1 + 1 < w5.heap.size := cell_lt c6; clear hk ho31)
          | (go_at_call_of 66 v25; refine (gather_rd (w.heap.size + 4) v25 v31 _ (onL (ax, ay) (bx, bY) [(cx, cy), (dx, dy)]) _ ?_ HO255.out ?_ ?_ ?_ HNE.out).mono ?_; (focus exact l6); (focus (have := L3.out; omega)); (focus (have := L2.out; omega)); (focus exact HO31.out.rd (by have := L2.out; omega)); rintro e w6 ⟨v32, rfl, ho32, hg, _⟩; have HB6 : Below (w.heap.size + 4) w5 w6 := Below.grown (Below.refl _ _) hg l6 (fun k hk => (World.ownsRow.lt HO255.out k hk).1); have HO32 := Lib.hid ho32; replace c0 : w6.cell? ⟨w.heap.size, 0, none⟩ = some (.int .i64 ax) := (Below.cell (p := ⟨w.heap.size, 0, none⟩) HB6 (by simp only; omega)).trans c0; replace c1 : w6.cell? ⟨w.heap.size, 1, none⟩ = some (.int .i64 ay) := (Below.cell (p := ⟨w.heap.size, 1, none⟩) HB6 (by simp only; omega)).trans c1; replace c2 : w6.cell? ⟨w.heap.size + 1, 0, none⟩ = some (.int .i64 bx) := (Below.cell (p := ⟨w.heap.size + 1, 0, none⟩) HB6 (by simp only; omega)).trans c2; replace c3 : w6.cell? ⟨w.heap.size + 1, 1, none⟩ = some (.int .i64 bY) := (Below.cell (p := ⟨w.heap.size + 1, 1, none⟩) HB6 (by simp only; omega)).trans c3; replace c4 : w6.cell? ⟨w.heap.size + 1 + 1, 0, none⟩ = some (.int .i64 cx) := (Below.cell (p := ⟨w.heap.size + 1 + 1, 0, none⟩) HB6 (by simp only; omega)).trans c4; replace c5 : w6.cell? ⟨w.heap.size + 1 + 1, 1, none⟩ = some (.int .i64 cy) := (Below.cell (p := ⟨w.heap.size + 1 + 1, 1, none⟩) HB6 (by simp only; omega)).trans c5; replace c6 : w6.cell? ⟨w.heap.size + 1 + 1 + 1, 0, none⟩ = some (.int .i64 dx) := (Below.cell (p := ⟨w.heap.size + 1 + 1 + 1, 0, none⟩) HB6 (by simp only; omega)).trans c6; replace c7 : w6.cell? ⟨w.heap.size + 1 + 1 + 1, 1, none⟩ = some (.int .i64 dy) := (Below.cell (p := ⟨w.heap.size + 1 + 1 + 1, 1, none⟩) HB6 (by simp only; omega)).trans c7; replace K : Kp w w6 := Below.trans K (Below.mono HB6 (Nat.le_add_right _ 4)); clear ho32 hg))
      all_goals
        go_wp2_with fail
        go_ret
        exact ⟨v32, rfl, by rw [H.out]; exact HO32.out.mono (Nat.le_add_right _ 4), K⟩
end Go.Proofs.Ytcpbemoiodbliaa

/- The contract of cross.Meets. -/
namespace Go.Proofs.Ytcpbemoiodbliaa
open Go.RowKit Go.Proofs.Geo

theorem OwnP.shape {w : World} {B : Nat} {v : Value} {l : List Pt} (h : OwnP w B v l) : ∃ a cap, v = .slice a l.length cap := by
  obtain ⟨_, ⟨h1, h2⟩ | ⟨g, cap, cur, hv, _⟩⟩ := h
  · rw [h2]; exact ⟨none, 0, h1⟩
  · exact ⟨_, _, hv⟩
/-- What a call of Ends hands back, for what only asks how long it is. -/
def LenEnd (w : World) (n : Nat) (e : Ending) (w' : World) : Prop := ∃ a cap, e = .returned (.slice a n cap) ∧ Kp w w'
theorem ends_len_any (ax ay bx bY cx cy dx dy : Int) (w : World) : Calls Try.prog 43 #[pv ax ay, pv bx bY, pv cx cy, pv dx dy] w (LenEnd w (ends (ax, ay) (bx, bY) (cx, cy) (dx, dy)).length) :=
  (ends_any ax ay bx bY cx cy dx dy w).mono fun _ _ ⟨_, he, ho, hk⟩ => by
    obtain ⟨a, cap, rfl⟩ := ho.shape
    exact ⟨a, cap, he, hk⟩


theorem cellsInt : Try.prog.cellsOf 3 = 1 := by kernel_rfl
theorem infoInt : ∃ i, Try.prog.info? 3 = some i := Option.isSome_iff_exists.1 (by kernel_rfl)
/-- Two lists of four numbers, compared. -/
theorem run_eq4 (t1 t2 t3 t4 u1 u2 u3 u4 : Int) (w : World) :
    (Op.equalIn 10000 34 (.agg #[.int .i64 t1, .int .i64 t2, .int .i64 t3, .int .i64 t4]) (.agg #[.int .i64 u1, .int .i64 u2, .int .i64 u3, .int .i64 u4])).run Try.prog w = .ok (t1 == u1 && (t2 == u2 && (t3 == u3 && t4 == u4))) w := by
  obtain ⟨i, hi⟩ := infoInt
  rw [show (10000 : Nat) = 9999 + 1 from rfl, run_equalIn_array w 9999 _ _ Try.underlying34 hi, cellsInt]
  have e : ∀ (a b : Int) (w : World), (Op.equalIn 9999 3 (.int .i64 a) (.int .i64 b)).run Try.prog w = .ok (a == b) w := fun a b w => run_equalIn_int w 9998 3 .i64 .i64 a b Try.underlying3
  have hr : List.range 4 = [0, 1, 2, 3] := rfl
  rw [hr]
  simp [Op.eqItems, go_sem, e]
  by_cases h1 : t1 = u1 <;> by_cases h2 : t2 = u2 <;> by_cases h3 : t3 = u3 <;> by_cases h4 : t4 = u4 <;> simp [h1, h2, h3, h4]
/-- Is one of the four patterns of crossing there? -/
theorem pat_iff {a b c d : Int} (ha : -1 ≤ a ∧ a ≤ 1) (hb : -1 ≤ b ∧ b ≤ 1) (hc : -1 ≤ c ∧ c ≤ 1) (hd : -1 ≤ d ∧ d ≤ 1) :
    (decide (a * b < 0) && decide (c * d < 0)) = true ↔ ((a = 1 ∧ b = -1) ∨ (a = -1 ∧ b = 1)) ∧ ((c = 1 ∧ d = -1) ∨ (c = -1 ∧ d = 1)) := by
  have k : ∀ x y : Int, (-1 ≤ x ∧ x ≤ 1) → (-1 ≤ y ∧ y ≤ 1) → (x * y < 0 ↔ (x = 1 ∧ y = -1) ∨ (x = -1 ∧ y = 1)) := by
    intro x y hx hy
    have e1 : x = -1 ∨ x = 0 ∨ x = 1 := by omega
    have e2 : y = -1 ∨ y = 0 ∨ y = 1 := by omega
    rcases e1 with rfl | rfl | rfl <;> rcases e2 with rfl | rfl | rfl <;> decide
  rw [Bool.and_eq_true, decide_eq_true_eq, decide_eq_true_eq, k a b ha hb, k c d hc hd]
theorem pat_no {a b c d : Int} (ha : -1 ≤ a ∧ a ≤ 1) (hb : -1 ≤ b ∧ b ≤ 1) (hc : -1 ≤ c ∧ c ≤ 1) (hd : -1 ≤ d ∧ d ≤ 1) (h : ¬ (decide (a * b < 0) && decide (c * d < 0)) = true) :
    (a == 1 && (b == -1 && (c == 1 && d == -1))) = false ∧ (a == 1 && (b == -1 && (c == -1 && d == 1))) = false ∧ (a == -1 && (b == 1 && (c == 1 && d == -1))) = false ∧ (a == -1 && (b == 1 && (c == -1 && d == 1))) = false := by
  rw [pat_iff ha hb hc hd] at h
  simp only [Bool.and_eq_false_iff, beq_eq_false_iff_ne, ne_eq]
  omega
theorem cross_cases (a b c d : Pt) :
    (crossB a b c d = true ∧ turn a b c = 1 ∧ turn a b d = -1 ∧ turn c d a = 1 ∧ turn c d b = -1) ∨ (crossB a b c d = true ∧ turn a b c = 1 ∧ turn a b d = -1 ∧ turn c d a = -1 ∧ turn c d b = 1) ∨
    (crossB a b c d = true ∧ turn a b c = -1 ∧ turn a b d = 1 ∧ turn c d a = 1 ∧ turn c d b = -1) ∨ (crossB a b c d = true ∧ turn a b c = -1 ∧ turn a b d = 1 ∧ turn c d a = -1 ∧ turn c d b = 1) ∨
    (crossB a b c d = false ∧ (turn a b c == 1 && (turn a b d == -1 && (turn c d a == 1 && turn c d b == -1))) = false ∧ (turn a b c == 1 && (turn a b d == -1 && (turn c d a == -1 && turn c d b == 1))) = false ∧
      (turn a b c == -1 && (turn a b d == 1 && (turn c d a == 1 && turn c d b == -1))) = false ∧ (turn a b c == -1 && (turn a b d == 1 && (turn c d a == -1 && turn c d b == 1))) = false) := by
  have b1 := turn_bd a b c; have b2 := turn_bd a b d; have b3 := turn_bd c d a; have b4 := turn_bd c d b
  have hi := pat_iff b1 b2 b3 b4
  cases h : crossB a b c d
  · right; right; right; right
    exact ⟨rfl, pat_no b1 b2 b3 b4 (by unfold crossB at h; rw [h]; decide)⟩
  · have := hi.1 h
    simp only [true_and]
    omega

set_option maxHeartbeats 8000000 in
set_option maxRecDepth 100000 in
theorem meets_no1 (ax ay bx bY cx cy dx dy : Int) (hm1 : may (ax, ay) (bx, bY) = false) (w : World) : Calls Try.prog 15 #[pv ax ay, pv bx bY, pv cx cy, pv dx dy] w fun e w' => e = .returned (.int .i64 (meets (ax, ay) (bx, bY) (cx, cy) (dx, dy))) ∧ Kp w w' := by
  have H : Hid (meets (ax, ay) (bx, bY) (cx, cy) (dx, dy) = 0) := Lib.hid (by simp [meets, hm1])
  go_enter Try.func15, Try.ntmps15
  go_wp2_with (go_at_call_of 42 (Value.agg #[Value.int .i64 ax, Value.int .i64 ay]); refine (may_any _ _ _ _ _).mono ?_; rintro e w1 ⟨rfl, hk⟩; have c0 : w1.cell? ⟨w.heap.size, 0, none⟩ = some (.int .i64 ax) := kp_cell hk (by simp [go_sem]); have c1 : w1.cell? ⟨w.heap.size, 1, none⟩ = some (.int .i64 ay) := kp_cell hk (by simp [go_sem]); have c2 : w1.cell? ⟨w.heap.size + 1, 0, none⟩ = some (.int .i64 bx) := kp_cell hk (by simp [go_sem]); have c3 : w1.cell? ⟨w.heap.size + 1, 1, none⟩ = some (.int .i64 bY) := kp_cell hk (by simp [go_sem]); have c4 : w1.cell? ⟨w.heap.size + 1 + 1, 0, none⟩ = some (.int .i64 cx) := kp_cell hk (by simp [go_sem]); have c5 : w1.cell? ⟨w.heap.size + 1 + 1, 1, none⟩ = some (.int .i64 cy) := kp_cell hk (by simp [go_sem]); have c6 : w1.cell? ⟨w.heap.size + 1 + 1 + 1, 0, none⟩ = some (.int .i64 dx) := kp_cell hk (by simp [go_sem]); have c7 : w1.cell? ⟨w.heap.size + 1 + 1 + 1, 1, none⟩ = some (.int .i64 dy) := kp_cell hk (by simp [go_sem]); have K : Kp w w1 := kp_trans (by repeat (first | exact kp_refl _ | apply kp_alloc | apply kp_drew)) hk; have l0 : w.heap.size < w1.heap.size := cell_lt c0; have l2 : w.heap.size + 1 < w1.heap.size := cell_lt c2; have l4 : w.heap.size + 1 + 1 < w1.heap.size := cell_lt c4; have l6 : w.heap.size + 1 + 1 + 1 < w1.heap.size := cell_lt c6; clear hk)
  go_ret
  exact ⟨ret_int H.out.symm, K⟩
set_option maxHeartbeats 8000000 in
set_option maxRecDepth 100000 in
theorem meets_no2 (ax ay bx bY cx cy dx dy : Int) (hm1 : may (ax, ay) (bx, bY) = true) (hm2 : may (cx, cy) (dx, dy) = false) (w : World) : Calls Try.prog 15 #[pv ax ay, pv bx bY, pv cx cy, pv dx dy] w fun e w' => e = .returned (.int .i64 (meets (ax, ay) (bx, bY) (cx, cy) (dx, dy))) ∧ Kp w w' := by
  have H : Hid (meets (ax, ay) (bx, bY) (cx, cy) (dx, dy) = 0) := Lib.hid (by simp [meets, hm2])
  go_enter Try.func15, Try.ntmps15
  go_wp2_with (first
    | (go_at_call_of 42 (Value.agg #[Value.int .i64 ax, Value.int .i64 ay]); refine (may_any _ _ _ _ _).mono ?_; rintro e w1 ⟨rfl, hk⟩; have c0 : w1.cell? ⟨w.heap.size, 0, none⟩ = some (.int .i64 ax) := kp_cell hk (by simp [go_sem]); have c1 : w1.cell? ⟨w.heap.size, 1, none⟩ = some (.int .i64 ay) := kp_cell hk (by simp [go_sem]); have c2 : w1.cell? ⟨w.heap.size + 1, 0, none⟩ = some (.int .i64 bx) := kp_cell hk (by simp [go_sem]); have c3 : w1.cell? ⟨w.heap.size + 1, 1, none⟩ = some (.int .i64 bY) := kp_cell hk (by simp [go_sem]); have c4 : w1.cell? ⟨w.heap.size + 1 + 1, 0, none⟩ = some (.int .i64 cx) := kp_cell hk (by simp [go_sem]); have c5 : w1.cell? ⟨w.heap.size + 1 + 1, 1, none⟩ = some (.int .i64 cy) := kp_cell hk (by simp [go_sem]); have c6 : w1.cell? ⟨w.heap.size + 1 + 1 + 1, 0, none⟩ = some (.int .i64 dx) := kp_cell hk (by simp [go_sem]); have c7 : w1.cell? ⟨w.heap.size + 1 + 1 + 1, 1, none⟩ = some (.int .i64 dy) := kp_cell hk (by simp [go_sem]); have K : Kp w w1 := kp_trans (by repeat (first | exact kp_refl _ | apply kp_alloc | apply kp_drew)) hk; have l0 : w.heap.size < w1.heap.size := cell_lt c0; have l2 : w.heap.size + 1 < w1.heap.size := cell_lt c2; have l4 : w.heap.size + 1 + 1 < w1.heap.size := cell_lt c4; have l6 : w.heap.size + 1 + 1 + 1 < w1.heap.size := cell_lt c6; clear hk)
    | (go_at_call_of 42 (Value.agg #[Value.int .i64 cx, Value.int .i64 cy]); refine (may_any _ _ _ _ _).mono ?_; rintro e w2 ⟨rfl, hk⟩; replace c0 : w2.cell? ⟨w.heap.size, 0, none⟩ = some (.int .i64 ax) := kp_cell hk (by first | exact c0 | exact cell_a c0 _ | exact cell_a (cell_a c0 _) _); replace c1 : w2.cell? ⟨w.heap.size, 1, none⟩ = some (.int .i64 ay) := kp_cell hk (by first | exact c1 | exact cell_a c1 _ | exact cell_a (cell_a c1 _) _); replace c2 : w2.cell? ⟨w.heap.size + 1, 0, none⟩ = some (.int .i64 bx) := kp_cell hk (by first | exact c2 | exact cell_a c2 _ | exact cell_a (cell_a c2 _) _); replace c3 : w2.cell? ⟨w.heap.size + 1, 1, none⟩ = some (.int .i64 bY) := kp_cell hk (by first | exact c3 | exact cell_a c3 _ | exact cell_a (cell_a c3 _) _); replace c4 : w2.cell? ⟨w.heap.size + 1 + 1, 0, none⟩ = some (.int .i64 cx) := kp_cell hk (by first | exact c4 | exact cell_a c4 _ | exact cell_a (cell_a c4 _) _); replace c5 : w2.cell? ⟨w.heap.size + 1 + 1, 1, none⟩ = some (.int .i64 cy) := kp_cell hk (by first | exact c5 | exact cell_a c5 _ | exact cell_a (cell_a c5 _) _); replace c6 : w2.cell? ⟨w.heap.size + 1 + 1 + 1, 0, none⟩ = some (.int .i64 dx) := kp_cell hk (by first | exact c6 | exact cell_a c6 _ | exact cell_a (cell_a c6 _) _); replace c7 : w2.cell? ⟨w.heap.size + 1 + 1 + 1, 1, none⟩ = some (.int .i64 dy) := kp_cell hk (by first | exact c7 | exact cell_a c7 _ | exact cell_a (cell_a c7 _) _); replace K : Kp w w2 := kp_trans (by first | exact K | exact kp_drew K | exact kp_alloc K _ | exact kp_alloc (kp_drew K) _ | exact kp_alloc (kp_alloc K _) _ | exact kp_alloc (kp_alloc (kp_drew K) _) _) hk; replace l0 : w.heap.size < w2.heap.size := cell_lt c0; replace l2 : w.heap.size + 1 < w2.heap.size := cell_lt c2; replace l4 : w.heap.size + 1 + 1 < w2.heap.size := cell_lt c4; replace l6 : w.heap.size + 1 + 1 + 1 < w2.heap.size := cell_lt c6; clear hk))
  go_ret
  exact ⟨ret_int H.out.symm, K⟩
set_option maxHeartbeats 8000000 in
set_option maxRecDepth 100000 in
theorem meets_some (ax ay bx bY cx cy dx dy : Int) (hm1 : may (ax, ay) (bx, bY) = true) (hm2 : may (cx, cy) (dx, dy) = true) (hn : (ends (ax, ay) (bx, bY) (cx, cy) (dx, dy)).length ≠ 0) (w : World) : Calls Try.prog 15 #[pv ax ay, pv bx bY, pv cx cy, pv dx dy] w fun e w' => e = .returned (.int .i64 (meets (ax, ay) (bx, bY) (cx, cy) (dx, dy))) ∧ Kp w w' := by
  obtain ⟨n, hN⟩ : ∃ n, (ends (ax, ay) (bx, bY) (cx, cy) (dx, dy)).length = n := ⟨_, rfl⟩
  have H : Hid (meets (ax, ay) (bx, bY) (cx, cy) (dx, dy) = if n = 1 then 1 else 3) := Lib.hid (by rw [meets_of_len hm1 hm2 n hN, if_neg (by rw [← hN]; exact hn)])
  have hz : ((n : Int) == 0) = false := by rw [← hN]; simp; exact fun h => hn (by rw [h]; rfl)
  have HE := Lib.hid (fun W => ends_len_any ax ay bx bY cx cy dx dy W)
  rw [hN] at HE
  clear hn hN
  by_cases h1 : n = 1
  · subst h1
    go_enter Try.func15, Try.ntmps15
    go_wp2_with (first
      | (go_at_call_of 42 (Value.agg #[Value.int .i64 ax, Value.int .i64 ay]); refine (may_any _ _ _ _ _).mono ?_; rintro e w1 ⟨rfl, hk⟩; have c0 : w1.cell? ⟨w.heap.size, 0, none⟩ = some (.int .i64 ax) := kp_cell hk (by simp [go_sem]); have c1 : w1.cell? ⟨w.heap.size, 1, none⟩ = some (.int .i64 ay) := kp_cell hk (by simp [go_sem]); have c2 : w1.cell? ⟨w.heap.size + 1, 0, none⟩ = some (.int .i64 bx) := kp_cell hk (by simp [go_sem]); have c3 : w1.cell? ⟨w.heap.size + 1, 1, none⟩ = some (.int .i64 bY) := kp_cell hk (by simp [go_sem]); have c4 : w1.cell? ⟨w.heap.size + 1 + 1, 0, none⟩ = some (.int .i64 cx) := kp_cell hk (by simp [go_sem]); have c5 : w1.cell? ⟨w.heap.size + 1 + 1, 1, none⟩ = some (.int .i64 cy) := kp_cell hk (by simp [go_sem]); have c6 : w1.cell? ⟨w.heap.size + 1 + 1 + 1, 0, none⟩ = some (.int .i64 dx) := kp_cell hk (by simp [go_sem]); have c7 : w1.cell? ⟨w.heap.size + 1 + 1 + 1, 1, none⟩ = some (.int .i64 dy) := kp_cell hk (by simp [go_sem]); have K : Kp w w1 := kp_trans (by repeat (first | exact kp_refl _ | apply kp_alloc | apply kp_drew)) hk; have l0 : w.heap.size < w1.heap.size := cell_lt c0; have l2 : w.heap.size + 1 < w1.heap.size := cell_lt c2; have l4 : w.heap.size + 1 + 1 < w1.heap.size := cell_lt c4; have l6 : w.heap.size + 1 + 1 + 1 < w1.heap.size := cell_lt c6; clear hk)
      | (go_at_call_of 42 (Value.agg #[Value.int .i64 cx, Value.int .i64 cy]); refine (may_any _ _ _ _ _).mono ?_; rintro e w2 ⟨rfl, hk⟩; replace c0 : w2.cell? ⟨w.heap.size, 0, none⟩ = some (.int .i64 ax) := kp_cell hk (by first | exact c0 | exact cell_a c0 _ | exact cell_a (cell_a c0 _) _); replace c1 : w2.cell? ⟨w.heap.size, 1, none⟩ = some (.int .i64 ay) := kp_cell hk (by first | exact c1 | exact cell_a c1 _ | exact cell_a (cell_a c1 _) _); replace c2 : w2.cell? ⟨w.heap.size + 1, 0, none⟩ = some (.int .i64 bx) := kp_cell hk (by first | exact c2 | exact cell_a c2 _ | exact cell_a (cell_a c2 _) _); replace c3 : w2.cell? ⟨w.heap.size + 1, 1, none⟩ = some (.int .i64 bY) := kp_cell hk (by first | exact c3 | exact cell_a c3 _ | exact cell_a (cell_a c3 _) _); replace c4 : w2.cell? ⟨w.heap.size + 1 + 1, 0, none⟩ = some (.int .i64 cx) := kp_cell hk (by first | exact c4 | exact cell_a c4 _ | exact cell_a (cell_a c4 _) _); replace c5 : w2.cell? ⟨w.heap.size + 1 + 1, 1, none⟩ = some (.int .i64 cy) := kp_cell hk (by first | exact c5 | exact cell_a c5 _ | exact cell_a (cell_a c5 _) _); replace c6 : w2.cell? ⟨w.heap.size + 1 + 1 + 1, 0, none⟩ = some (.int .i64 dx) := kp_cell hk (by first | exact c6 | exact cell_a c6 _ | exact cell_a (cell_a c6 _) _); replace c7 : w2.cell? ⟨w.heap.size + 1 + 1 + 1, 1, none⟩ = some (.int .i64 dy) := kp_cell hk (by first | exact c7 | exact cell_a c7 _ | exact cell_a (cell_a c7 _) _); replace K : Kp w w2 := kp_trans (by first | exact K | exact kp_drew K | exact kp_alloc K _ | exact kp_alloc (kp_drew K) _ | exact kp_alloc (kp_alloc K _) _ | exact kp_alloc (kp_alloc (kp_drew K) _) _) hk; replace l0 : w.heap.size < w2.heap.size := cell_lt c0; replace l2 : w.heap.size + 1 < w2.heap.size := cell_lt c2; replace l4 : w.heap.size + 1 + 1 < w2.heap.size := cell_lt c4; replace l6 : w.heap.size + 1 + 1 + 1 < w2.heap.size := cell_lt c6; clear hk)
      | (go_at_call 43; refine (HE.out _).mono ?_; rintro e w3 ⟨sa, sc, rfl, hk⟩; replace c0 : w3.cell? ⟨w.heap.size, 0, none⟩ = some (.int .i64 ax) := kp_cell hk (by first | exact c0 | exact cell_a c0 _ | exact cell_a (cell_a c0 _) _); replace c1 : w3.cell? ⟨w.heap.size, 1, none⟩ = some (.int .i64 ay) := kp_cell hk (by first | exact c1 | exact cell_a c1 _ | exact cell_a (cell_a c1 _) _); replace c2 : w3.cell? ⟨w.heap.size + 1, 0, none⟩ = some (.int .i64 bx) := kp_cell hk (by first | exact c2 | exact cell_a c2 _ | exact cell_a (cell_a c2 _) _); replace c3 : w3.cell? ⟨w.heap.size + 1, 1, none⟩ = some (.int .i64 bY) := kp_cell hk (by first | exact c3 | exact cell_a c3 _ | exact cell_a (cell_a c3 _) _); replace c4 : w3.cell? ⟨w.heap.size + 1 + 1, 0, none⟩ = some (.int .i64 cx) := kp_cell hk (by first | exact c4 | exact cell_a c4 _ | exact cell_a (cell_a c4 _) _); replace c5 : w3.cell? ⟨w.heap.size + 1 + 1, 1, none⟩ = some (.int .i64 cy) := kp_cell hk (by first | exact c5 | exact cell_a c5 _ | exact cell_a (cell_a c5 _) _); replace c6 : w3.cell? ⟨w.heap.size + 1 + 1 + 1, 0, none⟩ = some (.int .i64 dx) := kp_cell hk (by first | exact c6 | exact cell_a c6 _ | exact cell_a (cell_a c6 _) _); replace c7 : w3.cell? ⟨w.heap.size + 1 + 1 + 1, 1, none⟩ = some (.int .i64 dy) := kp_cell hk (by first | exact c7 | exact cell_a c7 _ | exact cell_a (cell_a c7 _) _); replace K : Kp w w3 := kp_trans (by first | exact K | exact kp_drew K | exact kp_alloc K _ | exact kp_alloc (kp_drew K) _ | exact kp_alloc (kp_alloc K _) _ | exact kp_alloc (kp_alloc (kp_drew K) _) _) hk; replace l0 : w.heap.size < w3.heap.size := cell_lt c0; replace l2 : w.heap.size + 1 < w3.heap.size := cell_lt c2; replace l4 : w.heap.size + 1 + 1 < w3.heap.size := cell_lt c4; replace l6 : w.heap.size + 1 + 1 + 1 < w3.heap.size := cell_lt c6; clear hk))
    go_ret
    exact ⟨ret_int (by rw [H.out]; rfl), K⟩
  · have h1' : ((n : Int) == 1) = false := by simp; omega
    have H1 := Lib.hid h1
    clear h1
    go_enter Try.func15, Try.ntmps15
    go_wp2_with (first
      | (go_at_call_of 42 (Value.agg #[Value.int .i64 ax, Value.int .i64 ay]); refine (may_any _ _ _ _ _).mono ?_; rintro e w1 ⟨rfl, hk⟩; have c0 : w1.cell? ⟨w.heap.size, 0, none⟩ = some (.int .i64 ax) := kp_cell hk (by simp [go_sem]); have c1 : w1.cell? ⟨w.heap.size, 1, none⟩ = some (.int .i64 ay) := kp_cell hk (by simp [go_sem]); have c2 : w1.cell? ⟨w.heap.size + 1, 0, none⟩ = some (.int .i64 bx) := kp_cell hk (by simp [go_sem]); have c3 : w1.cell? ⟨w.heap.size + 1, 1, none⟩ = some (.int .i64 bY) := kp_cell hk (by simp [go_sem]); have c4 : w1.cell? ⟨w.heap.size + 1 + 1, 0, none⟩ = some (.int .i64 cx) := kp_cell hk (by simp [go_sem]); have c5 : w1.cell? ⟨w.heap.size + 1 + 1, 1, none⟩ = some (.int .i64 cy) := kp_cell hk (by simp [go_sem]); have c6 : w1.cell? ⟨w.heap.size + 1 + 1 + 1, 0, none⟩ = some (.int .i64 dx) := kp_cell hk (by simp [go_sem]); have c7 : w1.cell? ⟨w.heap.size + 1 + 1 + 1, 1, none⟩ = some (.int .i64 dy) := kp_cell hk (by simp [go_sem]); have K : Kp w w1 := kp_trans (by repeat (first | exact kp_refl _ | apply kp_alloc | apply kp_drew)) hk; have l0 : w.heap.size < w1.heap.size := cell_lt c0; have l2 : w.heap.size + 1 < w1.heap.size := cell_lt c2; have l4 : w.heap.size + 1 + 1 < w1.heap.size := cell_lt c4; have l6 : w.heap.size + 1 + 1 + 1 < w1.heap.size := cell_lt c6; clear hk)
      | (go_at_call_of 42 (Value.agg #[Value.int .i64 cx, Value.int .i64 cy]); refine (may_any _ _ _ _ _).mono ?_; rintro e w2 ⟨rfl, hk⟩; replace c0 : w2.cell? ⟨w.heap.size, 0, none⟩ = some (.int .i64 ax) := kp_cell hk (by first | exact c0 | exact cell_a c0 _ | exact cell_a (cell_a c0 _) _); replace c1 : w2.cell? ⟨w.heap.size, 1, none⟩ = some (.int .i64 ay) := kp_cell hk (by first | exact c1 | exact cell_a c1 _ | exact cell_a (cell_a c1 _) _); replace c2 : w2.cell? ⟨w.heap.size + 1, 0, none⟩ = some (.int .i64 bx) := kp_cell hk (by first | exact c2 | exact cell_a c2 _ | exact cell_a (cell_a c2 _) _); replace c3 : w2.cell? ⟨w.heap.size + 1, 1, none⟩ = some (.int .i64 bY) := kp_cell hk (by first | exact c3 | exact cell_a c3 _ | exact cell_a (cell_a c3 _) _); replace c4 : w2.cell? ⟨w.heap.size + 1 + 1, 0, none⟩ = some (.int .i64 cx) := kp_cell hk (by first | exact c4 | exact cell_a c4 _ | exact cell_a (cell_a c4 _) _); replace c5 : w2.cell? ⟨w.heap.size + 1 + 1, 1, none⟩ = some (.int .i64 cy) := kp_cell hk (by first | exact c5 | exact cell_a c5 _ | exact cell_a (cell_a c5 _) _); replace c6 : w2.cell? ⟨w.heap.size + 1 + 1 + 1, 0, none⟩ = some (.int .i64 dx) := kp_cell hk (by first | exact c6 | exact cell_a c6 _ | exact cell_a (cell_a c6 _) _); replace c7 : w2.cell? ⟨w.heap.size + 1 + 1 + 1, 1, none⟩ = some (.int .i64 dy) := kp_cell hk (by first | exact c7 | exact cell_a c7 _ | exact cell_a (cell_a c7 _) _); replace K : Kp w w2 := kp_trans (by first | exact K | exact kp_drew K | exact kp_alloc K _ | exact kp_alloc (kp_drew K) _ | exact kp_alloc (kp_alloc K _) _ | exact kp_alloc (kp_alloc (kp_drew K) _) _) hk; replace l0 : w.heap.size < w2.heap.size := cell_lt c0; replace l2 : w.heap.size + 1 < w2.heap.size := cell_lt c2; replace l4 : w.heap.size + 1 + 1 < w2.heap.size := cell_lt c4; replace l6 : w.heap.size + 1 + 1 + 1 < w2.heap.size := cell_lt c6; clear hk)
      | (go_at_call 43; refine (HE.out _).mono ?_; rintro e w3 ⟨sa, sc, rfl, hk⟩; replace c0 : w3.cell? ⟨w.heap.size, 0, none⟩ = some (.int .i64 ax) := kp_cell hk (by first | exact c0 | exact cell_a c0 _ | exact cell_a (cell_a c0 _) _); replace c1 : w3.cell? ⟨w.heap.size, 1, none⟩ = some (.int .i64 ay) := kp_cell hk (by first | exact c1 | exact cell_a c1 _ | exact cell_a (cell_a c1 _) _); replace c2 : w3.cell? ⟨w.heap.size + 1, 0, none⟩ = some (.int .i64 bx) := kp_cell hk (by first | exact c2 | exact cell_a c2 _ | exact cell_a (cell_a c2 _) _); replace c3 : w3.cell? ⟨w.heap.size + 1, 1, none⟩ = some (.int .i64 bY) := kp_cell hk (by first | exact c3 | exact cell_a c3 _ | exact cell_a (cell_a c3 _) _); replace c4 : w3.cell? ⟨w.heap.size + 1 + 1, 0, none⟩ = some (.int .i64 cx) := kp_cell hk (by first | exact c4 | exact cell_a c4 _ | exact cell_a (cell_a c4 _) _); replace c5 : w3.cell? ⟨w.heap.size + 1 + 1, 1, none⟩ = some (.int .i64 cy) := kp_cell hk (by first | exact c5 | exact cell_a c5 _ | exact cell_a (cell_a c5 _) _); replace c6 : w3.cell? ⟨w.heap.size + 1 + 1 + 1, 0, none⟩ = some (.int .i64 dx) := kp_cell hk (by first | exact c6 | exact cell_a c6 _ | exact cell_a (cell_a c6 _) _); replace c7 : w3.cell? ⟨w.heap.size + 1 + 1 + 1, 1, none⟩ = some (.int .i64 dy) := kp_cell hk (by first | exact c7 | exact cell_a c7 _ | exact cell_a (cell_a c7 _) _); replace K : Kp w w3 := kp_trans (by first | exact K | exact kp_drew K | exact kp_alloc K _ | exact kp_alloc (kp_drew K) _ | exact kp_alloc (kp_alloc K _) _ | exact kp_alloc (kp_alloc (kp_drew K) _) _) hk; replace l0 : w.heap.size < w3.heap.size := cell_lt c0; replace l2 : w.heap.size + 1 < w3.heap.size := cell_lt c2; replace l4 : w.heap.size + 1 + 1 < w3.heap.size := cell_lt c4; replace l6 : w.heap.size + 1 + 1 + 1 < w3.heap.size := cell_lt c6; clear hk))
    go_ret
    exact ⟨ret_int (by rw [H.out, if_neg H1.out]), K⟩
set_option maxHeartbeats 8000000 in
set_option maxRecDepth 100000 in
theorem meets_none (ax ay bx bY cx cy dx dy : Int) (hm1 : may (ax, ay) (bx, bY) = true) (hm2 : may (cx, cy) (dx, dy) = true) (hn : (ends (ax, ay) (bx, bY) (cx, cy) (dx, dy)).length = 0) (w : World) : Calls Try.prog 15 #[pv ax ay, pv bx bY, pv cx cy, pv dx dy] w fun e w' => e = .returned (.int .i64 (meets (ax, ay) (bx, bY) (cx, cy) (dx, dy))) ∧ Kp w w' := by
  have H : Hid (meets (ax, ay) (bx, bY) (cx, cy) (dx, dy) = if crossB (ax, ay) (bx, bY) (cx, cy) (dx, dy) then 2 else 0) := Lib.hid (by rw [meets_of_len hm1 hm2 0 hn]; rfl)
  have HE := Lib.hid (fun W => ends_len_any ax ay bx bY cx cy dx dy W)
  rw [hn] at HE
  clear hn
  have hp := cross_cases (ax, ay) (bx, bY) (cx, cy) (dx, dy)
  obtain ⟨T1, e1⟩ : ∃ T, turn (ax, ay) (bx, bY) (cx, cy) = T := ⟨_, rfl⟩
  obtain ⟨T2, e2⟩ : ∃ T, turn (ax, ay) (bx, bY) (dx, dy) = T := ⟨_, rfl⟩
  obtain ⟨T3, e3⟩ : ∃ T, turn (cx, cy) (dx, dy) (ax, ay) = T := ⟨_, rfl⟩
  obtain ⟨T4, e4⟩ : ∃ T, turn (cx, cy) (dx, dy) (bx, bY) = T := ⟨_, rfl⟩
  rw [e1, e2, e3, e4] at hp
  go_enter Try.func15, Try.ntmps15
  go_upto_region 8 with (first
    | (go_at_call_of 42 (Value.agg #[Value.int .i64 ax, Value.int .i64 ay]); refine (may_any _ _ _ _ _).mono ?_; rintro e w1 ⟨rfl, hk⟩; have c0 : w1.cell? ⟨w.heap.size, 0, none⟩ = some (.int .i64 ax) := kp_cell hk (by simp [go_sem]); have c1 : w1.cell? ⟨w.heap.size, 1, none⟩ = some (.int .i64 ay) := kp_cell hk (by simp [go_sem]); have c2 : w1.cell? ⟨w.heap.size + 1, 0, none⟩ = some (.int .i64 bx) := kp_cell hk (by simp [go_sem]); have c3 : w1.cell? ⟨w.heap.size + 1, 1, none⟩ = some (.int .i64 bY) := kp_cell hk (by simp [go_sem]); have c4 : w1.cell? ⟨w.heap.size + 1 + 1, 0, none⟩ = some (.int .i64 cx) := kp_cell hk (by simp [go_sem]); have c5 : w1.cell? ⟨w.heap.size + 1 + 1, 1, none⟩ = some (.int .i64 cy) := kp_cell hk (by simp [go_sem]); have c6 : w1.cell? ⟨w.heap.size + 1 + 1 + 1, 0, none⟩ = some (.int .i64 dx) := kp_cell hk (by simp [go_sem]); have c7 : w1.cell? ⟨w.heap.size + 1 + 1 + 1, 1, none⟩ = some (.int .i64 dy) := kp_cell hk (by simp [go_sem]); have K : Kp w w1 := kp_trans (by repeat (first | exact kp_refl _ | apply kp_alloc | apply kp_drew)) hk; have l0 : w.heap.size < w1.heap.size := cell_lt c0; have l2 : w.heap.size + 1 < w1.heap.size := cell_lt c2; have l4 : w.heap.size + 1 + 1 < w1.heap.size := cell_lt c4; have l6 : w.heap.size + 1 + 1 + 1 < w1.heap.size := cell_lt c6; clear hk)
    | (go_at_call_of 42 (Value.agg #[Value.int .i64 cx, Value.int .i64 cy]); refine (may_any _ _ _ _ _).mono ?_; rintro e w2 ⟨rfl, hk⟩; replace c0 : w2.cell? ⟨w.heap.size, 0, none⟩ = some (.int .i64 ax) := kp_cell hk (by first | exact c0 | exact cell_a c0 _ | exact cell_a (cell_a c0 _) _); replace c1 : w2.cell? ⟨w.heap.size, 1, none⟩ = some (.int .i64 ay) := kp_cell hk (by first | exact c1 | exact cell_a c1 _ | exact cell_a (cell_a c1 _) _); replace c2 : w2.cell? ⟨w.heap.size + 1, 0, none⟩ = some (.int .i64 bx) := kp_cell hk (by first | exact c2 | exact cell_a c2 _ | exact cell_a (cell_a c2 _) _); replace c3 : w2.cell? ⟨w.heap.size + 1, 1, none⟩ = some (.int .i64 bY) := kp_cell hk (by first | exact c3 | exact cell_a c3 _ | exact cell_a (cell_a c3 _) _); replace c4 : w2.cell? ⟨w.heap.size + 1 + 1, 0, none⟩ = some (.int .i64 cx) := kp_cell hk (by first | exact c4 | exact cell_a c4 _ | exact cell_a (cell_a c4 _) _); replace c5 : w2.cell? ⟨w.heap.size + 1 + 1, 1, none⟩ = some (.int .i64 cy) := kp_cell hk (by first | exact c5 | exact cell_a c5 _ | exact cell_a (cell_a c5 _) _); replace c6 : w2.cell? ⟨w.heap.size + 1 + 1 + 1, 0, none⟩ = some (.int .i64 dx) := kp_cell hk (by first | exact c6 | exact cell_a c6 _ | exact cell_a (cell_a c6 _) _); replace c7 : w2.cell? ⟨w.heap.size + 1 + 1 + 1, 1, none⟩ = some (.int .i64 dy) := kp_cell hk (by first | exact c7 | exact cell_a c7 _ | exact cell_a (cell_a c7 _) _); replace K : Kp w w2 := kp_trans (by first | exact K | exact kp_drew K | exact kp_alloc K _ | exact kp_alloc (kp_drew K) _ | exact kp_alloc (kp_alloc K _) _ | exact kp_alloc (kp_alloc (kp_drew K) _) _) hk; replace l0 : w.heap.size < w2.heap.size := cell_lt c0; replace l2 : w.heap.size + 1 < w2.heap.size := cell_lt c2; replace l4 : w.heap.size + 1 + 1 < w2.heap.size := cell_lt c4; replace l6 : w.heap.size + 1 + 1 + 1 < w2.heap.size := cell_lt c6; clear hk)
    | (go_at_call 43; refine (HE.out _).mono ?_; rintro e w3 ⟨sa, sc, rfl, hk⟩; replace c0 : w3.cell? ⟨w.heap.size, 0, none⟩ = some (.int .i64 ax) := kp_cell hk (by first | exact c0 | exact cell_a c0 _ | exact cell_a (cell_a c0 _) _); replace c1 : w3.cell? ⟨w.heap.size, 1, none⟩ = some (.int .i64 ay) := kp_cell hk (by first | exact c1 | exact cell_a c1 _ | exact cell_a (cell_a c1 _) _); replace c2 : w3.cell? ⟨w.heap.size + 1, 0, none⟩ = some (.int .i64 bx) := kp_cell hk (by first | exact c2 | exact cell_a c2 _ | exact cell_a (cell_a c2 _) _); replace c3 : w3.cell? ⟨w.heap.size + 1, 1, none⟩ = some (.int .i64 bY) := kp_cell hk (by first | exact c3 | exact cell_a c3 _ | exact cell_a (cell_a c3 _) _); replace c4 : w3.cell? ⟨w.heap.size + 1 + 1, 0, none⟩ = some (.int .i64 cx) := kp_cell hk (by first | exact c4 | exact cell_a c4 _ | exact cell_a (cell_a c4 _) _); replace c5 : w3.cell? ⟨w.heap.size + 1 + 1, 1, none⟩ = some (.int .i64 cy) := kp_cell hk (by first | exact c5 | exact cell_a c5 _ | exact cell_a (cell_a c5 _) _); replace c6 : w3.cell? ⟨w.heap.size + 1 + 1 + 1, 0, none⟩ = some (.int .i64 dx) := kp_cell hk (by first | exact c6 | exact cell_a c6 _ | exact cell_a (cell_a c6 _) _); replace c7 : w3.cell? ⟨w.heap.size + 1 + 1 + 1, 1, none⟩ = some (.int .i64 dy) := kp_cell hk (by first | exact c7 | exact cell_a c7 _ | exact cell_a (cell_a c7 _) _); replace K : Kp w w3 := kp_trans (by first | exact K | exact kp_drew K | exact kp_alloc K _ | exact kp_alloc (kp_drew K) _ | exact kp_alloc (kp_alloc K _) _ | exact kp_alloc (kp_alloc (kp_drew K) _) _) hk; replace l0 : w.heap.size < w3.heap.size := cell_lt c0; replace l2 : w.heap.size + 1 < w3.heap.size := cell_lt c2; replace l4 : w.heap.size + 1 + 1 < w3.heap.size := cell_lt c4; replace l6 : w.heap.size + 1 + 1 + 1 < w3.heap.size := cell_lt c6; clear hk))
  go_region_held3 (fun w' => Kp w w' ∧ w'.cell? ⟨w.heap.size, 0, none⟩ = some (.int .i64 ax) ∧ w'.cell? ⟨w.heap.size, 1, none⟩ = some (.int .i64 ay) ∧ w'.cell? ⟨w.heap.size + 1, 0, none⟩ = some (.int .i64 bx) ∧ w'.cell? ⟨w.heap.size + 1, 1, none⟩ = some (.int .i64 bY) ∧ w'.cell? ⟨w.heap.size + 1 + 1, 0, none⟩ = some (.int .i64 cx) ∧ w'.cell? ⟨w.heap.size + 1 + 1, 1, none⟩ = some (.int .i64 cy) ∧ w'.cell? ⟨w.heap.size + 1 + 1 + 1, 0, none⟩ = some (.int .i64 dx) ∧ w'.cell? ⟨w.heap.size + 1 + 1 + 1, 1, none⟩ = some (.int .i64 dy)) ((first | exact ⟨K, c0, c1, c2, c3, c4, c5, c6, c7⟩ | exact ⟨kp_drew K, c0, c1, c2, c3, c4, c5, c6, c7⟩))
    (first
      | (go_at_call 44; refine (turn_any _ _ _ _ _ _ _).mono ?_; rintro e w4 ⟨rfl, hk⟩; replace c0 : w4.cell? ⟨w.heap.size, 0, none⟩ = some (.int .i64 ax) := kp_cell hk (by first | exact c0 | exact cell_a c0 _ | exact cell_a (cell_a c0 _) _); replace c1 : w4.cell? ⟨w.heap.size, 1, none⟩ = some (.int .i64 ay) := kp_cell hk (by first | exact c1 | exact cell_a c1 _ | exact cell_a (cell_a c1 _) _); replace c2 : w4.cell? ⟨w.heap.size + 1, 0, none⟩ = some (.int .i64 bx) := kp_cell hk (by first | exact c2 | exact cell_a c2 _ | exact cell_a (cell_a c2 _) _); replace c3 : w4.cell? ⟨w.heap.size + 1, 1, none⟩ = some (.int .i64 bY) := kp_cell hk (by first | exact c3 | exact cell_a c3 _ | exact cell_a (cell_a c3 _) _); replace c4 : w4.cell? ⟨w.heap.size + 1 + 1, 0, none⟩ = some (.int .i64 cx) := kp_cell hk (by first | exact c4 | exact cell_a c4 _ | exact cell_a (cell_a c4 _) _); replace c5 : w4.cell? ⟨w.heap.size + 1 + 1, 1, none⟩ = some (.int .i64 cy) := kp_cell hk (by first | exact c5 | exact cell_a c5 _ | exact cell_a (cell_a c5 _) _); replace c6 : w4.cell? ⟨w.heap.size + 1 + 1 + 1, 0, none⟩ = some (.int .i64 dx) := kp_cell hk (by first | exact c6 | exact cell_a c6 _ | exact cell_a (cell_a c6 _) _); replace c7 : w4.cell? ⟨w.heap.size + 1 + 1 + 1, 1, none⟩ = some (.int .i64 dy) := kp_cell hk (by first | exact c7 | exact cell_a c7 _ | exact cell_a (cell_a c7 _) _); replace K : Kp w w4 := kp_trans (by first | exact K | exact kp_drew K | exact kp_alloc K _ | exact kp_alloc (kp_drew K) _ | exact kp_alloc (kp_alloc K _) _ | exact kp_alloc (kp_alloc (kp_drew K) _) _) hk; replace l0 : w.heap.size < w4.heap.size := cell_lt c0; replace l2 : w.heap.size + 1 < w4.heap.size := cell_lt c2; replace l4 : w.heap.size + 1 + 1 < w4.heap.size := cell_lt c4; replace l6 : w.heap.size + 1 + 1 + 1 < w4.heap.size := cell_lt c6; clear hk))
  rcases hp with ⟨hX, h1, h2, h3, h4⟩ | ⟨hX, h1, h2, h3, h4⟩ | ⟨hX, h1, h2, h3, h4⟩ | ⟨hX, h1, h2, h3, h4⟩ | ⟨hX, h1, h2, h3, h4⟩
  · have HX := Lib.hid hX
    clear hX
    have he := run_eq4
    go_wp2_with fail
    go_ret
    exact ⟨ret_int (by rw [H.out, HX.out]; rfl), K⟩
  · have HX := Lib.hid hX
    clear hX
    have he := run_eq4
    go_wp2_with fail
    go_ret
    exact ⟨ret_int (by rw [H.out, HX.out]; rfl), K⟩
  · have HX := Lib.hid hX
    clear hX
    have he := run_eq4
    go_wp2_with fail
    go_ret
    exact ⟨ret_int (by rw [H.out, HX.out]; rfl), K⟩
  · have HX := Lib.hid hX
    clear hX
    have he := run_eq4
    go_wp2_with fail
    go_ret
    exact ⟨ret_int (by rw [H.out, HX.out]; rfl), K⟩
  · have HX := Lib.hid hX
    clear hX
    have he := run_eq4
    go_wp2_with fail
    go_ret
    exact ⟨ret_int (by rw [H.out, HX.out]; rfl), K⟩

theorem meets_any (ax ay bx bY cx cy dx dy : Int) (w : World) : Calls Try.prog 15 #[pv ax ay, pv bx bY, pv cx cy, pv dx dy] w fun e w' => e = .returned (.int .i64 (meets (ax, ay) (bx, bY) (cx, cy) (dx, dy))) ∧ Kp w w' := by
  cases hm1 : may (ax, ay) (bx, bY)
  · exact meets_no1 ax ay bx bY cx cy dx dy hm1 w
  · cases hm2 : may (cx, cy) (dx, dy)
    · exact meets_no2 ax ay bx bY cx cy dx dy hm1 hm2 w
    · by_cases hn : (ends (ax, ay) (bx, bY) (cx, cy) (dx, dy)).length = 0
      · exact meets_none ax ay bx bY cx cy dx dy hm1 hm2 hn w
      · exact meets_some ax ay bx bY cx cy dx dy hm1 hm2 hn w
end Go.Proofs.Ytcpbemoiodbliaa
