/- Contracts: slices.Clone, slices.Reverse of points; ring.Turned. -/
import Derived.Test.YtcpbemoiodbliaaMW
import Derived.Laws.AppendOwnNone
import Derived.RegionTactic
import Derived.ChangeAlike
import Derived.WalkSpells
import Derived.BigRegion
namespace Go.Proofs.Ytcpbemoiodbliaa
open Go.RowKit Go.Proofs.Geo

theorem OwnP.none_lit (w : World) : OwnP (w.alloc (.cells #[] 25)) w.heap.size (.slice (some ⟨w.heap.size, 0, none⟩) 0 0) [] := OwnP.lit w [] #[] rfl (by simp)

set_option maxHeartbeats 4000000 in
theorem clone_any (v : Value) (l : List Pt) (w : World) (h : RdC w v l) (hl : l.length ≤ 10000) :
    Calls Try.prog 49 #[v] w (OwnEnd w l) := by
  obtain ⟨i0, hi, hz0, hz1, hz2⟩ := info_parts infoPt
  have HI := Lib.hid hi
  have HZ0 := Lib.hid hz0
  have HZ1 := Lib.hid hz1
  have HZ2 := Lib.hid hz2
  have HN := Lib.hid hl
  clear hi hz0 hz1 hz2 hl
  obtain ⟨_, ⟨rfl, rfl⟩ | ⟨ad, cap, rfl, h⟩⟩ := h
  · have hq := Lib.run_eql_slice_nil (P := Try.prog) w 23 25 none 0 0 0 0 Try.underlying23
    go_enter Try.func49, Try.ntmps49
    go_wp2
    go_ret
    exact ⟨_, rfl, OwnP.nil _ _, kp_refl _⟩
  · have H := Lib.hid h
    clear h
    have hq := Lib.run_eql_slice_nil (P := Try.prog) w 23 25 (some ad) l.length cap 0 0 Try.underlying23
    go_enter Try.func49, Try.ntmps49
    go_wp2_with (at_builtin; refine wpList_append_own _ rfl (.tmp 5) (.tmp 6) 23 rfl w.heap.size 25 i0 (.agg #[.int .i64 0, .int .i64 0]) 2 16 Try.underlying23 HI.out HZ0.out HZ1.out HZ2.out rfl (by decide) _ _ _ rfl (OwnP.none_lit w) ad _ _ (flat l) rfl (flat_len _) (fun j u hj => kp_cell (kp_alloc (kp_refl _) _) (H.out j u hj)) (flat_one _) (by have := HN.out; unfold maxLen; (try simp) <;> omega) (by have := HN.out; (try simp) <;> omega) (by simp) ?_; intro v1 w1 hown hg _; have HO : Hid (OwnP w1 w.heap.size v1 ([] ++ l)) := Lib.hid (OwnP.append hown); have K1 : Hid (Kp w w1) := Lib.hid (kp_of_grown (kp_alloc (kp_refl _) _) hg (OwnP.none_lit w)); clear hown hg)
    go_ret
    exact ⟨_, rfl, HO.out, K1.out⟩

/-- The list with its first k and its last k changed round. -/
def revK (l : List Pt) (k : Nat) : List Pt := (List.range l.length).map fun i => if i < k ∨ l.length - k ≤ i then (l[l.length - 1 - i]?).getD (0, 0) else (l[i]?).getD (0, 0)
theorem revK_len (l : List Pt) (k : Nat) : (revK l k).length = l.length := by simp [revK]
theorem revK_get (l : List Pt) (k i : Nat) (h : i < l.length) : (revK l k)[i]'(by rw [revK_len]; exact h) = if i < k ∨ l.length - k ≤ i then l[l.length - 1 - i] else l[i] := by
  have h2 : l.length - 1 - i < l.length := by omega
  simp [revK, h, h2]
theorem revK_zero (l : List Pt) : revK l 0 = l := by
  apply List.ext_getElem (revK_len l 0)
  intro i h1 h2
  rw [revK_get l 0 i h2, if_neg (by omega)]
theorem revK_end (l : List Pt) (k : Nat) (h : l.length ≤ 2 * k + 1) : revK l k = l.reverse := by
  apply List.ext_getElem (by simp [revK_len])
  intro i h1 h2
  rw [revK_len] at h1
  rw [revK_get l k i h1, List.getElem_reverse]
  split
  · rfl
  · have : l.length - 1 - i = i := by omega
    simp only [this]
theorem revK_step (l : List Pt) (k : Nat) (h : 2 * k + 1 < l.length) : ((revK l k).set k (l[l.length - 1 - k]'(by omega))).set (l.length - 1 - k) (l[k]'(by omega)) = revK l (k + 1) := by
  apply List.ext_getElem (by simp [revK_len])
  intro i h1 h2
  rw [revK_len] at h2
  rw [revK_get l (k + 1) i h2, List.getElem_set, List.getElem_set]
  by_cases e1 : l.length - 1 - k = i
  · subst e1
    rw [if_pos rfl, if_pos (by omega)]
    have : l.length - 1 - (l.length - 1 - k) = k := by omega
    simp only [this]
  · rw [if_neg e1]
    by_cases e2 : k = i
    · subst e2; rw [if_pos rfl, if_pos (by omega)]
    · rw [if_neg e2, revK_get l k i h2]
      by_cases e3 : i < k ∨ l.length - k ≤ i
      · rw [if_pos e3, if_pos (by omega)]
      · rw [if_neg e3, if_neg (by omega)]
theorem revK_step' (l : List Pt) (k : Nat) (h : 2 * k + 1 < l.length) : ((revK l k).set (l.length - 1 - k) (l[k]'(by omega))).set k (l[l.length - 1 - k]'(by omega)) = revK l (k + 1) := by
  rw [List.set_comm _ _ (by omega), revK_step l k h]

theorem flat_cons (p : Pt) (l : List Pt) : flat (p :: l) = .int .i64 p.1 :: .int .i64 p.2 :: flat l := by simp [flat]
theorem flat_set (l : List Pt) (i : Nat) (p : Pt) : flat (l.set i p) = ((flat l).set (i * 2) (.int .i64 p.1)).set (i * 2 + 1) (.int .i64 p.2) := by
  induction l generalizing i with
  | nil => rfl
  | cons q l ih =>
    cases i with
    | zero => simp [flat_cons]
    | succ i =>
      rw [List.set_cons_succ, flat_cons, ih, flat_cons, show (i + 1) * 2 = i * 2 + 1 + 1 by omega]
      simp only [List.set_cons_succ]

/-- A block that is being written, of which the first cells are these points. -/
def RowSt (W : World) (g S : Nat) (L : List Pt) (wr : World) : Prop :=
  ∃ cur : Array Value, wr.heap[g]? = some (.cells cur 25 (0, 0)) ∧ cur.size = S ∧ cur.toList.take (L.length * 2) = flat L ∧ W.grownBy wr (some g)
theorem RowSt.drew {W wr : World} {g S : Nat} {L : List Pt} (h : RowSt W g S L wr) : RowSt W g S L wr.drew := by
  obtain ⟨cur, h1, h2, h3, h4⟩ := h
  exact ⟨cur, h1, h2, h3, ⟨h4.os, h4.tape, h4.output, h4.size, h4.block⟩⟩
theorem RowSt.cells {W wr : World} {g S : Nat} {L : List Pt} (h : RowSt W g S L wr) : PtsAt wr g 0 L := by
  obtain ⟨cur, h1, h2, h3, h4⟩ := h
  refine pts_of_flat fun j u hj => ?_
  rw [← h3, List.getElem?_take] at hj
  split at hj
  · rw [Nat.zero_add, cell_of_row wr g j cur _ (0, 0) h1, ← hj, Array.getElem?_toList]
  · cases hj
theorem RowSt.frozen {W wr : World} {g S : Nat} {L : List Pt} (h : RowSt W g S L wr) (o : Nat) : wr.frozen? ⟨g, o, none⟩ = false := by
  obtain ⟨cur, h1, h2, h3, h4⟩ := h
  simp [World.frozen?, h1]
theorem set_row {wr : World} {g o : Nat} {cur : Array Value} {t : TypeId} (u : Value) (h : wr.heap[g]? = some (.cells cur t (0, 0))) : (wr.setCell ⟨g, o, none⟩ u).heap[g]? = some (.cells (cur.setIfInBounds o u) t (0, 0)) := by
  simp [World.setCell, Array.getElem?_modify, h]
theorem grown_set {W wr : World} {g o : Nat} (u : Value) (h : W.grownBy wr (some g)) : W.grownBy (wr.setCell ⟨g, o, none⟩ u) (some g) :=
  ⟨h.os, h.tape, h.output, by have := h.size; simpa using this, fun k hk hne => (Below.heap_setCell _ _ _ _ (fun e => hne (by rw [e]))).trans (h.block k hk hne)⟩
theorem RowSt.set {W wr : World} {g S : Nat} {L : List Pt} (h : RowSt W g S L wr) (i : Nat) (p : Pt) : RowSt W g S (L.set i p) ((wr.setCell ⟨g, i * 2, none⟩ (.int .i64 p.1)).setCell ⟨g, i * 2 + 1, none⟩ (.int .i64 p.2)) := by
  obtain ⟨cur, h1, h2, h3, h4⟩ := h
  refine ⟨(cur.setIfInBounds (i * 2) (.int .i64 p.1)).setIfInBounds (i * 2 + 1) (.int .i64 p.2), set_row _ (set_row _ h1), by simp [h2], ?_, grown_set _ (grown_set _ h4)⟩
  rw [flat_set, ← h3, List.length_set]
  simp [List.take_set]

set_option maxHeartbeats 8000000 in
set_option maxRecDepth 100000 in
theorem reverse_row (g cap : Nat) (l : List Pt) (S : Nat) (w : World) (hl : l.length ≤ 10000) (h : RowSt w g S l w) :
    Calls Try.prog 50 #[.slice (some ⟨g, 0, none⟩) l.length cap] w fun e w' => (∃ v, e = .returned v) ∧ RowSt w g S l.reverse w' := by
  obtain ⟨len, hlen⟩ : ∃ len, l.length = len := ⟨_, rfl⟩
  rw [hlen] at hl ⊢
  have HL := Lib.hid hlen
  have H := Lib.hid h
  clear hlen h
  go_enter Try.func50, Try.ntmps50
  go_wp2
  go_loopw [2, 3] (fun i j wr => ∃ k : Nat, 2 * k ≤ len + 1 ∧ i = .int .i64 k ∧ j = .int .i64 ((len : Int) - 1 - k) ∧ RowSt w g S (revK l k) wr) (fun i _ _ => len - (intOf i).toNat)
  case atStart => exact ⟨0, by omega, rfl, by simp, by rw [revK_zero]; exact H.out⟩
  case round =>
    obtain ⟨k, hk, rfl, rfl, hr⟩ := hrel
    by_cases hlt : 2 * k + 1 < len
    · have hL : l.length = len := HL.out
      have hkl : k < l.length := by omega
      have hjl : l.length - 1 - k < l.length := by omega
      have hR := Lib.hid hr
      obtain ⟨c0, c1⟩ := hr.cells k (by rw [revK_len]; exact hkl)
      obtain ⟨d0, d1⟩ := hr.cells (l.length - 1 - k) (by rw [revK_len]; exact hjl)
      rw [revK_get l k k hkl, if_neg (by omega)] at c0 c1
      rw [revK_get l k _ hjl, if_neg (by omega)] at d0 d1
      have hst := revK_step l k (by omega)
      have hst' := revK_step' l k (by omega)
      generalize l[k] = p at *
      generalize l[l.length - 1 - k] = q at *
      rw [hL] at d0 d1 hst hst'
      clear hL hkl hjl
      have f0 := hr.frozen (k * 2)
      have f1 := hr.frozen (k * 2 + 1)
      have f2 := hr.frozen ((len - 1 - k) * 2)
      have f3 := hr.frozen ((len - 1 - k) * 2 + 1)
      simp only [Nat.zero_add] at c0 c1 d0 d1
      have HS := Lib.hid hst
      have HS' := Lib.hid hst'
      clear hst hst' hr
      obtain ⟨j, hj⟩ : ∃ j, len - 1 - k = j := ⟨_, rfl⟩
      rw [hj] at d0 d1 f2 f3
      have ej : (len : Int) - 1 - (k : Int) = (j : Int) := by omega
      have HJ := Lib.hid hj
      have hj1 : k < j := by omega
      have hj2 : j < len := by omega
      clear hj
      rw [ej]
      have HE := Lib.hid ej
      clear ej
      go_wp2
      go_region
      all_goals go_wp2
      exact ⟨⟨k + 1, by omega, by go_num, by rw [show ((j : Int) - 1) = (len : Int) - 1 - ((k + 1 : Nat) : Int) by have := HE.out; omega], by
        rw [← HS.out, HJ.out]; exact ((hR.out.set k q).set j p).drew⟩, by simp [intOf]; omega⟩
    · have hE := Lib.hid (show RowSt w g S l.reverse wr by rw [revK_end l k (by rw [HL.out]; omega)] at hr; exact hr)
      clear hr
      go_wp2
      go_end0
      exact ⟨⟨_, rfl⟩, hE.out⟩

theorem row_of_own {w : World} {B : Nat} {v : Value} {l : List Pt} (h : OwnP w B v l) : (v = .slice none 0 0 ∧ l = []) ∨ ∃ g cap S, v = .slice (some ⟨g, 0, none⟩) l.length cap ∧ RowSt w g S l w ∧ B ≤ g ∧ l.length ≤ cap ∧ cap ≤ maxLen ∧ S = cap * 2 := by
  obtain ⟨h1, ⟨hv, hn⟩ | ⟨g, cap, cur, hv, hb, hh, hc1, hc2, hs, ht⟩⟩ := h
  · exact .inl ⟨hv, List.eq_nil_of_length_eq_zero hn⟩
  · exact .inr ⟨g, cap, cap * 2, hv, ⟨cur, hh, hs, ht, World.grownBy.refl _ _⟩, hb, hc1, hc2, rfl⟩
theorem own_of_row {W w : World} {B g cap S : Nat} {l : List Pt} (h : RowSt W g S l w) (hB : B ≤ g) (h1 : l.length ≤ cap) (h2 : cap ≤ maxLen) (hs : S = cap * 2) : OwnP w B (.slice (some ⟨g, 0, none⟩) l.length cap) l := by
  obtain ⟨cur, hh, hc, ht, _⟩ := h
  exact ⟨flat_len l, .inr ⟨g, cap, cur, rfl, hB, hh, h1, h2, hc.trans hs, ht⟩⟩

set_option maxHeartbeats 1000000 in
theorem reverse_nil (w : World) : Calls Try.prog 50 #[.slice none 0 0] w fun e w' => (∃ v, e = .returned v) ∧ w = w' := by
  go_enter Try.func50, Try.ntmps50
  go_wp2
  go_loop [2, 3] (fun i j => i = .int .i64 0 ∧ j = .int .i64 (-1)) (fun _ _ => 0)
  case atStart => exact ⟨rfl, by simp⟩
  case round =>
    obtain ⟨rfl, rfl⟩ := hrel
    go_wp2
    go_end0
    exact ⟨⟨_, rfl⟩, rfl⟩

/-- What slices.Reverse makes of a slice of the call's own. -/
def RevEnd (B : Nat) (v : Value) (l : List Pt) (w : World) (e : Ending) (w' : World) : Prop := (∃ r, e = .returned r) ∧ OwnP w' B v l.reverse ∧ w.grownBy w' v.ownBlock
theorem reverse_own (B : Nat) (v : Value) (l : List Pt) (w : World) (h : OwnP w B v l) (hl : l.length ≤ 10000) :
    Calls Try.prog 50 #[v] w (RevEnd B v l w) := by
  rcases row_of_own h with ⟨rfl, rfl⟩ | ⟨g, cap, S, rfl, hr, hb, h1, h2, hs⟩
  · refine (reverse_nil w).mono ?_
    rintro e w' ⟨he, rfl⟩
    exact ⟨he, OwnP.nil _ _, World.grownBy.refl _ _⟩
  · refine (reverse_row g cap l S w hl hr).mono ?_
    rintro e w' ⟨he, hr'⟩
    refine ⟨he, ?_, ?_⟩
    · have := own_of_row (B := B) (cap := cap) hr' hb (by simpa using h1) h2 hs
      rw [List.length_reverse] at this
      exact this
    · obtain ⟨_, _, _, _, hg⟩ := hr'
      exact hg

set_option maxHeartbeats 1000000 in
theorem turned_any (v : Value) (l : List Pt) (w : World) (h : RdC w v l) (hl : l.length ≤ 10000) :
    Calls Try.prog 20 #[v] w (OwnEnd w l.reverse) := by
  have H := Lib.hid h
  have HN := Lib.hid hl
  clear h hl
  go_enter Try.func20, Try.ntmps20
  go_wp2_with (first
    | (go_at_call 49; refine (clone_any _ l _ H.out HN.out).mono ?_; rintro e w1 ⟨v1, rfl, ho, hk⟩; have HO := Lib.hid ho; have HK := Lib.hid hk; clear ho hk)
    | (go_at_call 50; refine (reverse_own w.heap.size _ l _ HO.out HN.out).mono ?_; rintro e w2 ⟨⟨r, rfl⟩, ho, hg⟩; have HO2 := Lib.hid ho; have HG := Lib.hid hg; clear ho hg))
  go_ret
  exact ⟨_, rfl, HO2.out, kp_of_grown HK.out HG.out HO.out⟩
end Go.Proofs.Ytcpbemoiodbliaa
