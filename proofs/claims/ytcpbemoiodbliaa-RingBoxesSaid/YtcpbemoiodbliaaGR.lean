/- Contracts: slices.Grow and slices.Concat of points; ring.From. -/
import Derived.Test.YtcpbemoiodbliaaMW
import Derived.Test.YtcpbemoiodbliaaMP
import Derived.Laws.AppendOwnNone
import Derived.Lib.AppendZeros
import Derived.RegionTactic
import Derived.WalkSpells
import Derived.BigRegion
import Derived.IntWalk
import Derived.Deep.DeepCutAuto
import Derived.Deep.RegionHeld3
namespace Go.Proofs.Ytcpbemoiodbliaa
open Go.RowKit Go.Proofs.Geo

theorem own_room (w : World) (cs : Array Value) (cap : Nat) (hcap : cap ≤ maxLen) (hsz : cs.size = cap * 2) : OwnP (w.alloc (.cells cs 25)) w.heap.size (.slice (some ⟨w.heap.size, 0, none⟩) 0 cap) [] :=
  ⟨by simp [flat], .inr ⟨w.heap.size, cap, cs, rfl, Nat.le_refl _, heap_alloc_new w _, Nat.zero_le _, hcap, hsz, by simp [flat]⟩⟩

/-- append of points that a slice reads as, nil too. -/
theorem wpList_append_pts {w : World} {ops : Array Oper} {rest : List Oper} {o : Oper} {a : Act} {Q : Exit → Act → World → Prop} (hgd : o.guard = none) (s x : Operand)
    (ho : o.op = .call { callee := .builtin .append, args := #[s, x], argTypes := #[23, 23] }) (B : Nat) (v y : Value) (l m : List Pt) (hs : a.eval s = v) (hx : a.eval x = y)
    (hown : OwnP w B v l) (hr : RdC w y m) (hn : l.length + m.length ≤ 10000000) (hB : B ≤ w.heap.size)
    (h : ∀ v' w', OwnP w' B v' (l ++ m) → w.grownBy w' v.ownBlock → wpList Try.prog ops Q rest (a.put o.dst v') w') : wpList Try.prog ops Q (o :: rest) a w := by
  obtain ⟨i0, hi, hz0, hz1, hz2⟩ := info_parts infoPt
  obtain ⟨_, ⟨hy, hm⟩ | ⟨ad, cap, hy, hc⟩⟩ := hr
  · subst hy hm
    refine wpList_append_own_none hgd s x 23 ho B 25 i0 2 Try.underlying23 hi v _ _ hs hown hx ?_
    exact h _ _ (by rw [List.append_nil]; exact hown) (World.grownBy.refl _ _)
  · subst hy
    refine wpList_append_own w hgd s x 23 ho B 25 i0 (.agg #[.int .i64 0, .int .i64 0]) 2 16 Try.underlying23 hi hz0 hz1 hz2 rfl (by decide) v _ _ hs hown ad _ _ (flat m) hx (flat_len m) hc (flat_one _) (by unfold maxLen; omega) (by omega) hB ?_
    intro v' w' hown' hg _
    exact h _ _ (OwnP.append hown') hg

set_option maxHeartbeats 4000000 in
set_option maxRecDepth 100000 in
theorem grow_any (n : Nat) (hn : n ≤ 1000000) (w : World) : Calls Try.prog 70 #[.slice none 0 0, .int .i64 n] w (OwnEnd w []) := by
  obtain ⟨i0, hi, hz0, hz1, hz2⟩ := info_parts infoPt
  by_cases h0 : n = 0
  · subst h0
    clear hi hz0 hz1 hz2
    go_enter Try.func70, Try.ntmps70
    go_wp2
    go_ret
    exact ⟨_, rfl, OwnP.nil _ _, kp_refl _⟩
  · have hpos : 0 < n := by omega
    have hr := Lib.run_append_nil_zeros (P := Try.prog) w 23 3 23 25 i0 _ .i64 .i64 Try.underlying23 Try.underlying3 hi hz0 n hpos (by rw [hz1]; decide) (by omega) (by rw [hz2]; omega)
    have HR := Lib.hid hr
    have b1 : (0 : Int) < (n : Int) := by omega
    have b2 : (n : Int) ≤ 1000000 := by omega
    have hcp := grownCap_le_maxLen w n 0 25 (by unfold maxLen; omega)
    have hge := grownCap_ge w n 0 25
    have HCP := Lib.hid hcp
    have HGE := Lib.hid hge
    clear hr hi hz0 hz1 hz2 hcp hge h0
    go_enter Try.func70, Try.ntmps70
    go_wp2_with (at_builtin; refine Lib.wpList_append_run _ rfl (.tmp 20) (.tmp 21) 23 3 rfl _ _ rfl rfl _ _ HR.out ?_)
    go_ret
    refine ⟨_, rfl, own_room w.drew _ _ HCP.out ?_, kp_alloc (kp_drew (kp_refl _)) _⟩
    have := HGE.out
    simp only [Array.size_append, size_zeroCells]
    simp
    omega

/-- The lists so far. -/
def cat2 (a b : List Pt) (k : Nat) : List Pt := if k = 0 then [] else if k = 1 then a else a ++ b
set_option maxHeartbeats 4000000 in
theorem concat_any (B : Nat) (va vb : Value) (a b : List Pt) (w : World) (ca : w.cell? ⟨B, 0, none⟩ = some va) (cb : w.cell? ⟨B, 1, none⟩ = some vb) (ra : RdC w va a) (rb : RdC w vb b) (hn : a.length + b.length ≤ 1000000) :
    Calls Try.prog 51 #[.slice (some ⟨B, 0, none⟩) 2 2] w (OwnEnd w (a ++ b)) := by
  obtain ⟨a1, c1, hva⟩ : ∃ a1 c1, va = .slice a1 a.length c1 := by
    obtain ⟨_, ⟨h1, h2⟩ | ⟨ad, cap, h1, _⟩⟩ := ra
    · subst h2; exact ⟨_, _, h1⟩
    · exact ⟨_, _, h1⟩
  obtain ⟨a2, c2, hvb⟩ : ∃ a1 c1, vb = .slice a1 b.length c1 := by
    obtain ⟨_, ⟨h1, h2⟩ | ⟨ad, cap, h1, _⟩⟩ := rb
    · subst h2; exact ⟨_, _, h1⟩
    · exact ⟨_, _, h1⟩
  have HN := Lib.hid hn
  obtain ⟨n, ha⟩ : ∃ n, a.length = n := ⟨_, rfl⟩
  obtain ⟨m, hb⟩ : ∃ n, b.length = n := ⟨_, rfl⟩
  rw [ha] at hva hn
  rw [hb] at hvb hn
  subst hva hvb
  have RA := Lib.hid ra
  have RB := Lib.hid rb
  clear ra rb ha hb
  have lB : B < w.heap.size := cell_lt ca
  go_enter Try.func51, Try.ntmps51
  go_wp2
  go_loop [3, 11] (fun s i => ∃ k : Nat, k ≤ 2 ∧ i = .int .i64 k ∧ s = .int .i64 ((if k = 0 then 0 else if k = 1 then n else n + m : Nat) : Int)) (fun _ i => 2 - (intOf i).toNat)
  case atStart => exact ⟨0, by omega, rfl, rfl⟩
  case round =>
    obtain ⟨k, hk, rfl, rfl⟩ := hrel
    have hk' : k = 0 ∨ k = 1 ∨ k = 2 := by omega
    rcases hk' with rfl | rfl | rfl
    · go_wp2
      go_round
      case rel => exact ⟨1, by omega, rfl, by simp⟩
      case measure => simp [intOf]
    · go_wp2
      go_round
      case rel => exact ⟨2, by omega, rfl, by simp⟩
      case measure => simp [intOf]
    · have hs : ((if (2 : Nat) = 0 then 0 else if (2 : Nat) = 1 then n else n + m : Nat) : Int) = ((n + m : Nat) : Int) := by simp
      rw [hs]
      have HG := Lib.hid (grow_any (n + m) hn)
      go_wp2_with (go_at_call 70; refine (HG.out _).mono ?_; rintro e w1 ⟨v1, rfl, ho, hk⟩; have HO := Lib.hid ho; have HK := Lib.hid hk; clear ho hk)
      have d0 : w1.cell? ⟨B, 0, none⟩ = some (.slice a1 n c1) := kp_cell HK.out ca
      have d1 : w1.cell? ⟨B, 1, none⟩ = some (.slice a2 m c2) := kp_cell HK.out cb
      go_loopw [6, 27] (fun s i wr => ∃ k : Nat, k ≤ 2 ∧ i = .int .i64 k ∧ OwnP wr w.heap.size s (cat2 a b k) ∧ Kp w wr) (fun _ i _ => 2 - (intOf i).toNat)
      case atStart => exact ⟨0, by omega, rfl, HO.out, HK.out⟩
      case round =>
        obtain ⟨k, hk, rfl, ho, hkp⟩ := hrel
        have e0 : wr.cell? ⟨B, 0, none⟩ = some (.slice a1 n c1) := kp_cell hkp ca
        have e1 : wr.cell? ⟨B, 1, none⟩ = some (.slice a2 m c2) := kp_cell hkp cb
        have RA2 := Lib.hid (RA.out.kp hkp)
        have RB2 := Lib.hid (RB.out.kp hkp)
        have HO2 := Lib.hid ho
        have HK2 := Lib.hid hkp
        clear ho hkp
        have hk' : k = 0 ∨ k = 1 ∨ k = 2 := by omega
        rcases hk' with rfl | rfl | rfl
        · go_wp2_with (at_builtin; refine wpList_append_pts rfl (.tmp 31) (.tmp 32) rfl w.heap.size _ _ _ a rfl rfl HO2.out RA2.out (by have := HN.out; simp [cat2]; omega) (Below.size HK2.out) ?_; intro v2 w2 ho hg; have HO3 := Lib.hid ho; have HK3 := Lib.hid (kp_of_grown HK2.out hg HO2.out); clear ho hg)
          exact ⟨⟨1, by omega, rfl, HO3.out, HK3.out⟩, by simp [intOf]⟩
        · go_wp2_with (at_builtin; refine wpList_append_pts rfl (.tmp 31) (.tmp 32) rfl w.heap.size _ _ _ b rfl rfl HO2.out RB2.out (by have := HN.out; simp [cat2]; omega) (Below.size HK2.out) ?_; intro v2 w2 ho hg; have HO3 := Lib.hid ho; have HK3 := Lib.hid (kp_of_grown HK2.out hg HO2.out); clear ho hg)
          exact ⟨⟨2, by omega, rfl, HO3.out, HK3.out⟩, by simp [intOf]⟩
        · go_wp2
          go_ret
          exact ⟨_, rfl, HO2.out, HK2.out⟩

set_option maxHeartbeats 4000000 in
set_option maxRecDepth 100000 in
theorem from_any (a0 : Option Addr) (len cap : Nat) (l : List Pt) (i : Int) (w : World) (h : RdC w (.slice a0 len cap) l) (hl : l.length ≤ 10000) (hln : len = l.length) (hlc : len ≤ cap) :
    Calls Try.prog 21 #[.slice a0 len cap, .int .i64 i] w (OwnEnd w (frm l i)) := by
  by_cases h0 : len = 0
  · subst h0
    have e : l = [] := List.eq_nil_of_length_eq_zero hln.symm
    subst e
    clear h hln
    go_enter Try.func21, Try.ntmps21
    go_wp2
    go_ret
    exact ⟨_, rfl, by rw [show frm [] i = [] by simp [frm]]; exact OwnP.nil _ _, kp_refl _⟩
  · have hne : l ≠ [] := by rintro rfl; exact h0 hln
    obtain ⟨_, ⟨_, e⟩ | ⟨b, off, cp, hv, hp⟩⟩ := h.rd hne
    · exact absurd e hne
    injection hv with q1 q2 q3
    subst q1 q3
    clear q2
    obtain ⟨r, hr⟩ : ∃ r, i.tmod (len : Int) = r := ⟨_, rfl⟩
    obtain ⟨k, hk⟩ : ∃ k, (i % (len : Int)).toNat = k := ⟨_, rfl⟩
    have hpos : 0 < len := by omega
    have hr1 : -(len : Int) < r ∧ r < (len : Int) := by
      rw [← hr]
      have h1 := Int.tmod_lt_of_pos i (show (0 : Int) < (len : Int) by omega)
      have h2 := Int.lt_tmod_of_pos i (show (0 : Int) < (len : Int) by omega)
      exact ⟨h2, h1⟩
    have hk1 : k < len := by rw [← hk]; have := Int.emod_nonneg i (show (len : Int) ≠ 0 by omega); have := Int.emod_lt_of_pos i (show (0 : Int) < (len : Int) by omega); omega
    have hke : i % (len : Int) = (k : Int) := by rw [← hk]; have := Int.emod_nonneg i (show (len : Int) ≠ 0 by omega); omega
    have hrk : (r + (len : Int)).tmod (len : Int) = (k : Int) := by
      rw [Int.tmod_eq_emod_of_nonneg (by omega), Int.add_emod_right, ← hr, ← hke]
      rw [Int.tmod_def, Int.sub_emod, Int.mul_emod_right, Int.sub_zero, Int.emod_emod]
    have hfr : frm l i = l.drop k ++ l.take k := by unfold frm; rw [← hln, hk]
    rw [hfr]
    have hd : RdC w (.slice (some ⟨b, off + k * 2, none⟩) (len - k) (cap - k)) (l.drop k) := by
      refine ⟨by simp; omega, .inr ⟨⟨b, off + k * 2, none⟩, cap - k, by simp [hln], ?_⟩⟩
      refine pts_cells fun j hj => ?_
      have hj' : k + j < l.length := by simp at hj; omega
      have := hp (k + j) hj'
      rw [show off + (k + j) * 2 = off + k * 2 + j * 2 by omega] at this
      rw [List.getElem_drop]; exact this
    have ht : RdC w (.slice (some ⟨b, off, none⟩) k cap) (l.take k) := by
      refine ⟨by simp; omega, .inr ⟨⟨b, off, none⟩, cap, by simp; omega, ?_⟩⟩
      refine pts_cells fun j hj => ?_
      have hj' : j < l.length := by simp at hj; omega
      have := hp j hj'
      rw [List.getElem_take]; exact this
    have HD := Lib.hid hd
    have HT := Lib.hid ht
    have HN : Hid ((l.drop k).length + (l.take k).length ≤ 1000000) := Lib.hid (by simp; omega)
    have wk1 : IntKind.i64.wrap r = r := IntWalk.i64_in _ (by omega)
    have wk2 : IntKind.i64.wrap (r + (len : Int)) = r + (len : Int) := IntWalk.i64_in _ (by omega)
    have wk3 : IntKind.i64.wrap (k : Int) = (k : Int) := IntWalk.i64_in _ (by omega)
    have c1 : (0 : Int) ≤ (k : Int) := by omega
    have c2 : (k : Int) ≤ (len : Int) := by omega
    have c3 : (k : Int) < (len : Int) := by omega
    have c4 : k ≤ len := by omega
    have c5 : ¬ cap = k := by omega
    have c6 : ¬ cap = 0 := by omega
    have c7 : ¬ ((len : Int) = 0) := by omega
    have c8 : (k : Int) ≤ (cap : Int) := by omega
    have c9 : len ≤ 10000 := by omega
    clear hp h hd ht hne hfr hk hke hl hln
    go_enter Try.func21, Try.ntmps21
    go_upto_region 4 with fail
    go_region_with (go_at_call 51; refine (concat_any _ (.slice (some ⟨b, off + k * 2, none⟩) (len - k) (cap - k)) (.slice (some ⟨b, off, none⟩) k cap) (l.drop k) (l.take k) _ (by simp [go_sem]) (by simp [go_sem]) (HD.out.kp (by repeat (first | exact kp_refl _ | apply kp_alloc | apply kp_drew))) (HT.out.kp (by repeat (first | exact kp_refl _ | apply kp_alloc | apply kp_drew))) HN.out).mono ?_; rintro e w2 ⟨v2, rfl, ho, hk⟩; have HO := Lib.hid (OwnP.mono ho (by simp : w.heap.size ≤ _)); have HK : Hid (Kp w w2) := Lib.hid (kp_trans (by repeat (first | exact kp_refl _ | apply kp_alloc | apply kp_drew)) hk); clear ho hk)
    all_goals go_wp2_with fail
    all_goals go_ret
    all_goals exact ⟨_, rfl, HO.out, HK.out⟩
end Go.Proofs.Ytcpbemoiodbliaa
