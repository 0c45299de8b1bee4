/- The contract of cross.gather. -/
import Derived.Test.YtcelipgokpnmfaaC2
namespace Go.Proofs.Ytcelipgokpnmfaa
open Go.RowKit Go.Proofs.Geo

theorem gather_append (l m out : List Pt) : gather out (l ++ m) = gather (gather out l) m := by
  induction l generalizing out with
  | nil => rfl
  | cons p l ih => simp only [List.cons_append, gather]; exact ih _
theorem gather_take (out l : List Pt) (k : Nat) (h : k < l.length) : gather out (l.take (k + 1)) = if l[k] ∈ gather out (l.take k) then gather out (l.take k) else gather out (l.take k) ++ [l[k]] := by
  rw [List.take_succ_eq_append_getElem h, gather_append]; rfl
theorem gather_len (out l : List Pt) : (gather out l).length ≤ out.length + l.length := by
  induction l generalizing out with
  | nil => simp [gather]
  | cons p l ih =>
    simp only [gather]
    split
    · have := ih out; simp only [List.length_cons]; omega
    · have := ih (out ++ [p]); simp only [List.length_cons, List.length_append, List.length_nil] at this ⊢; omega

theorem grown_comb {w a b : World} {r r' : Option Nat} (h : w.grownBy a r) (k : a.grownBy b r') (hr : r' = r ∨ ∃ g, r' = some g ∧ w.heap.size ≤ g) : w.grownBy b r := by
  refine ⟨k.os.trans h.os, k.tape.trans h.tape, k.output.trans h.output, Nat.le_trans h.size k.size, fun j hj hne => ?_⟩
  refine (k.block j (Nat.lt_of_lt_of_le hj h.size) ?_).trans (h.block j hj hne)
  rcases hr with rfl | ⟨g, rfl, hg⟩
  · exact hne
  · intro e; cases e; omega
theorem grown_kp {w a b : World} {r : Option Nat} (h : w.grownBy a r) (k : Kp a b) : w.grownBy b r := grown_comb h (grown_of_kp k r) (.inl rfl)
theorem grown_refl (w : World) (r : Option Nat) : w.grownBy w r := ⟨rfl, rfl, rfl, Nat.le_refl _, fun _ _ _ => rfl⟩
theorem PtsAt.grown {w w' : World} {b off : Nat} {l : List Pt} {r : Option Nat} (h : PtsAt w b off l) (g : w.grownBy w' r) (hne : some b ≠ r) : PtsAt w' b off l :=
  fun i hi => ⟨g.cell (h i hi).1 hne, g.cell (h i hi).2 hne⟩

/-- Where the slice lies that comes back: where it was, or in a new block. -/
def At (w : World) (v0 v : Value) : Prop := v.ownBlock = v0.ownBlock ∨ ∃ g, v.ownBlock = some g ∧ w.heap.size ≤ g
theorem At.next {w a : World} {v0 v v' : Value} (h : At w v0 v) (hs : w.heap.size ≤ a.heap.size) (hat : v'.ownBlock = v.ownBlock ∨ v'.ownBlock = some a.heap.size) : At w v0 v' := by
  rcases hat with e | e
  · unfold At; rw [e]; exact h
  · exact .inr ⟨_, e, hs⟩
def GatherEnd (B : Nat) (w : World) (v0 : Value) (l : List Pt) (e : Ending) (w' : World) : Prop := ∃ v, e = .returned v ∧ OwnP w' B v l ∧ w.grownBy w' v0.ownBlock ∧ At w v0 v

set_option maxHeartbeats 4000000 in
set_option maxRecDepth 100000 in
theorem gather_list (B : Nat) (v0 : Value) (l0 : List Pt) (b off cap : Nat) (l : List Pt) (w : World) (hB : B ≤ w.heap.size) (h0 : OwnP w B v0 l0) (hl0 : l0.length ≤ 1000000) (hl : l.length ≤ 1000000) (h : PtsAt w b off l) (hne : some b ≠ v0.ownBlock) :
    Calls Try.prog 25 #[v0, .slice (some ⟨b, off, none⟩) l.length cap] w (GatherEnd B w v0 (gather l0 l)) := by
  obtain ⟨i0, hi, hz0, hz1, hz2⟩ := info_parts infoPt
  have HI := Lib.hid hi
  have HZ0 := Lib.hid hz0
  have HZ1 := Lib.hid hz1
  have HZ2 := Lib.hid hz2
  have H0 := Lib.hid h0
  have H := Lib.hid h
  have HNE := Lib.hid hne
  have HBB := Lib.hid hB
  clear hi hz0 hz1 hz2 h0 h hne hB
  go_enter Try.func25, Try.ntmps25
  go_wp2
  go_loopw [0, 9] (fun v i wr => ∃ k : Nat, k ≤ l.length ∧ i = .int .i64 k ∧ OwnP wr B v (gather l0 (l.take k)) ∧ w.grownBy wr v0.ownBlock ∧ At w v0 v) (fun _ i _ => l.length - (intOf i).toNat)
  case atStart => exact ⟨0, Nat.zero_le _, rfl, H0.out, grown_refl _ _, .inl rfl⟩
  case round =>
    obtain ⟨k, hk, rfl, ho, hg, hat⟩ := hrel
    by_cases hlt : k < l.length
    · obtain ⟨x, y, hxy⟩ : ∃ x y, l[k] = (x, y) := ⟨_, _, rfl⟩
      have hc := (H.out.grown hg HNE.out) k hlt
      rw [hxy] at hc
      obtain ⟨hc1, hc2⟩ := hc
      have hs := gather_take l0 l k hlt
      rw [hxy] at hs
      have hn : (gather l0 (l.take k)).length ≤ l0.length + k := Nat.le_trans (gather_len _ _) (by have := List.length_take_le k l; omega)
      have HS := Lib.hid hs
      have HO := Lib.hid ho
      have HG := Lib.hid hg
      have HA := Lib.hid hat
      have HN := Lib.hid hn
      clear hxy hs ho hg hat hn
      cases hv : decide ((x, y) ∈ gather l0 (l.take k))
      · have HV := Lib.hid (of_decide_eq_false hv)
        go_wp2_with (first
          | (go_at_call 35; refine (contains_rd _ (gather l0 (l.take k)) _ _ _ ((HO.out.rd (by have := HN.out; omega)).kp (kp_alloc (kp_refl _) _))).mono ?_; rintro e w2 ⟨rfl, hk2⟩; have p0 : w2.cell? ⟨wr.heap.size, 0, none⟩ = some (.int .i64 x) := kp_cell hk2 (by simp [go_sem]); have p1 : w2.cell? ⟨wr.heap.size, 1, none⟩ = some (.int .i64 y) := kp_cell hk2 (by simp [go_sem]); have HK2 := Lib.hid hk2; clear hk2; have HO2 := Lib.hid ((HO.out.kp (kp_alloc (kp_refl _) _)).kp HK2.out); have HB := Lib.hid (kp_trans (kp_alloc (kp_refl _) _) HK2.out))
          | (at_builtin; refine wpList_append_own_at _ rfl _ _ 26 rfl B 23 i0 (.agg #[.int .i64 0, .int .i64 0]) 2 16 Try.underlying26 HI.out HZ0.out HZ1.out HZ2.out rfl (by decide) _ _ _ rfl (HO2.out.kp (kp_alloc (kp_refl _) _)) ⟨w2.heap.size, 0, none⟩ 1 1 [.int .i64 x, .int .i64 y] rfl rfl (cell_two_pt _ _ _ _) (by simp [Value.oneCell']) (by have := HN.out; unfold maxLen; omega) (by have := HN.out; omega) (Nat.le_trans HBB.out (Nat.le_trans HG.out.size (Below.size (kp_alloc HB.out _)))) ?_; intro v' w3 hown hgrow hnil hat; have HO3 := Lib.hid (OwnP.snoc hown); have HG3 := Lib.hid (grown_comb (grown_kp HG.out (kp_alloc HB.out _)) hgrow HA.out); have HA3 := Lib.hid (HA.out.next (Nat.le_trans HG.out.size (Below.size (kp_alloc HB.out _))) hat); clear hown hgrow hnil hat))
        go_roundw
        case rel => exact ⟨k + 1, by omega, by go_num, by rw [HS.out, if_neg HV.out]; exact HO3.out, HG3.out, HA3.out⟩
        case measure => simp [intOf]; omega
      · have HV := Lib.hid (of_decide_eq_true hv)
        go_wp2_with (go_at_call 35; refine (contains_rd _ (gather l0 (l.take k)) _ _ _ ((HO.out.rd (by have := HN.out; omega)).kp (kp_alloc (kp_refl _) _))).mono ?_; rintro e w2 ⟨rfl, hk2⟩; have HK2 := Lib.hid hk2; clear hk2)
        go_roundw
        case rel => exact ⟨k + 1, by omega, by go_num, by rw [HS.out, if_pos HV.out]; exact (HO.out.kp (kp_alloc (kp_refl _) _)).kp HK2.out, grown_kp HG.out (kp_trans (kp_alloc (kp_refl _) _) HK2.out), HA.out⟩
        case measure => simp [intOf]; omega
    · have hke : k = l.length := by omega
      have HO := Lib.hid (show OwnP wr B _ (gather l0 l) by rw [hke, List.take_length] at ho; exact ho)
      have HG := Lib.hid hg
      have HA := Lib.hid hat
      clear ho hg hat hke
      go_wp2
      go_ret
      exact ⟨_, rfl, HO.out, HG.out, HA.out⟩
end Go.Proofs.Ytcelipgokpnmfaa
