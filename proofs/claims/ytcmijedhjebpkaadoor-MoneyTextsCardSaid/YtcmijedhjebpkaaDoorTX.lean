/- Contract of money.Text. -/
import Derived.Test.YtcmijedhjebpkaaDoorTL
import Derived.Test.YtcmijedhjebpkaaDoorM1
import Derived.Test.YtcmijedhjebpkaaDoorOI
import Derived.Laws.IdiomStrings
namespace Go.Proofs.YtcmijedhjebpkaaDoor
open Go.RowKit Go.Proofs.Geo Go.Proofs.Mon
set_option linter.unusedVariables false
theorem infoU8 : (Tryd.prog.info? 5).map (fun i => (i.zero, i.size, i.bytes)) = some (some (.int .u8 0), 1, 1) := by kernel_rfl
theorem nDig_le : ∀ (k u : Nat), u < 10 ^ (k + 1) → Lib.nDigits u ≤ k + 1 := by
  intro k
  induction k with
  | zero => intro u h; rw [Lib.nDigits_small (by omega)]; omega
  | succ k ih =>
    intro u h
    by_cases hu : u < 10
    · rw [Lib.nDigits_small hu]; omega
    · rw [Lib.nDigits_big hu]
      have := ih (u / 10) (by rw [Nat.pow_succ] at h; omega)
      omega
theorem itoa_nn (Q : Nat) : Lib.itoa (Q : Int) = Lib.decDigits Q := by unfold Lib.itoa; rw [if_neg (by omega)]; rfl
theorem itoa_len (Q : Nat) (h : Q ≤ 99999999999) : (Lib.itoa (Q : Int)).length ≤ 20 := by
  rw [itoa_nn, Lib.decDigits_length]
  have := nDig_le 10 Q (by omega)
  omega
/-- Bytes in memory of the call's own. -/
def OwnB (w : World) (B : Nat) (v : Value) (l : List UInt8) : Prop := w.ownsRow B 5 1 v l.length (Lib.byteCells l)
/-- The byte of a digit. -/
def dgB (d : Nat) : UInt8 := UInt8.ofNat (48 + d)
theorem dgB_val {d : Nat} (h : d < 10) : ((dgB d).toNat : Int) = 48 + (d : Int) := by
  unfold dgB
  rw [UInt8.toNat_ofNat']
  omega
def textL (n : Int) : List UInt8 := (if n < 0 then [45] else []) ++ Lib.itoa ((n.natAbs / 100 : Nat) : Int) ++ [46, dgB (n.natAbs / 10 % 10), dgB (n.natAbs % 10)]
theorem byteCells_len (l : List UInt8) : (Lib.byteCells l).length = l.length := by simp [Lib.byteCells]
theorem byteCells_one (l : List UInt8) : ∀ u ∈ Lib.byteCells l, u.oneCell' = true := by
  intro u hu; obtain ⟨x, _, rfl⟩ := List.mem_map.1 hu; rfl
theorem OwnB.kp {w w' : World} {B : Nat} {v : Value} {l : List UInt8} (h : OwnB w B v l) (k : Kp w w') : OwnB w' B v l := by
  refine World.ownsRow.kept h (row := none) ⟨k.os, k.tape, k.output, k.size, fun i hi _ => k.block i hi⟩ ?_
  cases v.ownBlock
  · exact .inl rfl
  · exact .inr (by simp)
/-- A row that is owned, as a text. -/
theorem OwnB.text {w : World} {B : Nat} {v : Value} {l : List UInt8} (h : OwnB w B v l) (hl : l ≠ []) : (convert 42 9 v).run Tryd.prog w = .ok (.string ⟨l.toArray⟩) w := by
  have h' := h
  obtain ⟨h1, ⟨hv, hn⟩ | ⟨g, cap, cur, hv, h2⟩⟩ := h'
  · exact absurd (List.eq_nil_of_length_eq_zero hn) hl
  · subst hv
    have hc := World.ownsRow.cells (w := w) h (g := g) rfl
    exact run_convert_bytes_back w 42 9 5 ⟨g, 0, none⟩ cap l Tryd.underlying42 Tryd.underlying5 Tryd.underlying9 (fun j hj => hc j _ (by simp [Lib.byteCells, hj]))
theorem text_bad (n : Int) (w : World) (h0 : mchk n ≠ 0) : Calls Tryd.prog 8 #[.int .i64 n] w fun e w' => e = .returned (.tuple #[.string ⟨#[]⟩, .int .i64 5]) ∧ Kp w w' := by
  have K : Kp w w := kp_refl _
  have e5 : mchk n = 5 := by unfold mchk at *; split <;> simp_all
  have ca := fun w => mcheck_any n w
  rw [e5] at ca
  have CA := Lib.hid ca
  clear ca e5 h0
  go_enter Tryd.func8, Tryd.ntmps8
  go_wp2_with (go_at_call 9; refine (CA.out _).mono ?_; rintro e wk ⟨rfl, hk⟩; replace K := kp_trans K hk; clear hk)
  go_ret2
  exact ⟨rfl, K⟩
/-- A new row's cells. -/
theorem cells_new (w : World) (l : List Value) (t : TypeId) : ∀ j u, l[j]? = some u → (w.alloc (.cells l.toArray t)).cell? ((⟨w.heap.size, 0, none⟩ : Addr).add j) = some u := fun j u hj => by
  have e : (⟨w.heap.size, 0, none⟩ : Addr).add j = ⟨w.heap.size, 0 + j, none⟩ := by unfold Addr.add; split <;> simp_all
  rw [e, cell_of_row _ _ _ _ _ _ (heap_alloc_new w _)]
  simpa using hj
theorem kp_grownB {W w w' : World} {v : Value} {n : Nat} {xs : List Value} (h : Kp W w) (hg : w.grownBy w' v.ownBlock) (ho : w.ownsRow W.heap.size 5 1 v n xs) : Kp W w' :=
  Below.grown h hg (Below.size h) fun k hk => (World.ownsRow.lt ho k hk).1
theorem ownB_al {w : World} {B : Nat} {v : Value} {n : Nat} {xs : List Value} (h : w.ownsRow B 5 1 v n xs) (o : Obj) : (w.alloc o).ownsRow B 5 1 v n xs := by
  have k : Kp w (w.alloc o) := kp_alloc (kp_refl _) _
  refine World.ownsRow.kept h (row := none) ⟨k.os, k.tape, k.output, k.size, fun i hi _ => k.block i hi⟩ ?_
  cases v.ownBlock
  · exact .inl rfl
  · exact .inr (by simp)
set_option maxHeartbeats 8000000 in
set_option maxRecDepth 100000 in
theorem text_ok (n : Int) (w : World) (h0 : mchk n = 0) (hT : Tb w) : Calls Tryd.prog 8 #[.int .i64 n] w fun e w' => e = .returned (.tuple #[.string ⟨(textL n).toArray⟩, .int .i64 0]) ∧ Kp w w' := by
  have K : Kp w w := kp_refl _
  have HB := mchk_zero h0
  have ca := fun w => mcheck_any n w
  rw [h0] at ca
  have CA := Lib.hid ca
  have HT := Lib.hid hT
  clear ca hT h0
  obtain ⟨i0, hi, hz0, hz1, hz2⟩ := info_parts infoU8
  have HI := Lib.hid hi; have HZ0 := Lib.hid hz0; have HZ1 := Lib.hid hz1; have HZ2 := Lib.hid hz2; clear hi hz0 hz1 hz2
  obtain ⟨m, hm⟩ : ∃ m, n.natAbs = m := ⟨_, rfl⟩
  have hmb : m ≤ 1099511627775 := by omega
  have HM := Lib.hid hm
  clear hm
  go_enter Tryd.func8, Tryd.ntmps8
  go_upto_if 12 with (go_at_call 9; refine (CA.out _).mono ?_; rintro e wk ⟨rfl, hk⟩; replace K := kp_trans K hk; clear hk)
  obtain ⟨pre, hpre⟩ : ∃ pre : List UInt8, (if n < 0 then [45] else []) = pre := ⟨_, rfl⟩
  have HP := Lib.hid hpre
  clear hpre
  go_cut [0, 5] (fun x v wx => x = .int .i64 (m : Int) ∧ OwnB wx w.heap.size v pre ∧ Kp w wx)
  case first =>
    by_cases hn : n < 0
    · have hw : IntKind.i64.wrap (-n) = (m : Int) := by rw [IntWalk.i64_in _ (by omega), ← HM.out]; omega
      have e := Lib.hid (show pre = [45] by rw [← HP.out, if_pos hn])
      have HO : Hid (OwnB (wk.alloc (.cells #[.int .u8 45] 5)) w.heap.size (.slice none 0 0) []) := Lib.hid (World.ownsRow_nil _ _ _ _)
      have HK := Lib.hid K
      clear K
      go_wp2_with (at_builtin; refine wpList_append_own _ rfl (.tmp 13) (.tmp 14) 42 rfl w.heap.size 5 i0 (.int .u8 0) 1 1 Tryd.underlying42 HI.out HZ0.out HZ1.out HZ2.out rfl (by decide) _ _ _ rfl HO.out ⟨wk.heap.size, 0, none⟩ _ _ (Lib.byteCells [45]) rfl rfl (cells_new wk [.int .u8 45] 5) (byteCells_one _) (by decide) (by decide) (Below.size (kp_alloc HK.out _)) ?_; intro v2 w2 hown hg _)
      have k2 : Kp w w2 := kp_grownB (kp_alloc HK.out _) hg HO.out
      have hO2 := Lib.hid hown
      clear hown hg
      go_meet
      exact ⟨rfl, by rw [e.out]; exact hO2.out, k2⟩
    · have e := Lib.hid (show pre = [] by rw [← HP.out, if_neg hn])
      have em := Lib.hid (show n = (m : Int) by rw [← HM.out]; omega)
      go_wp2_with fail
      go_meet
      exact ⟨by rw [em.out], by rw [e.out]; exact World.ownsRow_nil _ _ _ _, K⟩
  case rest =>
    obtain ⟨rfl, ho, hk⟩ := hcut
    have HO := Lib.hid ho; have HK := Lib.hid hk
    clear ho hk K
    have hpl := Lib.hid (show pre.length ≤ 1 by rw [← HP.out]; split <;> simp)
    have q1 : Int.tdiv (m : Int) 100 = ((m / 100 : Nat) : Int) := by rw [Int.tdiv_eq_ediv_of_nonneg (by omega)]; omega
    have q2 : Int.tdiv (m : Int) 10 = ((m / 10 : Nat) : Int) := by rw [Int.tdiv_eq_ediv_of_nonneg (by omega)]; omega
    have q3 : Int.tmod ((m / 10 : Nat) : Int) 10 = ((m / 10 % 10 : Nat) : Int) := by rw [Int.tmod_eq_emod_of_nonneg (by omega)]; omega
    have q4 : Int.tmod (m : Int) 10 = ((m % 10 : Nat) : Int) := by rw [Int.tmod_eq_emod_of_nonneg (by omega)]; omega
    have hq := Lib.hid (show m / 100 ≤ 99999999999 by omega)
    generalize hQQ : m / 100 = Q at *
    have HQQ := Lib.hid hQQ
    clear hQQ
    generalize hE : m / 10 = E at *
    have hd1 : E % 10 < 10 := by omega
    have hd2 : m % 10 < 10 := by omega
    have HE := Lib.hid hE
    clear hE
    generalize hD1 : E % 10 = D1 at *
    generalize hD2 : m % 10 = D2 at *
    have HD1 := Lib.hid hD1; have HD2 := Lib.hid hD2
    clear hD1 hD2
    have u1 : IntKind.i64.wrap (48 + (D1 : Int)) = 48 + (D1 : Int) := IntWalk.i64_in _ (by omega)
    have u2 : IntKind.i64.wrap (48 + (D2 : Int)) = 48 + (D2 : Int) := IntWalk.i64_in _ (by omega)
    have u3 : IntKind.u8.wrap (48 + (D1 : Int)) = 48 + (D1 : Int) := IntWalk.u8_in _ (by omega)
    have u4 : IntKind.u8.wrap (48 + (D2 : Int)) = 48 + (D2 : Int) := IntWalk.u8_in _ (by omega)
    have HQ := Lib.hid (show textL n = pre ++ Lib.itoa (Q : Int) ++ [46, dgB D1, dgB D2] by unfold textL; rw [HP.out, HM.out, HQQ.out, HE.out, HD1.out, HD2.out])
    have hIL := Lib.hid (show (Lib.itoa (Q : Int)).length ≤ 20 from itoa_len Q (by have := hq.out; omega))
    have b1 := Lib.hid (dgB_val hd1)
    have b2 := Lib.hid (dgB_val hd2)
    have w7 : wrap64 (Q : Int) = (Q : Int) := IntWalk.wrap64_in _ (by have := hq.out; omega)
    have w8 : wrap64 (E : Int) = (E : Int) := IntWalk.wrap64_in _ (by have := HE.out; omega)
    have A1 := Lib.hid (show (-9223372036854775808 : Int) ≤ (Q : Int) from Int.le_trans (by decide) (Int.natCast_nonneg Q))
    have A2 := Lib.hid (show (Q : Int) ≤ 9223372036854775807 from Int.le_trans (Int.ofNat_le.2 hq.out) (by decide))
    have A3 := Lib.hid (show pre.length + 21 ≤ 140737488355328 by have := hpl.out; omega)
    have A4 := Lib.hid (show pre.length + (Lib.itoa (Q : Int)).length + 3 ≤ maxLen by have := hpl.out; have := hIL.out; unfold maxLen; omega)
    have A5 := Lib.hid (show (pre.length + (Lib.itoa (Q : Int)).length + 3) * 1 ≤ 140737488355328 by have := hpl.out; have := hIL.out; omega)
    clear hd1 hd2
    go_wp2_with (first
      | (go_at_call 19; refine (aint_any w.heap.size pre.length (Q : Int) A1.out A2.out _ (Lib.byteCells pre) _ HO.out (Below.size HK.out) A3.out (HT.out.at HK.out)).mono ?_; rintro e w2 ⟨v2, rfl, ho2, hb2⟩
         have HO2 := Lib.hid ho2; have HK2 := Lib.hid (show Kp w w2 from Below.trans HK.out hb2)
         clear ho2 hb2)
      | (at_builtin; refine wpList_append_own _ rfl (.tmp 22) (.tmp 32) 42 rfl w.heap.size 5 i0 (.int .u8 0) 1 1 Tryd.underlying42 HI.out HZ0.out HZ1.out HZ2.out rfl (by decide) _ _ _ rfl (ownB_al HO2.out _) ⟨w2.heap.size, 0, none⟩ _ _ [.int .u8 46, .int .u8 (48 + (D1 : Int)), .int .u8 (48 + (D2 : Int))] rfl rfl (cells_new w2 [.int .u8 46, .int .u8 (48 + (D1 : Int)), .int .u8 (48 + (D2 : Int))] 5) (by intro u hu; simp at hu; rcases hu with rfl | rfl | rfl <;> rfl) A4.out A5.out (Below.size (kp_alloc HK2.out _)) ?_; intro v3 w3 hown hg _))
    have k3 : Kp w w3 := kp_grownB (kp_alloc HK2.out _) hg (ownB_al HO2.out _)
    have ho : OwnB w3 w.heap.size v3 (textL n) := by
      have h := hown
      rw [HQ.out]
      unfold OwnB
      have e1 : Lib.byteCells (pre ++ Lib.itoa (Q : Int) ++ [46, dgB D1, dgB D2]) = Lib.byteCells pre ++ Lib.byteCells (Lib.itoa (Q : Int)) ++ [.int .u8 46, .int .u8 (48 + (D1 : Int)), .int .u8 (48 + (D2 : Int))] := by
        rw [← b1.out, ← b2.out]
        simp [Lib.byteCells]
      rw [e1, List.length_append, List.length_append]
      exact h
    have hcv := ho.text (by rw [HQ.out]; simp)
    clear hown hg ho
    rw [hcv]
    go_wp2_with fail
    go_ret2
    exact ⟨rfl, k3⟩
end Go.Proofs.YtcmijedhjebpkaaDoor
