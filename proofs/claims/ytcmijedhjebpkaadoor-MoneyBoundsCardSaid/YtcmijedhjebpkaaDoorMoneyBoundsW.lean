/- The walk of MoneyBounds (with the lines of MC and MoneyKnownW: a claim has at most 60 files). -/
import Derived.Test.YtcmijedhjebpkaaDoorLH
import Derived.Test.YtcmijedhjebpkaaDoorTX
namespace Go.Proofs.YtcmijedhjebpkaaDoor
open Go.RowKit Go.Proofs.Geo Go.Proofs.Mon
set_option linter.unusedVariables false
/-- A quotient, rounded, half to even. -/
def rE (N c : Nat) : Nat := N / c + if evUp (N / c) (N % c) c then 1 else 0
theorem evUp_mono {q r r' y : Nat} (h : r ≤ r') (hu : evUp q r y = true) : evUp q r' y = true := by
  unfold evUp at *
  simp at *
  omega
theorem rE_ge (N c : Nat) : N / c ≤ rE N c := by unfold rE; omega
theorem rE_le1 (N c : Nat) : rE N c ≤ N / c + 1 := by unfold rE; split <;> omega
theorem rE_mono {N M c : Nat} (h : N ≤ M) : rE N c ≤ rE M c := by
  have hq : N / c ≤ M / c := Nat.div_le_div_right h
  rcases Nat.lt_or_ge (N / c) (M / c) with g | g
  · have := rE_le1 N c; have := rE_ge M c; omega
  · have e : N / c = M / c := by omega
    have h1 := Nat.div_add_mod N c
    have h2 := Nat.div_add_mod M c
    have hr : N % c ≤ M % c := by rw [e] at h1; omega
    unfold rE
    rw [e]
    by_cases hu : evUp (M / c) (N % c) c = true
    · rw [if_pos hu, if_pos (evUp_mono hr hu)]; omega
    · rw [if_neg hu]; split <;> omega
theorem rE_mul (t c : Nat) (h : 0 < c) : rE (t * c) c = t := by
  unfold rE
  rw [Nat.mul_div_cancel _ h, Nat.mul_mod_left]
  have : evUp t 0 c = false := by unfold evUp; simp; omega
  rw [this]; simp
theorem rE_le {N t c : Nat} (h : 0 < c) (hN : N ≤ t * c) : rE N c ≤ t := by
  have := rE_mono (c := c) hN
  rwa [rE_mul t c h] at this
theorem blw_nn {a b c : Int} (ha : 0 ≤ a) (hb : 0 ≤ b) (hc : 0 < c) : blw a b c = false := by
  unfold blw
  have h := Int.mul_nonneg ha hb
  rw [Int.sign_eq_one_of_pos hc, Int.mul_one]
  rcases Int.lt_or_eq_of_le h with g | g
  · rw [Int.sign_eq_one_of_pos g]; decide
  · rw [← g]; decide
theorem ev_nn {a b c : Int} (ha : 0 ≤ a) (hb : 0 ≤ b) (hc : 0 < c) (hlt : rE (a * b).natAbs c.natAbs < 9223372036854775808) : evR a b c = (((rE (a * b).natAbs c.natAbs : Nat) : Int), 0) := by
  unfold evR divR
  rw [if_neg (by omega), blw_nn ha hb hc]
  show sgnd (rE (a * b).natAbs c.natAbs) false = _
  unfold sgnd
  rw [if_neg (by decide), if_pos hlt]
theorem abs_mul_le {a b c : Int} (ha : 0 ≤ a) (hb : 0 ≤ b) (hbc : b ≤ c) : (a * b).natAbs ≤ a.natAbs * c.natAbs := by
  rw [Int.natAbs_mul]
  exact Nat.mul_le_mul_left _ (by omega)
/-- A share of an amount from 0 on. -/
def shF (t p o : Int) : Int := ((rE (t * p).natAbs o.natAbs : Nat) : Int)
theorem shF_nn (t p o : Int) : 0 ≤ shF t p o := by unfold shF; omega
theorem shF_le {t p o : Int} (ht : 0 ≤ t) (hp : 0 ≤ p) (hpo : p ≤ o) (ho : 0 < o) : shF t p o ≤ t := by
  have := rE_le (t := t.natAbs) (c := o.natAbs) (by omega) (abs_mul_le ht hp hpo)
  unfold shF; omega
theorem shF_mono {t p q o : Int} (ht : 0 ≤ t) (hp : 0 ≤ p) (hpq : p ≤ q) : shF t p o ≤ shF t q o := by
  have h : (t * p).natAbs ≤ (t * q).natAbs := by rw [Int.natAbs_mul, Int.natAbs_mul]; exact Nat.mul_le_mul_left _ (by omega)
  have := rE_mono (c := o.natAbs) h
  unfold shF; omega
theorem shF_mono1 {t u p o : Int} (ht : 0 ≤ t) (htu : t ≤ u) : shF t p o ≤ shF u p o := by
  have h : (t * p).natAbs ≤ (u * p).natAbs := by rw [Int.natAbs_mul, Int.natAbs_mul]; exact Nat.mul_le_mul_right _ (by omega)
  have := rE_mono (c := o.natAbs) h
  unfold shF; omega
theorem shF_all {t o : Int} (ht : 0 ≤ t) (ho : 0 < o) : shF t o o = t := by
  unfold shF
  rw [Int.natAbs_mul, rE_mul _ _ (by omega)]
  omega
theorem shF_zero {t o : Int} (ho : 0 < o) : shF t 0 o = 0 := by
  unfold shF
  have := rE_mul 0 o.natAbs (by omega)
  rw [Nat.zero_mul] at this
  rw [Int.mul_zero, Int.natAbs_zero, this]; rfl
theorem share_nn {t p o : Int} (ht : 0 ≤ t) (htm : t ≤ 1099511627775) (hp : 0 ≤ p) (hpo : p ≤ o) (ho : 0 < o) (hom : o ≤ 1099511627775) : shareR t p o = (shF t p o, 0) := by
  have hl := shF_le ht hp hpo ho
  unfold shareR
  rw [if_pos (by unfold mchk; rw [if_neg (by omega), if_neg (by omega)]), if_neg (by omega), if_neg (by omega), if_neg (by omega), if_neg (by omega)]
  unfold shF at *
  exact ev_nn ht hp ho (by omega)
theorem tax_nn {a r : Int} (ha : 0 ≤ a) (ham : a ≤ 1099511627775) (hr : 0 ≤ r) (hrm : r ≤ 1000000) : taxR a r = (shF a r 1000000, 0) := by
  have hl := shF_le (o := 1000000) ha hr hrm (by omega)
  unfold taxR
  rw [if_pos (by unfold mchk; rw [if_neg (by omega), if_neg (by omega)]), if_pos (by unfold rchk; rw [if_neg (by omega), if_neg (by omega)])]
  unfold shF at *
  exact ev_nn ha hr (by omega) (by omega)
theorem tax_neg {a r : Int} (ha : 0 ≤ a) (ham : a ≤ 1099511627775) (hr : 0 ≤ r) (hrm : r ≤ 1000000) : taxR (-a) r = (-shF a r 1000000, 0) := by
  have hl := shF_le (o := 1000000) ha hr hrm (by omega)
  have hz : a * r = 0 → shF a r 1000000 = 0 := fun h => by
    have := shF_zero (t := 0) (o := 1000000) (by omega)
    unfold shF at this ⊢
    rw [h]; rwa [Int.mul_zero] at this
  unfold taxR
  rw [if_pos (by unfold mchk; rw [if_neg (by omega), if_neg (by omega)]), if_pos (by unfold rchk; rw [if_neg (by omega), if_neg (by omega)])]
  unfold evR divR
  rw [if_neg (by omega)]
  have hn : (-a * r).natAbs = (a * r).natAbs := by rw [Int.neg_mul, Int.natAbs_neg]
  rw [hn]
  have h0 := Int.mul_nonneg ha hr
  show sgnd (rE (a * r).natAbs (1000000 : Int).natAbs) (blw (-a) r 1000000) = _
  have e : blw (-a) r 1000000 = decide (0 < a * r) := by
    unfold blw
    rw [Int.neg_mul, Int.sign_neg]
    by_cases h : 0 < a * r
    · rw [Int.sign_eq_one_of_pos h, decide_eq_true h]; decide
    · have : a * r = 0 := by omega
      rw [this]; decide
  rw [e]
  unfold sgnd
  by_cases h : 0 < a * r
  · rw [decide_eq_true h]
    unfold shF at *
    rw [if_pos rfl, if_pos (by omega)]
  · have h1 : a * r = 0 := by omega
    have h2 := hz h1
    rw [decide_eq_false h, h2]
    unfold shF at h2
    have h3 : rE (a * r).natAbs (1000000 : Int).natAbs = 0 := by omega
    rw [h3]; decide
theorem dec5 : Lib.decDigits 12345 = [49, 50, 51, 52, 53] := by
  rw [Lib.decDigits, dif_neg (by decide), show 12345 / 10 = 1234 from rfl, Lib.decDigits, dif_neg (by decide), show 1234 / 10 = 123 from rfl, Lib.decDigits, dif_neg (by decide), show 123 / 10 = 12 from rfl, Lib.decDigits_two (by decide) (by decide)]
  rfl
theorem tx1 : textL (-5) = [45, 48, 46, 48, 53] := by
  unfold textL
  rw [itoa_nn, show ((-5 : Int).natAbs / 100) = 0 from rfl, Lib.decDigits_one (by decide)]
  rfl
theorem tx2 : textL 1234567 = [49, 50, 51, 52, 53, 46, 54, 55] := by
  unfold textL
  rw [itoa_nn, show ((1234567 : Int).natAbs / 100) = 12345 from rfl, dec5]
  rfl
theorem kn_s1 : splitR (-100) [1, 1, 1] = [-34, -33, -33] := by decide
theorem kn_s2 : splitR 10 [0, 5] = [0, 10] := by decide
theorem kn_s3 : splitR 7 [3, 1] = [5, 2] := by decide
theorem kn1 (w : World) : Calls Tryd.prog 15 #[.int .i64 (-100), .slice (some ⟨w.heap.size, 0, none⟩) 3 3, .slice (some ⟨w.heap.size + 1, 0, none⟩) 3 3] ((w.alloc (.cells #[.int .i64 1, .int .i64 1, .int .i64 1] 3)).alloc (.cells #[.int .i64 (-34), .int .i64 (-33), .int .i64 (-33)] 3)) (RetT w) := by
  obtain ⟨h1, h2⟩ := lits2 w [1, 1, 1] [-34, -33, -33] _ _ 3 3 3 rfl rfl (by decide) (by decide) (i64s (by decide)) (i64s (by decide)) rfl rfl
  exact (lsplit_true (-100) _ _ [1, 1, 1] [-34, -33, -33] _ h1 h2 (by decide) (by decide) kn_s1 (by decide) (sortC_small 2 (by omega) (by omega) _ (by decide))).mono fun _ _ h => h.of2
theorem kn2 (w : World) : Calls Tryd.prog 15 #[.int .i64 10, .slice (some ⟨w.heap.size, 0, none⟩) 2 2, .slice (some ⟨w.heap.size + 1, 0, none⟩) 2 2] ((w.alloc (.cells #[.int .i64 0, .int .i64 5] 3)).alloc (.cells #[.int .i64 0, .int .i64 10] 3)) (RetT w) := by
  obtain ⟨h1, h2⟩ := lits2 w [0, 5] [0, 10] _ _ 2 2 3 rfl rfl (by decide) (by decide) (i64s (by decide)) (i64s (by decide)) rfl rfl
  exact (lsplit_true 10 _ _ [0, 5] [0, 10] _ h1 h2 (by decide) (by decide) kn_s2 (by decide) (sortC_small 1 (by omega) (by omega) _ (by decide))).mono fun _ _ h => h.of2
theorem kn3 (w : World) : Calls Tryd.prog 15 #[.int .i64 7, .slice (some ⟨w.heap.size, 0, none⟩) 2 2, .slice (some ⟨w.heap.size + 1, 0, none⟩) 2 2] ((w.alloc (.cells #[.int .i64 3, .int .i64 1] 3)).alloc (.cells #[.int .i64 5, .int .i64 2] 3)) (RetT w) := by
  obtain ⟨h1, h2⟩ := lits2 w [3, 1] [5, 2] _ _ 2 2 3 rfl rfl (by decide) (by decide) (i64s (by decide)) (i64s (by decide)) rfl rfl
  exact (lsplit_true 7 _ _ [3, 1] [5, 2] _ h1 h2 (by decide) (by decide) kn_s3 (by decide) (sortC_small 1 (by omega) (by omega) _ (by decide))).mono fun _ _ h => h.of2
theorem kn_bad (w : World) : Calls Tryd.prog 13 #[.int .i64 1, .slice (some ⟨w.heap.size, 0, none⟩) 1 1] (w.alloc (.cells #[.int .i64 0] 3)) fun e w' => e = .returned (.tuple #[.slice none 0 0, .int .i64 2]) ∧ Kp w w' := by
  have h := rdI_lit w [0] 3 1 (by decide) (i64s (by decide)) rfl
  refine (split_bad2 1 _ [0] _ (by decide) (by decide) (by decide) h).mono ?_
  rintro e w' ⟨rfl, k⟩
  exact ⟨rfl, kp_trans (kp_alloc (kp_refl _) _) k⟩
theorem kn_sh1 (w : World) : Calls Tryd.prog 12 #[.int .i64 100, .int .i64 1, .int .i64 3] w fun e w' => e = .returned (.tuple #[.int .i64 33, .int .i64 0]) ∧ Kp w w' := by
  have h := share_any 100 1 3 w
  rwa [show shareR 100 1 3 = (33, 0) by decide] at h
theorem kn_sh2 (w : World) : Calls Tryd.prog 12 #[.int .i64 5, .int .i64 1, .int .i64 2] w fun e w' => e = .returned (.tuple #[.int .i64 2, .int .i64 0]) ∧ Kp w w' := by
  have h := share_any 5 1 2 w
  rwa [show shareR 5 1 2 = (2, 0) by decide] at h
theorem kn_sh3 (w : World) : Calls Tryd.prog 12 #[.int .i64 5, .int .i64 3, .int .i64 2] w fun e w' => e = .returned (.tuple #[.int .i64 0, .int .i64 2]) ∧ Kp w w' := by
  have h := share_any 5 3 2 w
  rwa [show shareR 5 3 2 = (0, 2) by decide] at h
theorem kn_tax (w : World) : Calls Tryd.prog 11 #[.int .i64 1, .int .i64 1000001] w fun e w' => e = .returned (.tuple #[.int .i64 0, .int .i64 5]) ∧ Kp w w' := by
  have h := tax_any 1 1000001 w
  rwa [show taxR 1 1000001 = (0, 5) by decide] at h
theorem kn_tx1 (w : World) (hT : Tb w) : Calls Tryd.prog 8 #[.int .i64 (-5)] w fun e w' => e = .returned (.tuple #[.string ⟨#[45, 48, 46, 48, 53]⟩, .int .i64 0]) ∧ Kp w w' := by
  have h := text_ok (-5) w (by decide) hT
  rwa [tx1] at h
theorem kn_tx2 (w : World) (hT : Tb w) : Calls Tryd.prog 8 #[.int .i64 1234567] w fun e w' => e = .returned (.tuple #[.string ⟨#[49, 50, 51, 52, 53, 46, 54, 55]⟩, .int .i64 0]) ∧ Kp w w' := by
  have h := text_ok 1234567 w (by decide) hT
  rwa [tx2] at h
theorem kn_pa (w : World) : Calls Tryd.prog 10 #[.string ⟨#[45, 48, 46, 48, 53]⟩] w fun e w' => e = .returned (.tuple #[.int .i64 (-5), .agg #[.int .i64 0, .int .i64 0]]) ∧ Kp w w' := by
  have h := parse_any ⟨#[45, 48, 46, 48, 53]⟩ w (by decide)
  rwa [show parseR (bts ⟨#[45, 48, 46, 48, 53]⟩) = (-5, 0, 0) by decide] at h
theorem kn_t1 (w : World) : Calls Tryd.prog 14 #[.int .i64 (-1000), .int .i64 72500, .int .i64 (-72)] w (RetT w) := ltax_true _ _ _ w (by decide)
theorem kn_t2 (w : World) : Calls Tryd.prog 14 #[.int .i64 20, .int .i64 125000, .int .i64 2] w (RetT w) := ltax_true _ _ _ w (by decide)
theorem kn_f1 (w : World) : Calls Tryd.prog 16 #[.string ⟨#[48, 49, 50, 46, 51, 48]⟩, .int .i64 4, .int .i64 1] w (RetT w) := lfault_true _ _ _ w (by decide) (by decide)
theorem kn_f2 (w : World) : Calls Tryd.prog 16 #[.string ⟨#[45, 48, 46, 48, 48]⟩, .int .i64 5, .int .i64 0] w (RetT w) := lfault_true _ _ _ w (by decide) (by decide)
theorem kn_f3 (w : World) : Calls Tryd.prog 16 #[.string ⟨#[]⟩, .int .i64 4, .int .i64 0] w (RetT w) := lfault_true _ _ _ w (by decide) (by decide)
theorem kn_f4 (w : World) : Calls Tryd.prog 16 #[.string ⟨#[49, 46, 50, 51, 52]⟩, .int .i64 4, .int .i64 4] w (RetT w) := lfault_true _ _ _ w (by decide) (by decide)
theorem alloc_c0 (w : World) (a b : Value) (t : TypeId) : (w.alloc (.cells #[a, b] t)).cell? ⟨w.heap.size, 0, none⟩ = some a := by simp [go_sem]
set_option maxHeartbeats 16000000 in
set_option maxRecDepth 100000 in
theorem moneyKnown_walk (w : World) (hT : Tb w) : Calls Tryd.prog 4 #[] w fun e w' => e = .returned (.bool true) ∧ Kp w w' := by
  have K : Kp w w := kp_refl _
  have HT := Lib.hid hT
  clear hT
  go_enter Tryd.func4, Tryd.ntmps4
  go_wp2_with (first
    | (go_at_call 11; refine (kn_tax _).mono ?_; rintro e wk ⟨rfl, hk⟩; replace K := kp_trans K hk; clear hk)
    | (go_at_call 12; (with_reducible refine (kn_sh1 _).mono ?_); rintro e wk ⟨rfl, hk⟩; replace K := kp_trans K hk; clear hk)
    | (go_at_call 12; (with_reducible refine (kn_sh2 _).mono ?_); rintro e wk ⟨rfl, hk⟩; replace K := kp_trans K hk; clear hk)
    | (go_at_call 12; (with_reducible refine (kn_sh3 _).mono ?_); rintro e wk ⟨rfl, hk⟩; replace K := kp_trans K hk; clear hk)
    | (go_at_call 13; refine (kn_bad _).mono ?_; rintro e wk ⟨rfl, hk⟩; replace K := kp_trans K hk; clear hk)
    | (go_at_call 8; (with_reducible refine (kn_tx1 _ (HT.out.kp K)).mono ?_); rintro e wk ⟨rfl, hk⟩; replace K := kp_trans K hk; clear hk)
    | (go_at_call 8; (with_reducible refine (kn_tx2 _ (HT.out.kp K)).mono ?_); rintro e wk ⟨rfl, hk⟩; replace K := kp_trans K hk; clear hk)
    | (go_at_call 10; refine (kn_pa _).mono ?_; rintro e wk ⟨rfl, hk⟩; replace K := kp_trans K hk; clear hk)
    | (go_at_call 14; (with_reducible refine (kn_t1 _).mono ?_); rintro e wk ⟨rfl, hk⟩; have c0 := kp_cell hk (alloc_c0 _ _ _ _); replace K := kp_trans (kp_alloc K _) hk; clear hk)
    | (go_at_call 14; (with_reducible refine (kn_t2 _).mono ?_); rintro e wk ⟨rfl, hk⟩; replace c0 := kp_cell hk c0; replace K := kp_trans K hk; clear hk)
    | (go_at_call 15; (with_reducible refine (kn1 _).mono ?_); rintro e wk ⟨rfl, hk⟩; replace c0 := kp_cell hk c0; replace K := kp_trans K hk; clear hk)
    | (go_at_call 15; (with_reducible refine (kn2 _).mono ?_); rintro e wk ⟨rfl, hk⟩; replace c0 := kp_cell hk c0; replace K := kp_trans K hk; clear hk)
    | (go_at_call 15; (with_reducible refine (kn3 _).mono ?_); rintro e wk ⟨rfl, hk⟩; replace c0 := kp_cell hk c0; replace K := kp_trans K hk; clear hk)
    | (go_at_call 7; (with_reducible refine (awake_any _).mono ?_); rintro e wk ⟨rfl, hk⟩; replace c0 := kp_cell hk c0; replace K := kp_trans K hk; clear hk)
    | (go_at_call 16; (with_reducible refine (kn_f1 _).mono ?_); rintro e wk ⟨rfl, hk⟩; replace c0 := kp_cell hk c0; replace K := kp_trans K hk; clear hk)
    | (go_at_call 16; (with_reducible refine (kn_f2 _).mono ?_); rintro e wk ⟨rfl, hk⟩; replace c0 := kp_cell hk c0; replace K := kp_trans K hk; clear hk)
    | (go_at_call 16; (with_reducible refine (kn_f3 _).mono ?_); rintro e wk ⟨rfl, hk⟩; replace c0 := kp_cell hk c0; replace K := kp_trans K hk; clear hk)
    | (go_at_call 16; (with_reducible refine (kn_f4 _).mono ?_); rintro e wk ⟨rfl, hk⟩; replace c0 := kp_cell hk c0; replace K := kp_trans K hk; clear hk))
  go_ret
  exact ⟨rfl, K⟩
set_option maxHeartbeats 8000000 in
set_option maxRecDepth 100000 in
theorem moneyBounds_walk (a b r q : Int) (w : World) (hT : Tb w) : Calls Tryd.prog 5 #[.int .i64 a, .int .i64 b, .int .i64 r, .int .i64 q] w fun e w' => e = .returned (.bool true) ∧ Kp w w' := by
  have K : Kp w w := kp_refl _
  have KN := Lib.hid (fun w hT => moneyKnown_walk w hT)
  have HT := Lib.hid hT
  clear hT
  by_cases g : a < 0 ∨ b < a ∨ 1099511627775 < b ∨ r < 0 ∨ q < r ∨ 1000000 < q
  · by_cases g1 : a < 0
    · clear g
      go_enter Tryd.func5, Tryd.ntmps5
      go_wp2_with (go_at_call 4; refine (KN.out _ (HT.out.kp K)).mono ?_; rintro e wk ⟨rfl, hk⟩; replace K := kp_trans K hk; clear hk)
      go_ret
      exact ⟨rfl, K⟩
    by_cases g2 : b < a
    · clear g
      go_enter Tryd.func5, Tryd.ntmps5
      go_wp2_with (go_at_call 4; refine (KN.out _ (HT.out.kp K)).mono ?_; rintro e wk ⟨rfl, hk⟩; replace K := kp_trans K hk; clear hk)
      go_ret
      exact ⟨rfl, K⟩
    by_cases g3 : 1099511627775 < b
    · clear g
      go_enter Tryd.func5, Tryd.ntmps5
      go_wp2_with (go_at_call 4; refine (KN.out _ (HT.out.kp K)).mono ?_; rintro e wk ⟨rfl, hk⟩; replace K := kp_trans K hk; clear hk)
      go_ret
      exact ⟨rfl, K⟩
    by_cases g4 : r < 0
    · clear g
      go_enter Tryd.func5, Tryd.ntmps5
      go_wp2_with (go_at_call 4; refine (KN.out _ (HT.out.kp K)).mono ?_; rintro e wk ⟨rfl, hk⟩; replace K := kp_trans K hk; clear hk)
      go_ret
      exact ⟨rfl, K⟩
    by_cases g5 : q < r
    · clear g
      go_enter Tryd.func5, Tryd.ntmps5
      go_wp2_with (go_at_call 4; refine (KN.out _ (HT.out.kp K)).mono ?_; rintro e wk ⟨rfl, hk⟩; replace K := kp_trans K hk; clear hk)
      go_ret
      exact ⟨rfl, K⟩
    have g6 : 1000000 < q := by omega
    clear g
    go_enter Tryd.func5, Tryd.ntmps5
    go_wp2_with (go_at_call 4; refine (KN.out _ (HT.out.kp K)).mono ?_; rintro e wk ⟨rfl, hk⟩; replace K := kp_trans K hk; clear hk)
    go_ret
    exact ⟨rfl, K⟩
  · have g1 : ¬ a < 0 := by omega
    have g2 : ¬ b < a := by omega
    have g3 : ¬ 1099511627775 < b := by omega
    have g4 : ¬ r < 0 := by omega
    have g5 : ¬ q < r := by omega
    have g6 : ¬ 1000000 < q := by omega
    clear g
    have t1 := fun w => tax_any a r w
    have t2 := fun w => tax_any b r w
    have t3 := fun w => tax_any a q w
    have t4 := fun w => tax_any (-a) r w
    rw [tax_nn (by omega) (by omega) (by omega) (by omega)] at t1
    rw [tax_nn (by omega) (by omega) (by omega) (by omega)] at t2
    rw [tax_nn (by omega) (by omega) (by omega) (by omega)] at t3
    rw [tax_neg (by omega) (by omega) (by omega) (by omega)] at t4
    have l1 := shF_nn a r 1000000
    have l2 := shF_le (t := a) (p := r) (o := 1000000) (by omega) (by omega) (by omega) (by omega)
    have l3 := shF_mono1 (t := a) (u := b) (p := r) (o := 1000000) (by omega) (by omega)
    have l4 := shF_mono (t := a) (p := r) (q := q) (o := 1000000) (by omega) (by omega) (by omega)
    generalize shF a r 1000000 = X at *
    generalize shF b r 1000000 = Y at *
    generalize shF a q 1000000 = Z at *
    have T1 := Lib.hid t1; have T2 := Lib.hid t2; have T3 := Lib.hid t3; have T4 := Lib.hid t4
    clear t1 t2 t3 t4
    have wa : IntKind.i64.wrap (-a) = -a := IntWalk.i64_in _ (by omega)
    have wx : IntKind.i64.wrap (-X) = -X := IntWalk.i64_in _ (by omega)
    have n1 : (-X == -X) = true := by simp
    go_enter Tryd.func5, Tryd.ntmps5
    go_wp2_with (first
      | (go_at_call 4; refine (KN.out _ (HT.out.kp K)).mono ?_; rintro e wk ⟨rfl, hk⟩; replace K := kp_trans K hk; clear hk)
      | (go_at_call 11; (with_reducible refine (T1.out _).mono ?_); have M1 := KN; rintro e wk ⟨rfl, hk⟩; replace K := kp_trans K hk; clear hk)
      | (go_at_call 11; (with_reducible refine (T2.out _).mono ?_); rintro e wk ⟨rfl, hk⟩; replace K := kp_trans K hk; clear hk)
      | (go_at_call 11; (with_reducible refine (T3.out _).mono ?_); rintro e wk ⟨rfl, hk⟩; replace K := kp_trans K hk; clear hk)
      | (go_at_call 11; (with_reducible refine (T4.out _).mono ?_); rintro e wk ⟨rfl, hk⟩; replace K := kp_trans K hk; clear hk))
    go_ret
    exact ⟨rfl, K⟩
end Go.Proofs.YtcmijedhjebpkaaDoor
