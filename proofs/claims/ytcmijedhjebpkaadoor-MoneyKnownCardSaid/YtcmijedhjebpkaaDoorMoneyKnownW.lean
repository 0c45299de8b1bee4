/- The walk of MoneyKnown. -/
import Derived.Test.YtcmijedhjebpkaaDoorLH
import Derived.Test.YtcmijedhjebpkaaDoorTX
namespace Go.Proofs.YtcmijedhjebpkaaDoor
open Go.RowKit Go.Proofs.Geo Go.Proofs.Mon
set_option linter.unusedVariables false
theorem dec5 : Lib.decDigits 12345 = [49, 50, 51, 52, 53] := by
  rw [Lib.decDigits, dif_neg (by decide), show 12345 / 10 = 1234 from rfl, Lib.decDigits, dif_neg (by decide), show 1234 / 10 = 123 from rfl, Lib.decDigits, dif_neg (by decide), show 123 / 10 = 12 from rfl, Lib.decDigits_two (by decide) (by decide)]
  rfl
theorem tx1 : textL (-5) = [45, 48, 46, 48, 53] := by
  unfold textL
  rw [itoa_nn, show ((-5 : Int).natAbs / 100) = 0 from rfl, Lib.decDigits_one (by decide)]
  rfl
theorem tx2 : textL 1234567 = [49, 50, 51, 52, 53, 46, 54, 55] := by
  unfold textL
  rw [itoa_nn, show ((1234567 : Int).natAbs / 100) = 12345 from rfl, dec5]
  rfl
theorem kn_s1 : splitR (-100) [1, 1, 1] = [-34, -33, -33] := by decide
theorem kn_s2 : splitR 10 [0, 5] = [0, 10] := by decide
theorem kn_s3 : splitR 7 [3, 1] = [5, 2] := by decide
theorem kn1 (w : World) : Calls Tryd.prog 15 #[.int .i64 (-100), .slice (some ⟨w.heap.size, 0, none⟩) 3 3, .slice (some ⟨w.heap.size + 1, 0, none⟩) 3 3] ((w.alloc (.cells #[.int .i64 1, .int .i64 1, .int .i64 1] 3)).alloc (.cells #[.int .i64 (-34), .int .i64 (-33), .int .i64 (-33)] 3)) (RetT w) := by
  obtain ⟨h1, h2⟩ := lits2 w [1, 1, 1] [-34, -33, -33] _ _ 3 3 3 rfl rfl (by decide) (by decide) (i64s (by decide)) (i64s (by decide)) rfl rfl
  exact (lsplit_true (-100) _ _ [1, 1, 1] [-34, -33, -33] _ h1 h2 (by decide) (by decide) kn_s1 (by decide) (sortC_small 2 (by omega) (by omega) _ (by decide))).mono fun _ _ h => h.of2
theorem kn2 (w : World) : Calls Tryd.prog 15 #[.int .i64 10, .slice (some ⟨w.heap.size, 0, none⟩) 2 2, .slice (some ⟨w.heap.size + 1, 0, none⟩) 2 2] ((w.alloc (.cells #[.int .i64 0, .int .i64 5] 3)).alloc (.cells #[.int .i64 0, .int .i64 10] 3)) (RetT w) := by
  obtain ⟨h1, h2⟩ := lits2 w [0, 5] [0, 10] _ _ 2 2 3 rfl rfl (by decide) (by decide) (i64s (by decide)) (i64s (by decide)) rfl rfl
  exact (lsplit_true 10 _ _ [0, 5] [0, 10] _ h1 h2 (by decide) (by decide) kn_s2 (by decide) (sortC_small 1 (by omega) (by omega) _ (by decide))).mono fun _ _ h => h.of2
theorem kn3 (w : World) : Calls Tryd.prog 15 #[.int .i64 7, .slice (some ⟨w.heap.size, 0, none⟩) 2 2, .slice (some ⟨w.heap.size + 1, 0, none⟩) 2 2] ((w.alloc (.cells #[.int .i64 3, .int .i64 1] 3)).alloc (.cells #[.int .i64 5, .int .i64 2] 3)) (RetT w) := by
  obtain ⟨h1, h2⟩ := lits2 w [3, 1] [5, 2] _ _ 2 2 3 rfl rfl (by decide) (by decide) (i64s (by decide)) (i64s (by decide)) rfl rfl
  exact (lsplit_true 7 _ _ [3, 1] [5, 2] _ h1 h2 (by decide) (by decide) kn_s3 (by decide) (sortC_small 1 (by omega) (by omega) _ (by decide))).mono fun _ _ h => h.of2
theorem kn_bad (w : World) : Calls Tryd.prog 13 #[.int .i64 1, .slice (some ⟨w.heap.size, 0, none⟩) 1 1] (w.alloc (.cells #[.int .i64 0] 3)) fun e w' => e = .returned (.tuple #[.slice none 0 0, .int .i64 2]) ∧ Kp w w' := by
  have h := rdI_lit w [0] 3 1 (by decide) (i64s (by decide)) rfl
  refine (split_bad2 1 _ [0] _ (by decide) (by decide) (by decide) h).mono ?_
  rintro e w' ⟨rfl, k⟩
  exact ⟨rfl, kp_trans (kp_alloc (kp_refl _) _) k⟩
theorem kn_sh1 (w : World) : Calls Tryd.prog 12 #[.int .i64 100, .int .i64 1, .int .i64 3] w fun e w' => e = .returned (.tuple #[.int .i64 33, .int .i64 0]) ∧ Kp w w' := by
  have h := share_any 100 1 3 w
  rwa [show shareR 100 1 3 = (33, 0) by decide] at h
theorem kn_sh2 (w : World) : Calls Tryd.prog 12 #[.int .i64 5, .int .i64 1, .int .i64 2] w fun e w' => e = .returned (.tuple #[.int .i64 2, .int .i64 0]) ∧ Kp w w' := by
  have h := share_any 5 1 2 w
  rwa [show shareR 5 1 2 = (2, 0) by decide] at h
theorem kn_sh3 (w : World) : Calls Tryd.prog 12 #[.int .i64 5, .int .i64 3, .int .i64 2] w fun e w' => e = .returned (.tuple #[.int .i64 0, .int .i64 2]) ∧ Kp w w' := by
  have h := share_any 5 3 2 w
  rwa [show shareR 5 3 2 = (0, 2) by decide] at h
theorem kn_tax (w : World) : Calls Tryd.prog 11 #[.int .i64 1, .int .i64 1000001] w fun e w' => e = .returned (.tuple #[.int .i64 0, .int .i64 5]) ∧ Kp w w' := by
  have h := tax_any 1 1000001 w
  rwa [show taxR 1 1000001 = (0, 5) by decide] at h
theorem kn_tx1 (w : World) (hT : Tb w) : Calls Tryd.prog 8 #[.int .i64 (-5)] w fun e w' => e = .returned (.tuple #[.string ⟨#[45, 48, 46, 48, 53]⟩, .int .i64 0]) ∧ Kp w w' := by
  have h := text_ok (-5) w (by decide) hT
  rwa [tx1] at h
theorem kn_tx2 (w : World) (hT : Tb w) : Calls Tryd.prog 8 #[.int .i64 1234567] w fun e w' => e = .returned (.tuple #[.string ⟨#[49, 50, 51, 52, 53, 46, 54, 55]⟩, .int .i64 0]) ∧ Kp w w' := by
  have h := text_ok 1234567 w (by decide) hT
  rwa [tx2] at h
theorem kn_pa (w : World) : Calls Tryd.prog 10 #[.string ⟨#[45, 48, 46, 48, 53]⟩] w fun e w' => e = .returned (.tuple #[.int .i64 (-5), .agg #[.int .i64 0, .int .i64 0]]) ∧ Kp w w' := by
  have h := parse_any ⟨#[45, 48, 46, 48, 53]⟩ w (by decide)
  rwa [show parseR (bts ⟨#[45, 48, 46, 48, 53]⟩) = (-5, 0, 0) by decide] at h
theorem kn_t1 (w : World) : Calls Tryd.prog 14 #[.int .i64 (-1000), .int .i64 72500, .int .i64 (-72)] w (RetT w) := ltax_true _ _ _ w (by decide)
theorem kn_t2 (w : World) : Calls Tryd.prog 14 #[.int .i64 20, .int .i64 125000, .int .i64 2] w (RetT w) := ltax_true _ _ _ w (by decide)
theorem kn_f1 (w : World) : Calls Tryd.prog 16 #[.string ⟨#[48, 49, 50, 46, 51, 48]⟩, .int .i64 4, .int .i64 1] w (RetT w) := lfault_true _ _ _ w (by decide) (by decide)
theorem kn_f2 (w : World) : Calls Tryd.prog 16 #[.string ⟨#[45, 48, 46, 48, 48]⟩, .int .i64 5, .int .i64 0] w (RetT w) := lfault_true _ _ _ w (by decide) (by decide)
theorem kn_f3 (w : World) : Calls Tryd.prog 16 #[.string ⟨#[]⟩, .int .i64 4, .int .i64 0] w (RetT w) := lfault_true _ _ _ w (by decide) (by decide)
theorem kn_f4 (w : World) : Calls Tryd.prog 16 #[.string ⟨#[49, 46, 50, 51, 52]⟩, .int .i64 4, .int .i64 4] w (RetT w) := lfault_true _ _ _ w (by decide) (by decide)
theorem alloc_c0 (w : World) (a b : Value) (t : TypeId) : (w.alloc (.cells #[a, b] t)).cell? ⟨w.heap.size, 0, none⟩ = some a := by simp [go_sem]
set_option maxHeartbeats 16000000 in
set_option maxRecDepth 100000 in
theorem moneyKnown_walk (w : World) (hT : Tb w) : Calls Tryd.prog 4 #[] w fun e w' => e = .returned (.bool true) ∧ Kp w w' := by
  have K : Kp w w := kp_refl _
  have HT := Lib.hid hT
  clear hT
  go_enter Tryd.func4, Tryd.ntmps4
  go_wp2_with (first
    | (go_at_call 11; refine (kn_tax _).mono ?_; rintro e wk ⟨rfl, hk⟩; replace K := kp_trans K hk; clear hk)
    | (go_at_call 12; (with_reducible refine (kn_sh1 _).mono ?_); rintro e wk ⟨rfl, hk⟩; replace K := kp_trans K hk; clear hk)
    | (go_at_call 12; (with_reducible refine (kn_sh2 _).mono ?_); rintro e wk ⟨rfl, hk⟩; replace K := kp_trans K hk; clear hk)
    | (go_at_call 12; (with_reducible refine (kn_sh3 _).mono ?_); rintro e wk ⟨rfl, hk⟩; replace K := kp_trans K hk; clear hk)
    | (go_at_call 13; refine (kn_bad _).mono ?_; rintro e wk ⟨rfl, hk⟩; replace K := kp_trans K hk; clear hk)
    | (go_at_call 8; (with_reducible refine (kn_tx1 _ (HT.out.kp K)).mono ?_); rintro e wk ⟨rfl, hk⟩; replace K := kp_trans K hk; clear hk)
    | (go_at_call 8; (with_reducible refine (kn_tx2 _ (HT.out.kp K)).mono ?_); rintro e wk ⟨rfl, hk⟩; replace K := kp_trans K hk; clear hk)
    | (go_at_call 10; refine (kn_pa _).mono ?_; rintro e wk ⟨rfl, hk⟩; replace K := kp_trans K hk; clear hk)
    | (go_at_call 14; (with_reducible refine (kn_t1 _).mono ?_); rintro e wk ⟨rfl, hk⟩; have c0 := kp_cell hk (alloc_c0 _ _ _ _); replace K := kp_trans (kp_alloc K _) hk; clear hk)
    | (go_at_call 14; (with_reducible refine (kn_t2 _).mono ?_); rintro e wk ⟨rfl, hk⟩; replace c0 := kp_cell hk c0; replace K := kp_trans K hk; clear hk)
    | (go_at_call 15; (with_reducible refine (kn1 _).mono ?_); rintro e wk ⟨rfl, hk⟩; replace c0 := kp_cell hk c0; replace K := kp_trans K hk; clear hk)
    | (go_at_call 15; (with_reducible refine (kn2 _).mono ?_); rintro e wk ⟨rfl, hk⟩; replace c0 := kp_cell hk c0; replace K := kp_trans K hk; clear hk)
    | (go_at_call 15; (with_reducible refine (kn3 _).mono ?_); rintro e wk ⟨rfl, hk⟩; replace c0 := kp_cell hk c0; replace K := kp_trans K hk; clear hk)
    | (go_at_call 7; (with_reducible refine (awake_any _).mono ?_); rintro e wk ⟨rfl, hk⟩; replace c0 := kp_cell hk c0; replace K := kp_trans K hk; clear hk)
    | (go_at_call 16; (with_reducible refine (kn_f1 _).mono ?_); rintro e wk ⟨rfl, hk⟩; replace c0 := kp_cell hk c0; replace K := kp_trans K hk; clear hk)
    | (go_at_call 16; (with_reducible refine (kn_f2 _).mono ?_); rintro e wk ⟨rfl, hk⟩; replace c0 := kp_cell hk c0; replace K := kp_trans K hk; clear hk)
    | (go_at_call 16; (with_reducible refine (kn_f3 _).mono ?_); rintro e wk ⟨rfl, hk⟩; replace c0 := kp_cell hk c0; replace K := kp_trans K hk; clear hk)
    | (go_at_call 16; (with_reducible refine (kn_f4 _).mono ?_); rintro e wk ⟨rfl, hk⟩; replace c0 := kp_cell hk c0; replace K := kp_trans K hk; clear hk))
  go_ret
  exact ⟨rfl, K⟩
end Go.Proofs.YtcmijedhjebpkaaDoor
