/- The walk of MoneyBack (with the lines of PQ: a claim has at most 60 files). -/
import Derived.Test.YtcmijedhjebpkaaDoorLH
import Derived.Test.YtcmijedhjebpkaaDoorTX
import Derived.Test.YtcmijedhjebpkaaDoorPP
namespace Go.Proofs.YtcmijedhjebpkaaDoor
open Go.RowKit Go.Proofs.Geo Go.Proofs.Mon
set_option linter.unusedVariables false
/-- Bytes as numbers. -/
def ints8 (l : List UInt8) : List Int := l.map fun c => (c.toNat : Int)
theorem bts_arr (l : List UInt8) : bts ⟨l.toArray⟩ = ints8 l := by simp [bts, ints8]
theorem ints8_inj {l m : List UInt8} (h : ints8 l = ints8 m) : l = m := by
  unfold ints8 at h
  exact List.map_inj_right (fun a b e => UInt8.toNat_inj.1 (by omega)) |>.1 h
/-- The digits of a number, as numbers. -/
def digI (u : Nat) : List Int := ints8 (Lib.decDigits u)
theorem digI_small {u : Nat} (h : u < 10) : digI u = [48 + (u : Int)] := by
  unfold digI; rw [Lib.decDigits_one h]
  have := dgB_val h
  unfold dgB at this
  simp [ints8]; exact this
theorem digI_big {u : Nat} (h : ¬ u < 10) : digI u = digI (u / 10) ++ [48 + ((u % 10 : Nat) : Int)] := by
  unfold digI
  rw [Lib.decDigits, dif_neg h]
  have := dgB_val (d := u % 10) (by omega)
  unfold dgB at this
  simp only [ints8, List.map_append, List.map_cons, List.map_nil]
  rw [this]
/-- What digits come to. -/
def valI (l : List Int) : Int := l.foldl (fun v c => 10 * v + (c - 48)) 0
theorem valI_snoc (l : List Int) (c : Int) : valI (l ++ [c]) = 10 * valI l + (c - 48) := by simp [valI]
theorem digI_all (u : Nat) : ∀ c ∈ digI u, isDg c = true := by
  induction u using Nat.strongRecOn with
  | _ u ih =>
    by_cases h : u < 10
    · rw [digI_small h]; intro c hc; simp at hc; subst hc; unfold isDg; simp; omega
    · rw [digI_big h]; intro c hc
      rw [List.mem_append] at hc
      rcases hc with hc | hc
      · exact ih (u / 10) (by omega) c hc
      · simp at hc; subst hc; unfold isDg; simp; omega
theorem digI_val (u : Nat) : valI (digI u) = (u : Int) := by
  induction u using Nat.strongRecOn with
  | _ u ih =>
    by_cases h : u < 10
    · rw [digI_small h]; simp [valI]; omega
    · rw [digI_big h, valI_snoc, ih (u / 10) (by omega)]; omega
theorem digI_ne (u : Nat) : digI u ≠ [] := by
  by_cases h : u < 10
  · rw [digI_small h]; simp
  · rw [digI_big h]; simp
/-- The first digit is 0 just of 0. -/
theorem digI_head (u : Nat) : ∃ c t, digI u = c :: t ∧ (c = 48 → t = []) ∧ (c = 48 → u = 0) := by
  induction u using Nat.strongRecOn with
  | _ u ih =>
    by_cases h : u < 10
    · exact ⟨48 + u, [], by rw [digI_small h], fun _ => rfl, fun e => by omega⟩
    · obtain ⟨c, t, e, h1, h2⟩ := ih (u / 10) (by omega)
      exact ⟨c, t ++ [48 + ((u % 10 : Nat) : Int)], by rw [digI_big h, e]; rfl, fun hc => by have := h2 hc; omega, fun hc => by have := h2 hc; omega⟩
theorem digI_len (u : Nat) : (digI u).length = Lib.nDigits u := by unfold digI ints8; rw [List.length_map, Lib.decDigits_length]
/-- Digits without a 0 ahead are those of what they come to. -/
theorem digI_of : ∀ (n : Nat) (l : List Int), l.length = n → l ≠ [] → (∀ c ∈ l, isDg c = true) → (l.getD 0 0 = 48 → l.length = 1) → digI (valI l).toNat = l ∧ 0 ≤ valI l ∧ (l.getD 0 0 ≠ 48 → 1 ≤ valI l) := by
  intro n
  induction n with
  | zero => intro l h h0; exact absurd (List.eq_nil_of_length_eq_zero h) h0
  | succ n ih =>
    intro l h h0 ha hz
    obtain ⟨m, c, rfl⟩ : ∃ m c, l = m ++ [c] := ⟨l.dropLast, l.getLast h0, (List.dropLast_concat_getLast h0).symm⟩
    have hc := isDg_bd (ha c (by simp))
    rw [valI_snoc]
    by_cases hm : m = []
    · subst hm
      simp only [valI, List.foldl_nil, List.nil_append]
      have e : (10 * 0 + (c - 48)).toNat = (c - 48).toNat := by omega
      rw [e, digI_small (by omega)]
      refine ⟨by rw [show 48 + ((c - 48).toNat : Int) = c by omega], by omega, fun h1 => ?_⟩
      simp at h1; omega
    · have hg : (m ++ [c]).getD 0 0 = m.getD 0 0 := by
        cases m with
        | nil => exact absurd rfl hm
        | cons a m => rfl
      rw [hg] at hz ⊢
      have hlen : m.length = n := by simp at h; exact h
      have hm0 : m.getD 0 0 ≠ 48 := fun e => by
        have := hz e
        simp at this
        exact hm this
      obtain ⟨i1, i2, i3⟩ := ih m hlen hm (fun x hx => ha x (by simp [hx])) (fun e => absurd e hm0)
      have i4 := i3 hm0
      refine ⟨?_, by omega, fun _ => by omega⟩
      rw [digI_big (by omega), show (10 * valI m + (c - 48)).toNat / 10 = (valI m).toNat by omega, i1, show ((10 * valI m + (c - 48)).toNat % 10 : Nat) = (c - 48).toNat by omega, show 48 + ((c - 48).toNat : Int) = c by omega]
/-- Capped digits come to what they come to, capped. -/
theorem numV_val (l : List Int) (fr : Nat) : ∀ j, (∀ i, i < j → isDg (l.getD (fr + i) 0) = true) → fr + j ≤ l.length → numV l fr j = cap50 (valI ((l.drop fr).take j)) ∧ 0 ≤ valI ((l.drop fr).take j) := by
  intro j
  induction j with
  | zero => intro _ _; exact ⟨by simp only [numV, valI, cap50, List.take_zero, List.foldl_nil]; omega, by simp [valI]⟩
  | succ j ih =>
    intro h hl
    obtain ⟨e, i0⟩ := ih (fun i hi => h i (by omega)) (by omega)
    have hd := isDg_bd (h j (by omega))
    have et : (l.drop fr).take (j + 1) = (l.drop fr).take j ++ [l.getD (fr + j) 0] := by
      have hj : j < (l.drop fr).length := by rw [List.length_drop]; omega
      rw [List.take_succ_eq_append_getElem hj, List.getElem_drop, List.getD_eq_getElem?_getD, List.getElem?_eq_getElem (by omega)]; rfl
    rw [et, valI_snoc]
    unfold numV
    rw [e]
    unfold cap50
    omega
theorem takeW_app (p : Int → Bool) (l m : List Int) (h : ∀ c ∈ l, p c = true) (hm : p (m.getD 0 0) = false) : (l ++ m).takeWhile p = l := by
  induction l with
  | nil =>
    cases m with
    | nil => rfl
    | cons a m => simp at hm; simp [hm]
  | cons a l ih =>
    rw [List.cons_append, List.takeWhile_cons, if_pos (h a (by simp)), ih (fun c hc => h c (by simp [hc]))]
/-- The told text, as numbers. -/
theorem textL_ints (n : Int) : ints8 (textL n) = (if n < 0 then [45] else []) ++ digI (n.natAbs / 100) ++ [46, 48 + ((n.natAbs / 10 % 10 : Nat) : Int), 48 + ((n.natAbs % 10 : Nat) : Int)] := by
  unfold textL
  rw [itoa_nn]
  have h1 := dgB_val (d := n.natAbs / 10 % 10) (by omega)
  have h2 := dgB_val (d := n.natAbs % 10) (by omega)
  unfold digI ints8
  rw [List.map_append, List.map_append, List.map_cons, List.map_cons, List.map_cons, List.map_nil, h1, h2]
  split <;> rfl
theorem getD_app (D r : List Int) (i : Nat) : (D ++ r).getD (D.length + i) 0 = r.getD i 0 := by
  rw [List.getD_eq_getElem?_getD, List.getElem?_append_right (by omega), List.getD_eq_getElem?_getD, show D.length + i - D.length = i by omega]
theorem getD_in (D r : List Int) {i : Nat} (h : i < D.length) : (D ++ r).getD i 0 = D.getD i 0 := by
  rw [List.getD_eq_getElem?_getD, List.getElem?_append_left h, List.getD_eq_getElem?_getD]
theorem getD_mem {D : List Int} {i : Nat} (h : i < D.length) : D.getD i 0 ∈ D := by
  rw [List.getD_eq_getElem?_getD, List.getElem?_eq_getElem h]; exact List.getElem_mem h
/-- What is told is read as it was. -/
theorem parse_told (n : Int) (h : mchk n = 0) : parseR (ints8 (textL n)) = (n, 0, 0) := by
  have hb := mchk_zero h
  rw [textL_ints]
  obtain ⟨M, hM⟩ : ∃ M, n.natAbs = M := ⟨_, rfl⟩
  rw [hM]
  obtain ⟨sg, hsg⟩ : ∃ sg : List Int, (if n < 0 then [45] else []) = sg := ⟨_, rfl⟩
  rw [hsg]
  obtain ⟨x1, hx1⟩ : ∃ x : Int, 48 + ((M / 10 % 10 : Nat) : Int) = x := ⟨_, rfl⟩
  obtain ⟨x2, hx2⟩ : ∃ x : Int, 48 + ((M % 10 : Nat) : Int) = x := ⟨_, rfl⟩
  rw [hx1, hx2]
  have hlenD : (digI (M / 100)).length ≤ 11 := by rw [digI_len]; exact nDig_le 10 _ (by omega)
  have hval := digI_val (M / 100)
  have hall := digI_all (M / 100)
  obtain ⟨c, t, hct, hc1, _⟩ := digI_head (M / 100)
  have hne : 0 < (digI (M / 100)).length := by rw [hct]; simp
  have hg0 : (digI (M / 100)).getD 0 0 = c := by rw [hct]; rfl
  have hcl : c = 48 → (digI (M / 100)).length = 1 := fun e => by rw [hct, hc1 e]; rfl
  generalize digI (M / 100) = D at *
  obtain ⟨l, hl⟩ : ∃ l, sg ++ D ++ [46, x1, x2] = l := ⟨_, rfl⟩
  rw [hl]
  have hlen : l.length = sg.length + D.length + 3 := by rw [← hl, List.length_append, List.length_append]; rfl
  have hgo : ∀ i, l.getD (sg.length + i) 0 = (D ++ [46, x1, x2]).getD i 0 := fun i => by rw [← hl, List.append_assoc]; exact getD_app _ _ _
  have hge : ∀ i, l.getD (sg.length + D.length + i) 0 = ([46, x1, x2] : List Int).getD i 0 := fun i => by rw [Nat.add_assoc, hgo]; exact getD_app _ _ _
  have hdr : l.drop sg.length = D ++ [46, x1, x2] := by rw [← hl, List.append_assoc]; simp
  have hsl : sg.length ≤ 1 := by rw [← hsg]; split <;> simp
  have hcd : isDg c = true := by rw [← hg0]; exact hall _ (getD_mem hne)
  have hcb := isDg_bd hcd
  have hf0 : l.getD sg.length 0 = c := by have := hgo 0; rw [Nat.add_zero] at this; rw [this, getD_in _ _ hne, hg0]
  have hfr : frE l = sg.length := by
    unfold frE
    by_cases hn : n < 0
    · have : sg = [45] := by rw [← hsg, if_pos hn]
      subst this
      rw [← hl]; rfl
    · have : sg = [] := by rw [← hsg, if_neg hn]
      subst this
      rw [List.length_nil] at hf0 ⊢
      rw [hf0, if_neg (by omega)]
  have he : runE l sg.length = D.length := by
    unfold runE
    rw [hf0]
    by_cases h48 : c = 48
    · rw [if_pos h48, hcl h48]
    · rw [if_neg h48, hdr, takeW_app isDg D _ hall (by rfl)]
  have hnv := (numV_val l sg.length D.length (fun i hi => by rw [hgo, getD_in _ _ hi]; exact hall _ (getD_mem hi)) (by omega)).1
  rw [hdr, List.take_left, hval] at hnv
  have g0 := hge 0
  have g1 := hge 1
  have g2 := hge 2
  rw [Nat.add_zero] at g0
  have e1 : l.getD (sg.length + D.length + 1) 0 = x1 := g1
  have e2 : l.getD (sg.length + D.length + 2) 0 = x2 := g2
  rw [pr_tell (fr := sg.length) (e := D.length) (by omega) hfr (by rw [hf0]; exact hcd) he g0 (fun i hi => by
    obtain rfl | rfl : i = 0 ∨ i = 1 := by omega
    · rw [Nat.add_zero, e1]; unfold isDg; simp; omega
    · rw [show sg.length + D.length + 1 + 1 = sg.length + D.length + 2 from rfl, e2]; unfold isDg; simp; omega) (by omega)]
  have hN : num2 l (numV l sg.length D.length) (sg.length + D.length + 1) = (M : Int) := by
    unfold num2
    rw [e1, show sg.length + D.length + 1 + 1 = sg.length + D.length + 2 from rfl, e2, hnv]
    unfold cap50
    omega
  rw [hN]
  unfold tellR
  rw [if_neg (by omega)]
  by_cases hn : n < 0
  · have : sg = [45] := by rw [← hsg, if_pos hn]
    rw [this, if_neg (by omega), if_pos (show ([45] : List Int).length = 1 from rfl)]
    exact congrArg (·, (0 : Int), (0 : Int)) (by omega)
  · have : sg = [] := by rw [← hsg, if_neg hn]
    rw [this, if_neg (by simp), if_neg (by simp)]
    exact congrArg (·, (0 : Int), (0 : Int)) (by omega)
theorem drop3 : ∀ (l : List Int) (k : Nat), l.length = k + 3 → l.drop k = [l.getD k 0, l.getD (k + 1) 0, l.getD (k + 2) 0] := by
  intro l k h
  have h3 : (l.drop k).length = 3 := by rw [List.length_drop]; omega
  have g0 := drop_getD l k 0
  have g1 := drop_getD l k 1
  have g2 := drop_getD l k 2
  rw [Nat.add_zero] at g0
  rw [← g0, ← g1, ← g2]
  match l.drop k, h3 with
  | [a, b, c], _ => rfl
/-- What is read without fault is told as it was. -/
theorem told_parse (l : List Int) (h : (parseR l).2.1 = 0) : mchk (parseR l).1 = 0 ∧ ints8 (textL (parseR l).1) = l := by
  obtain ⟨fr, hfr⟩ : ∃ fr, frE l = fr := ⟨_, rfl⟩
  obtain ⟨e, he⟩ : ∃ e, runE l fr = e := ⟨_, rfl⟩
  unfold parseR at h ⊢
  rw [hfr, he] at h ⊢
  by_cases c1 : 20 < l.length
  · rw [if_pos c1] at h; simp at h
  rw [if_neg c1] at h ⊢
  by_cases c2 : e = 0
  · rw [if_pos c2] at h; simp at h
  rw [if_neg c2] at h ⊢
  by_cases c3 : l.getD (fr + e) 0 = 46
  case neg => rw [if_neg c3] at h; simp at h
  rw [if_pos c3] at h ⊢
  by_cases c4 : isDg (l.getD (fr + e + 1) 0) = true
  case neg => rw [if_neg c4] at h; simp at h
  rw [if_pos c4] at h ⊢
  by_cases c5 : isDg (l.getD (fr + e + 1 + 1) 0) = true
  case neg => rw [if_neg c5] at h; simp at h
  rw [if_pos c5] at h ⊢
  by_cases c6 : fr + e + 3 < l.length
  · rw [if_pos c6] at h; simp at h
  rw [if_neg c6] at h ⊢
  have hlt := isDg_lt c5
  have hlen : l.length = fr + e + 3 := by omega
  have hdig : ∀ i, i < e → isDg (l.getD (fr + i) 0) = true := fun i hi => runE_dig l fr (by rw [he]; exact hi)
  obtain ⟨hnv, hv0⟩ := numV_val l fr e hdig (by omega)
  have hDl : ((l.drop fr).take e).length = e := by simp; omega
  have hDg : ∀ i, i < e → ((l.drop fr).take e).getD i 0 = l.getD (fr + i) 0 := fun i hi => by
    rw [List.getD_eq_getElem?_getD, List.getElem?_take_of_lt hi, ← List.getD_eq_getElem?_getD, drop_getD]
  have hD0 : ((l.drop fr).take e).getD 0 0 = l.getD fr 0 := hDg 0 (by omega)
  obtain ⟨d1, d2, _⟩ := digI_of e ((l.drop fr).take e) hDl (by intro e0; rw [e0] at hDl; simp at hDl; omega) (fun c hc => by
      obtain ⟨i, hi, rfl⟩ := List.getElem_of_mem hc
      have := hDg i (by omega)
      rw [List.getD_eq_getElem?_getD, List.getElem?_eq_getElem hi] at this
      rw [show ((l.drop fr).take e)[i] = l.getD (fr + i) 0 from this]
      exact hdig i (by omega)) (fun h48 => by
      rw [hDl]
      rw [hD0] at h48
      have := he
      unfold runE at this
      rw [if_pos h48] at this
      omega)
  have hl3 : l = l.take fr ++ (l.drop fr).take e ++ [46, l.getD (fr + e + 1) 0, l.getD (fr + e + 1 + 1) 0] := by
    have hd := drop3 l (fr + e) hlen
    rw [c3] at hd
    rw [List.append_assoc]
    have h2 : (l.drop fr).take e ++ [46, l.getD (fr + e + 1) 0, l.getD (fr + e + 1 + 1) 0] = l.drop fr := by
      rw [show fr + e + 1 + 1 = fr + e + 2 from rfl, ← hd, ← List.drop_drop, List.take_append_drop]
    rw [h2, List.take_append_drop]
  generalize (l.drop fr).take e = D at *
  have b1 := isDg_bd c4
  have b2 := isDg_bd c5
  unfold num2 at h ⊢
  rw [hnv] at h ⊢
  generalize hx1 : l.getD (fr + e + 1) 0 = x1 at *
  generalize hx2 : l.getD (fr + e + 1 + 1) 0 = x2 at *
  unfold tellR at h ⊢
  by_cases c7 : 1099511627775 < 10 * (10 * cap50 (valI D) + (x1 - 48)) + (x2 - 48)
  · rw [if_pos c7] at h; simp at h
  rw [if_neg c7] at h ⊢
  have hcap : cap50 (valI D) = valI D := by unfold cap50 at c7 ⊢; omega
  rw [hcap] at h c7 ⊢
  obtain ⟨N, hN⟩ : ∃ N : Nat, 10 * (10 * valI D + (x1 - 48)) + (x2 - 48) = (N : Int) := ⟨_, (Int.toNat_of_nonneg (by omega)).symm⟩
  rw [hN] at h c7 ⊢
  by_cases c8 : fr = 1 ∧ (N : Int) = 0
  · rw [if_pos c8] at h; simp at h
  rw [if_neg c8] at h ⊢
  have q1 : N / 100 = (valI D).toNat := by omega
  have q2 : 48 + ((N / 10 % 10 : Nat) : Int) = x1 := by omega
  have q3 : 48 + ((N % 10 : Nat) : Int) = x2 := by omega
  by_cases c9 : fr = 1
  · rw [if_pos c9] at *
    have h45 : l.getD 0 0 = 45 := by
      have := hfr
      unfold frE at this
      by_cases g : l.getD 0 0 = 45
      · exact g
      · rw [if_neg g] at this; omega
    have ht : l.take fr = [45] := by
      rw [c9]
      match l, hlen, h45 with
      | a :: l, _, h45 => simp at h45; simp [h45]
    refine ⟨by unfold mchk; rw [if_neg (by simp only; omega), if_neg (by simp only; omega)], ?_⟩
    rw [textL_ints, if_pos (by simp only; omega), show (-(N : Int), (0 : Int), (0 : Int)).1.natAbs = N by simp only; omega, q1, d1, q2, q3]
    rw [ht] at hl3
    exact hl3.symm
  · rw [if_neg c9] at *
    have h0 : fr = 0 := by have := hfr; unfold frE at this; split at this <;> omega
    have ht : l.take fr = [] := by rw [h0]; rfl
    refine ⟨by unfold mchk; rw [if_neg (by simp only; omega), if_neg (by simp only; omega)], ?_⟩
    rw [textL_ints, if_neg (by simp only; omega), show ((N : Int), (0 : Int), (0 : Int)).1.natAbs = N by simp only; omega, q1, d1, q2, q3]
    rw [ht] at hl3
    exact hl3.symm
/-- A fault bears no amount, and a place in the text. -/
theorem parse_err (l : List Int) (h : (parseR l).2.1 ≠ 0) : (parseR l).1 = 0 ∧ 0 ≤ (parseR l).2.2 ∧ (parseR l).2.2 ≤ (l.length : Int) := by
  obtain ⟨fr, hfr⟩ : ∃ fr, frE l = fr := ⟨_, rfl⟩
  obtain ⟨e, he⟩ : ∃ e, runE l fr = e := ⟨_, rfl⟩
  have hf := frE_le l
  rw [hfr] at hf
  have hr := runE_le l fr hf
  rw [he] at hr
  unfold parseR at h ⊢
  rw [hfr, he] at h ⊢
  by_cases c1 : 20 < l.length
  · rw [if_pos c1]; exact ⟨rfl, by simp only; omega, by simp only; omega⟩
  rw [if_neg c1] at h ⊢
  by_cases c2 : e = 0
  · rw [if_pos c2]; exact ⟨rfl, by simp only; omega, by simp only; omega⟩
  rw [if_neg c2] at h ⊢
  by_cases c3 : l.getD (fr + e) 0 = 46
  case neg => rw [if_neg c3]; exact ⟨rfl, by simp only; omega, by simp only; omega⟩
  have l3 := lt_of_getD (l := l) (i := fr + e) (by omega)
  rw [if_pos c3] at h ⊢
  by_cases c4 : isDg (l.getD (fr + e + 1) 0) = true
  case neg => rw [if_neg c4]; exact ⟨rfl, by simp only; omega, by simp only; omega⟩
  have l4 := isDg_lt c4
  rw [if_pos c4] at h ⊢
  by_cases c5 : isDg (l.getD (fr + e + 1 + 1) 0) = true
  case neg => rw [if_neg c5]; exact ⟨rfl, by simp only; omega, by simp only; omega⟩
  have l5 := isDg_lt c5
  rw [if_pos c5] at h ⊢
  by_cases c6 : fr + e + 3 < l.length
  · rw [if_pos c6]; exact ⟨rfl, by simp only; omega, by simp only; omega⟩
  rw [if_neg c6] at h ⊢
  generalize num2 l (numV l fr e) (fr + e + 1) = N at *
  unfold tellR at h ⊢
  by_cases c7 : 1099511627775 < N
  · rw [if_pos c7]; exact ⟨rfl, by simp only; omega, by simp only; omega⟩
  rw [if_neg c7] at h ⊢
  by_cases c8 : fr = 1 ∧ N = 0
  · rw [if_pos c8]; exact ⟨rfl, by simp only; omega, by simp only; omega⟩
  rw [if_neg c8] at h ⊢
  exact absurd rfl h
theorem textL_len (n : Int) (h : mchk n = 0) : (textL n).length ≤ 20 := by
  have hb := mchk_zero h
  unfold textL
  rw [List.length_append, List.length_append, itoa_nn, Lib.decDigits_length]
  have := nDig_le 10 (n.natAbs / 100) (by omega)
  have : (if n < 0 then ([45] : List UInt8) else []).length ≤ 1 := by split <;> simp
  simp only [List.length_cons, List.length_nil]
  omega
theorem text_back {s : ByteArray} {x : Int} (h : ints8 (textL x) = bts s) : (⟨(textL x).toArray⟩ : ByteArray) = s := by
  have := ints8_inj (show ints8 (textL x) = ints8 s.data.toList from h)
  rw [this]
theorem parse_text (n : Int) (h : mchk n = 0) (w : World) : Calls Tryd.prog 10 #[.string ⟨(textL n).toArray⟩] w (RetP w (n, 0, 0)) := by
  have hc := parse_any ⟨(textL n).toArray⟩ w (by
    have := textL_len n h
    show (textL n).toArray.size ≤ _
    simp; omega)
  rwa [bts_arr, parse_told n h] at hc
theorem mchk5 {n : Int} (h : mchk n ≠ 0) : mchk n = 5 := by unfold mchk at *; split <;> simp_all
set_option maxHeartbeats 16000000 in
set_option maxRecDepth 100000 in
theorem moneyBack_walk (n : Int) (s : ByteArray) (w : World) (hT : Tb w) : Calls Tryd.prog 3 #[.int .i64 n, .string s] w fun e w' => e = .returned (.bool true) ∧ Kp w w' := by
  have K : Kp w w := kp_refl _
  have HT := Lib.hid hT
  clear hT
  have AW := Lib.hid awake_any
  by_cases hl : 100 < s.size
  · have z1 : (100 : Int) < (s.size : Int) := by omega
    go_enter Tryd.func3, Tryd.ntmps3
    go_wp2_with (go_at_call 7; refine (AW.out _).mono ?_; rintro e wk ⟨rfl, hk⟩; replace K := kp_trans K hk; clear hk)
    go_ret
    exact ⟨rfl, K⟩
  have z1 : ¬ (100 : Int) < (s.size : Int) := by omega
  have hp := fun w => parse_any s w (by omega)
  obtain ⟨x, er, at_, hr⟩ : ∃ x e a, parseR (bts s) = (x, e, a) := ⟨_, _, _, rfl⟩
  have hte : er = 0 → mchk x = 0 ∧ ints8 (textL x) = bts s := by have h := told_parse (bts s); rw [hr] at h; exact h
  have her : er ≠ 0 → x = 0 ∧ 0 ≤ at_ ∧ at_ ≤ (s.size : Int) := by have h := parse_err (bts s); rw [hr, bts_len] at h; exact h
  rw [hr] at hp
  have P2 := Lib.hid hp
  have HTE := Lib.hid hte
  have HER := Lib.hid her
  have nn : (n != n) = false := by simp
  clear hp hte her hr hl
  by_cases h0 : mchk n = 0
  · have C1 := Lib.hid (fun w hT => text_ok n w h0 hT)
    have C2 := Lib.hid (fun w => mcheck_any n w)
    rw [h0] at C2
    have P1 := Lib.hid (fun w => parse_text n h0 w)
    clear h0
    by_cases he : er = 0
    · subst he
      obtain ⟨hm, ht⟩ := HTE.out rfl
      have c3 := fun w hT => text_ok x w hm hT
      rw [text_back ht] at c3
      have C3 := Lib.hid c3
      clear c3 hm ht
      go_enter Tryd.func3, Tryd.ntmps3
      go_wp2_with (first
        | (go_at_call 7; (with_reducible refine (AW.out _).mono ?_); rintro e wk ⟨rfl, hk⟩; replace K := kp_trans (by repeat (first | (with_reducible exact K) | (with_reducible apply kp_alloc))) hk; clear hk)
        | (go_at_call 8; (with_reducible refine (C1.out _ (HT.out.kp (by repeat (first | (with_reducible exact K) | (with_reducible apply kp_alloc))))).mono ?_); rintro e wk ⟨rfl, hk⟩; replace K := kp_trans (by repeat (first | (with_reducible exact K) | (with_reducible apply kp_alloc))) hk; clear hk)
        | (go_at_call 9; (with_reducible refine (C2.out _).mono ?_); rintro e wk ⟨rfl, hk⟩; replace K := kp_trans (by repeat (first | (with_reducible exact K) | (with_reducible apply kp_alloc))) hk; clear hk)
        | (go_at_call 10; (with_reducible refine (P1.out _).mono ?_); rintro e wk ⟨rfl, hk⟩; replace K := kp_trans (by repeat (first | (with_reducible exact K) | (with_reducible apply kp_alloc))) hk; clear hk)
        | (go_at_call 10; (with_reducible refine (P2.out _).mono ?_); rintro e wk ⟨rfl, hk⟩; replace K := kp_trans (by repeat (first | (with_reducible exact K) | (with_reducible apply kp_alloc))) hk; clear hk)
        | (go_at_call 8; (with_reducible refine (C3.out _ (HT.out.kp (by repeat (first | (with_reducible exact K) | (with_reducible apply kp_alloc))))).mono ?_); rintro e wk ⟨rfl, hk⟩; replace K := kp_trans (by repeat (first | (with_reducible exact K) | (with_reducible apply kp_alloc))) hk; clear hk))
      go_ret
      exact ⟨rfl, by repeat (first | (with_reducible exact K) | (with_reducible apply kp_alloc))⟩
    · obtain ⟨hx, ha, hb⟩ := HER.out he
      subst hx
      have t1 : (er != 0) = true := by simpa using he
      have t2 : (er == 0) = false := by simpa using he
      clear he
      go_enter Tryd.func3, Tryd.ntmps3
      go_wp2_with (first
        | (go_at_call 7; (with_reducible refine (AW.out _).mono ?_); rintro e wk ⟨rfl, hk⟩; replace K := kp_trans (by repeat (first | (with_reducible exact K) | (with_reducible apply kp_alloc))) hk; clear hk)
        | (go_at_call 8; (with_reducible refine (C1.out _ (HT.out.kp (by repeat (first | (with_reducible exact K) | (with_reducible apply kp_alloc))))).mono ?_); rintro e wk ⟨rfl, hk⟩; replace K := kp_trans (by repeat (first | (with_reducible exact K) | (with_reducible apply kp_alloc))) hk; clear hk)
        | (go_at_call 9; (with_reducible refine (C2.out _).mono ?_); rintro e wk ⟨rfl, hk⟩; replace K := kp_trans (by repeat (first | (with_reducible exact K) | (with_reducible apply kp_alloc))) hk; clear hk)
        | (go_at_call 10; (with_reducible refine (P1.out _).mono ?_); rintro e wk ⟨rfl, hk⟩; replace K := kp_trans (by repeat (first | (with_reducible exact K) | (with_reducible apply kp_alloc))) hk; clear hk)
        | (go_at_call 10; (with_reducible refine (P2.out _).mono ?_); rintro e wk ⟨rfl, hk⟩; replace K := kp_trans (by repeat (first | (with_reducible exact K) | (with_reducible apply kp_alloc))) hk; clear hk))
      go_ret
      exact ⟨rfl, by repeat (first | (with_reducible exact K) | (with_reducible apply kp_alloc))⟩
  · have C1 := Lib.hid (fun (w : World) (hT : Tb w) => text_bad n w h0)
    have C2 := Lib.hid (fun w => mcheck_any n w)
    rw [mchk5 h0] at C2
    clear h0
    by_cases he : er = 0
    · subst he
      obtain ⟨hm, ht⟩ := HTE.out rfl
      have c3 := fun w hT => text_ok x w hm hT
      rw [text_back ht] at c3
      have C3 := Lib.hid c3
      clear c3 hm ht
      go_enter Tryd.func3, Tryd.ntmps3
      go_wp2_with (first
        | (go_at_call 7; (with_reducible refine (AW.out _).mono ?_); rintro e wk ⟨rfl, hk⟩; replace K := kp_trans (by repeat (first | (with_reducible exact K) | (with_reducible apply kp_alloc))) hk; clear hk)
        | (go_at_call 8; (with_reducible refine (C1.out _ (HT.out.kp (by repeat (first | (with_reducible exact K) | (with_reducible apply kp_alloc))))).mono ?_); rintro e wk ⟨rfl, hk⟩; replace K := kp_trans (by repeat (first | (with_reducible exact K) | (with_reducible apply kp_alloc))) hk; clear hk)
        | (go_at_call 9; (with_reducible refine (C2.out _).mono ?_); rintro e wk ⟨rfl, hk⟩; replace K := kp_trans (by repeat (first | (with_reducible exact K) | (with_reducible apply kp_alloc))) hk; clear hk)
        | (go_at_call 10; (with_reducible refine (P2.out _).mono ?_); rintro e wk ⟨rfl, hk⟩; replace K := kp_trans (by repeat (first | (with_reducible exact K) | (with_reducible apply kp_alloc))) hk; clear hk)
        | (go_at_call 8; (with_reducible refine (C3.out _ (HT.out.kp (by repeat (first | (with_reducible exact K) | (with_reducible apply kp_alloc))))).mono ?_); rintro e wk ⟨rfl, hk⟩; replace K := kp_trans (by repeat (first | (with_reducible exact K) | (with_reducible apply kp_alloc))) hk; clear hk))
      go_ret
      exact ⟨rfl, by repeat (first | (with_reducible exact K) | (with_reducible apply kp_alloc))⟩
    · obtain ⟨hx, ha, hb⟩ := HER.out he
      subst hx
      have t1 : (er != 0) = true := by simpa using he
      have t2 : (er == 0) = false := by simpa using he
      clear he
      go_enter Tryd.func3, Tryd.ntmps3
      go_wp2_with (first
        | (go_at_call 7; (with_reducible refine (AW.out _).mono ?_); rintro e wk ⟨rfl, hk⟩; replace K := kp_trans (by repeat (first | (with_reducible exact K) | (with_reducible apply kp_alloc))) hk; clear hk)
        | (go_at_call 8; (with_reducible refine (C1.out _ (HT.out.kp (by repeat (first | (with_reducible exact K) | (with_reducible apply kp_alloc))))).mono ?_); rintro e wk ⟨rfl, hk⟩; replace K := kp_trans (by repeat (first | (with_reducible exact K) | (with_reducible apply kp_alloc))) hk; clear hk)
        | (go_at_call 9; (with_reducible refine (C2.out _).mono ?_); rintro e wk ⟨rfl, hk⟩; replace K := kp_trans (by repeat (first | (with_reducible exact K) | (with_reducible apply kp_alloc))) hk; clear hk)
        | (go_at_call 10; (with_reducible refine (P2.out _).mono ?_); rintro e wk ⟨rfl, hk⟩; replace K := kp_trans (by repeat (first | (with_reducible exact K) | (with_reducible apply kp_alloc))) hk; clear hk))
      go_ret
      exact ⟨rfl, by repeat (first | (with_reducible exact K) | (with_reducible apply kp_alloc))⟩
end Go.Proofs.YtcmijedhjebpkaaDoor
