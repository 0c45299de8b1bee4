/- The walk of MoneyAll. -/
import Derived.Test.YtcmijedhjebpkaaSB
import Derived.Test.YtcmijedhjebpkaaAllP
import Derived.Test.YtcmijedhjebpkaaLH
import Derived.Deep.QuietTactic
import Derived.BigQuiet
namespace Go.Proofs.Ytcmijedhjebpkaa
open Go.RowKit Go.Proofs.Geo Go.Proofs.Mon
set_option linter.unusedVariables false
def wOk (x : Int) : Prop := 0 ≤ x ∧ x ≤ 1048576
theorem wOk_bd {l : List Int} {k : Nat} (h : ∀ x ∈ l.take k, wOk x) : 0 ≤ (l.take k).sum ∧ (l.take k).sum ≤ (l.take k).length * 1048576 := by
  generalize l.take k = m at *
  induction m with
  | nil => simp
  | cons a m ih =>
    have := ih fun x hx => h x (List.mem_cons_of_mem _ hx)
    have ha := h a List.mem_cons_self
    unfold wOk at ha
    simp only [List.sum_cons, List.length_cons]
    push_cast
    omega
theorem wOk_succ {l : List Int} {k : Nat} (hk : k < l.length) (h : ∀ x ∈ l.take k, wOk x) (hx : wOk l[k]) : ∀ x ∈ l.take (k + 1), wOk x := by
  intro x hx'
  rw [List.take_succ_eq_append_getElem hk, List.mem_append] at hx'
  rcases hx' with h' | h'
  · exact h x h'
  · simp at h'; subst h'; exact hx
theorem sum_succ' {l : List Int} {k : Nat} (hk : k < l.length) : (l.take (k + 1)).sum = (l.take k).sum + l[k] := by
  rw [List.take_succ_eq_append_getElem hk, List.sum_append, List.sum_cons, List.sum_nil, Int.add_zero]
theorem wOk_any {l : List Int} (h : ∀ x ∈ l, wOk x) : l.any badW = false := by
  rw [List.any_eq_false]
  intro x hx
  have := h x hx
  unfold wOk at this
  unfold badW
  simp
  omega
set_option maxHeartbeats 16000000 in
set_option maxRecDepth 100000 in
theorem moneyAll_walk (w : World) (t : Int) (a : Option Addr) (len cap : Nat) (hA : ∃ l : List Int, len = l.length ∧ RdI w (.slice a len cap) l) : Calls Try.prog 4 #[.int .i64 t, .slice a len cap] w fun e w' => e = .returned (.bool true) ∧ Kp w w' := by
  obtain ⟨l, hlen, R0⟩ := hA
  have HRD := Lib.hid R0
  obtain ⟨a', cap', ev, hR⟩ := R0.shape
  rw [← hlen] at ev
  obtain ⟨rfl, -, rfl⟩ : a = a' ∧ True ∧ cap = cap' := by simp at ev; exact ⟨ev.1, trivial, ev.2⟩
  have HR := Lib.hid hR; have HL := Lib.hid hlen
  have AW := Lib.hid awake_any
  clear hlen R0 hR ev
  by_cases g1 : t < -1073741824
  · have K : Kp w w := kp_refl _
    go_enter Try.func4, Try.ntmps4
    go_wp2_with (go_at_call 7; refine (AW.out _).mono ?_; rintro e wk ⟨rfl, hk⟩; replace K := kp_trans K hk; clear hk)
    go_ret
    exact ⟨rfl, K⟩
  by_cases g2 : 1073741824 < t
  · have K : Kp w w := kp_refl _
    go_enter Try.func4, Try.ntmps4
    go_wp2_with (go_at_call 7; refine (AW.out _).mono ?_; rintro e wk ⟨rfl, hk⟩; replace K := kp_trans K hk; clear hk)
    go_ret
    exact ⟨rfl, K⟩
  by_cases g3 : 200 < len
  · have z3 : (200 : Int) < (len : Int) := by omega
    have K : Kp w w := kp_refl _
    go_enter Try.func4, Try.ntmps4
    go_wp2_with (go_at_call 7; refine (AW.out _).mono ?_; rintro e wk ⟨rfl, hk⟩; replace K := kp_trans K hk; clear hk)
    go_ret
    exact ⟨rfl, K⟩
  have z3 : ¬ (200 : Int) < (len : Int) := by omega
  have K : Kp w w := kp_refl _
  go_enter Try.func4, Try.ntmps4
  go_wp2_with (go_at_call 7; refine (AW.out _).mono ?_; rintro e wk ⟨rfl, hk⟩; replace K := kp_trans K hk; clear hk)
  have HK := Lib.hid K
  clear K
  go_loopw [6, 7] (fun s i wr => ∃ k : Nat, k ≤ len ∧ i = .int .i64 k ∧ s = .int .i64 (l.take k).sum ∧ (∀ x ∈ l.take k, wOk x) ∧ Kp w wr) (fun _ i _ => len - (intOf i).toNat)
  case atStart => exact ⟨0, by omega, rfl, by simp, by simp, HK.out⟩
  case round =>
    clear HK
    obtain ⟨k, hk, rfl, rfl, hok, hkp⟩ := hrel
    have hbd := wOk_bd hok
    have hlk : ((l.take k).length : Int) ≤ 200 := by have := List.length_take_le k l; omega
    by_cases hlt : k < len
    · have hkl : k < l.length := by rw [← HL.out]; exact hlt
      obtain ⟨b, off, rfl, hp⟩ := HR.out.resolve_left (by rintro rfl; simp at hkl)
      have hc := (hp.kp hkp) k hkl
      have HS := Lib.hid (sum_succ' hkl)
      have HO := Lib.hid (fun h => wOk_succ hkl hok h)
      generalize l[k] = x at *
      have lb : b < wr.heap.size := cell_lt hc
      have z1 : (0 : Int) ≤ (k : Int) := by omega
      have z2 : (k : Int) < (len : Int) := by omega
      have HKP := Lib.hid hkp
      generalize hS : (l.take k).sum = S at *
      have HT := Lib.hid hS
      clear hS hp hok hkp HRD
      by_cases h1 : x < 0
      · go_wp2_with fail
        go_ret
        exact ⟨rfl, HKP.out⟩
      · by_cases h2 : 1048576 < x
        · go_wp2_with fail
          go_ret
          exact ⟨rfl, HKP.out⟩
        · have wk : IntKind.i64.wrap (S + x) = S + x := IntWalk.i64_in _ (by omega)
          have wk2 : IntKind.i64.wrap ((k : Int) + 1) = (k : Int) + 1 := IntWalk.i64_in _ (by omega)
          have HX := Lib.hid (show wOk x by unfold wOk; omega)
          clear hbd hlk
          go_wp2_with fail
          exact ⟨⟨k + 1, by omega, by go_num, by rw [HS.out], HO.out HX.out, HKP.out⟩, by simp [intOf]; omega⟩
    · obtain rfl : k = len := by omega
      have z2 : ¬ (k : Int) < (k : Int) := by omega
      have hke : l.take k = l := List.take_of_length_le (by rw [← HL.out]; omega)
      rw [hke] at hok hbd hlk ⊢
      have hany := wOk_any hok
      obtain ⟨Sn, hSn⟩ : ∃ Sn : Nat, l.sum = (Sn : Int) := ⟨l.sum.toNat, by omega⟩
      rw [hSn] at hbd ⊢
      have hl11 : l.length ≤ 200 := by have := HL.out; omega
      have cs := split_all t (.slice a k cap) l wr (HRD.out.kp hkp) (by omega)
      have hm0 : mchk t = 0 := by unfold mchk; rw [if_neg (by omega), if_neg (by omega)]
      have HKP := Lib.hid hkp; have HS := Lib.hid hSn; have HAN := Lib.hid hany; have HOK := Lib.hid hok
      clear hkp hke hok hlk
      by_cases h0 : Sn = 0
      · have hE : splitE t l = 2 := by
          unfold splitE
          rw [if_pos hm0, if_neg (by rw [weigh_ok hany, hSn, h0]; simp)]
        rw [hE] at cs
        have CS := Lib.hid cs
        subst h0
        clear cs hE hm0 hany hSn hbd
        have K : Kp w wr := HKP.out
        go_wp2_with (go_at_call 8; refine CS.out.mono ?_; rintro e wk ⟨⟨v, rfl, _⟩, hk⟩; replace K := kp_trans K hk; clear hk)
        go_ret
        exact ⟨rfl, K⟩
      · have hS1 : 0 < Sn := by omega
        have hS2 : Sn ≤ 300000000 := by omega
        have hwr : weighR l = (l.sum, true) := by rw [weigh_ok hany, hSn, decide_eq_true (by omega : (0 : Int) < (Sn : Int)), decide_eq_true (by omega : l.length ≤ 1000)]; rfl
        have hE : splitE t l = 0 := by
          unfold splitE
          rw [if_pos hm0, if_pos (by rw [hwr])]
        have hRp : splitR t l = partsL t l := by unfold splitR; rw [if_pos hE]
        have hi64 := splitR_i64 t l
        rw [hE, hRp] at cs
        rw [hRp] at hi64
        obtain ⟨N, hN⟩ : ∃ N : Nat, t.natAbs = N := ⟨_, rfl⟩
        have hNle : N ≤ 1073741824 := by omega
        obtain ⟨lf, hlf⟩ : ∃ lf : Nat, (N : Int) - (qL N Sn l).sum = (lf : Int) := ⟨((N : Int) - (qL N Sn l).sum).toNat, by have := (left_bd (n := N) hany hSn hS1).1; omega⟩
        obtain ⟨sg, hsg⟩ : ∃ sg, sgT t = sg := ⟨_, rfl⟩
        have hs2 : sg = 1 ∨ sg = -1 := by rw [← hsg]; unfold sgT; split <;> simp
        have hsum := all_sum (N := N) hany hSn hS1 hlf
        have hown := fun k x => all_own (N := N) (k := k) (x := x) hany hSn hS1 hlf
        have hmono := fun i k => all_mono (N := N) (i := i) (k := k) hany hSn hS1 hlf
        have htake := uL_take (N := N) hany hSn hS1 hlf
        have hpart := fun k => part_u (k := k) hN hSn hlf
        rw [hsg] at hpart
        have hul := uL_len N Sn lf l
        generalize uL N Sn lf l = U at *
        obtain ⟨b, off, rfl, hp⟩ := HR.out.resolve_left (by rintro rfl; simp at hSn; omega)
        have HX : Hid (∀ j, j < k → ∃ x : Nat, l.getD j 0 = (x : Int) ∧ x ≤ 1048576 ∧ N * x / Sn ≤ N ∧ ∀ wx, Kp w wx → wx.cell? ⟨b, off + j, none⟩ = some (.int .i64 (x : Int))) := Lib.hid (fun j hj => by
          have hjl : j < l.length := by rw [← HL.out]; exact hj
          have hg : l.getD j 0 = l[j] := by rw [List.getD_eq_getElem?_getD, List.getElem?_eq_getElem hjl]; rfl
          have h1 := HOK.out _ (List.getElem_mem hjl)
          unfold wOk at h1
          rw [← hg] at h1
          have h2 := get_le_sum hany hjl
          rw [hSn] at h2
          refine ⟨(l.getD j 0).toNat, by omega, by omega, quo_le (by omega), fun wx kx => ?_⟩
          have h3 := (hp.kp kx) j hjl
          rw [← hg] at h3
          rw [h3]
          congr 2
          omega)
        have HUO : Hid (∀ j x : Nat, j < k → l.getD j 0 = (x : Int) → U.getD j 0 = ((N * x / Sn : Nat) : Int) ∨ (U.getD j 0 = ((N * x / Sn : Nat) : Int) + 1 ∧ N * x % Sn ≠ 0)) := Lib.hid (fun j x hj hx => hown j x (by rw [← HL.out]; exact hj) hx)
        have HUM : Hid (∀ i j : Nat, i < k → j < k → l.getD i 0 < l.getD j 0 → U.getD i 0 ≤ U.getD j 0) := Lib.hid (fun i j hi hj h => hmono i j (by rw [← HL.out]; exact hi) (by rw [← HL.out]; exact hj) h)
        have HUT := Lib.hid htake
        have HUP : Hid (∀ j, j < k → (partsL t l).getD j 0 = sg * U.getD j 0) := Lib.hid (fun j hj => hpart j (by rw [← HL.out]; exact hj))
        have HUL : Hid (U.length = k) := Lib.hid (by rw [hul, HL.out])
        have HUS := Lib.hid hsum
        have hpl : (partsL t l).length = k := by rw [partsL_len, HL.out]
        have HPL := Lib.hid hpl; have HI := Lib.hid hi64; have HN := Lib.hid hN; have HSG := Lib.hid hsg; have HS2 := Lib.hid hs2
        have CS := Lib.hid cs
        have n1 : ((k : Int) == (k : Int)) = true := by simp
        have n2 : ((Sn : Int) == 0) = false := by simp; omega
        have n3 : ¬ (Sn : Int) = 0 := by omega
        have e1 : IntKind.i64.wrap (-t) = -t := IntWalk.i64_in _ (by omega)
        have hw1 : Kp w wr := HKP.out
        have HW1 := Lib.hid hw1
        clear cs hE hRp hi64 hlf hsg hs2 hsum hown hmono htake hpart hul hp hpl hN hwr hm0 hany hSn hbd hw1 h0
        go_upto_region 12 with (go_at_call 8; refine CS.out.mono ?_; rintro e w2 ⟨⟨vx, rfl, hox⟩, hk2⟩; have HOX := Lib.hid hox; have HK2 := Lib.hid hk2; clear hox hk2)
        obtain ⟨ax, capx, hvx, hsx⟩ := (HOX.out.rd (by have := HPL.out; omega) HI.out).shape
        rw [HPL.out] at hvx
        subst hvx
        obtain ⟨gx, ox, rfl, hpx⟩ := hsx.resolve_left (by intro h; have h2 := HPL.out; rw [h] at h2; have h3 := HL.out; have h4 := HS.out; rw [List.eq_nil_of_length_eq_zero (show l.length = 0 by simp at h2; omega)] at h4; simp at h4; omega)
        have HPX : Hid (∀ j, j < k → ∀ q r : Nat, q ≤ N → (U.getD j 0 = (q : Int) ∨ U.getD j 0 = (q : Int) + 1) → ∃ p : Int, sg * p = U.getD j 0 ∧ ∀ wx, Kp w2 wx → wx.cell? ⟨gx, ox + j, none⟩ = some (.int .i64 p)) := Lib.hid (fun j hj q r hq hU => by
          have hjl : j < (partsL t l).length := by rw [HPL.out]; exact hj
          have hg : (partsL t l).getD j 0 = (partsL t l)[j] := by rw [List.getD_eq_getElem?_getD, List.getElem?_eq_getElem hjl]; rfl
          refine ⟨(partsL t l).getD j 0, ?_, fun wx kx => ?_⟩
          · rw [HUP.out j hj]
            rcases HS2.out with h | h <;> rw [h] <;> omega
          · rw [hg]; exact (hpx.kp kx) j hjl)
        clear hpx
        have K : Kp w2 w2 := kp_refl _
        go_upto_region 16 with fail
        go_cut [10, 11, 12] (fun n s q wx => n = .int .i64 (N : Int) ∧ s = .int .i64 1 ∧ q = .int .i64 0 ∧ Kp w2 wx)
        case first =>
          have e3 : max t (-t) = (N : Int) := by have := HN.out; omega
          have HE := Lib.hid e3
          clear e3
          go_wp2_with fail
          go_meet
          exact ⟨by first | rw [HE.out] | (have := HE.out; go_num), rfl, rfl, K⟩
        case rest =>
          clear K e1
          obtain ⟨rfl, rfl, rfl, K⟩ := hcut
          go_upto_if 82 with fail
          go_cut [11] (fun s wx => s = .int .i64 sg ∧ Kp w2 wx)
          case first =>
            by_cases ht : t < 0
            · have e3 := Lib.hid (show sg = -1 by rw [← HSG.out]; unfold sgT; rw [if_pos ht])
              go_wp2_with fail
              go_meet
              exact ⟨by rw [e3.out], K⟩
            · have e3 := Lib.hid (show sg = 1 by rw [← HSG.out]; unfold sgT; rw [if_neg ht])
              go_wp2_with fail
              go_meet
              exact ⟨by rw [e3.out], K⟩
          case rest =>
            clear K
            obtain ⟨rfl, K⟩ := hcut
            have HK := Lib.hid K
            clear K
            go_wp2_with fail
            go_loopw [12, 13] (fun q i wr => ∃ j : Nat, j ≤ k ∧ i = .int .i64 j ∧ q = .int .i64 (U.take j).sum ∧ Kp w2 wr) (fun _ i _ => k - (intOf i).toNat)
            case atStart => exact ⟨0, by omega, rfl, by simp, HK.out⟩
            case round =>
              obtain ⟨j, hj, rfl, rfl, hkp⟩ := hrel
              have HKP := Lib.hid hkp
              clear hkp HK
              by_cases hlt2 : j < k
              · have y1 : (0 : Int) ≤ (j : Int) := by omega
                have y2 : (j : Int) < (k : Int) := by omega
                obtain ⟨x, hx, hxb, hq1, hcx⟩ := HX.out j hlt2
                have huo := HUO.out j x hlt2 hx
                obtain ⟨p, hpu, hcp⟩ := HPX.out j hlt2 (N * x / Sn) 0 hq1 (by rcases huo with h | h; exact .inl h; exact .inr h.1)
                have cx := hcx _ (kp_trans HW1.out (kp_trans HK2.out HKP.out))
                have cp := hcp _ HKP.out
                have lx := cell_lt cx
                have lp := cell_lt cp
                obtain ⟨M, hM⟩ : ∃ M : Nat, N * x = M := ⟨_, rfl⟩
                have hM2 : (N : Int) * (x : Int) = (M : Int) := by rw [← hM, Int.natCast_mul]
                have hMb : M ≤ 1125899906842624 := by rw [← hM]; exact Nat.le_trans (Nat.mul_le_mul hNle hxb) (by decide)
                rw [hM] at huo hq1
                have q1 : (M : Int).tdiv (Sn : Int) = ((M / Sn : Nat) : Int) := by rw [Int.tdiv_eq_ediv_of_nonneg (by omega)]; rfl
                have q2 : (M : Int).tmod (Sn : Int) = ((M % Sn : Nat) : Int) := by rw [Int.tmod_eq_emod_of_nonneg (by omega)]; rfl
                have hrb : M % Sn < Sn := Nat.mod_lt M hS1
                generalize M / Sn = q at *
                generalize M % Sn = r at *
                have wM : IntKind.i64.wrap (M : Int) = (M : Int) := IntWalk.i64_in _ (by omega)
                have wq : IntKind.i64.wrap (q : Int) = (q : Int) := IntWalk.i64_in _ (by omega)
                have wq1 : IntKind.i64.wrap ((q : Int) + 1) = (q : Int) + 1 := IntWalk.i64_in _ (by omega)
                have wr' : IntKind.i64.wrap (r : Int) = (r : Int) := IntWalk.i64_in _ (by omega)
                obtain ⟨u, hu⟩ : ∃ u, U.getD j 0 = u := ⟨_, rfl⟩
                rw [hu] at huo hpu
                have wu : IntKind.i64.wrap u = u := IntWalk.i64_in _ (by rcases huo with h | ⟨h, _⟩ <;> rw [h] <;> omega)
                have wi2 : IntKind.i64.wrap ((j : Int) + 1) = (j : Int) + 1 := IntWalk.i64_in _ (by omega)
                have HU := Lib.hid hu; have HXX := Lib.hid hx
                have htk := HUT.out j
                have htk1 := HUT.out (j + 1)
                have hsu := take_sum_succ U (k := j) (by rw [HUL.out]; exact hlt2)
                rw [hu] at hsu
                rw [hsu] at htk1
                have HSU := Lib.hid hsu
                generalize (U.take j).sum = T at *
                have wT : IntKind.i64.wrap (T + u) = T + u := IntWalk.i64_in _ (by omega)
                have HUO2 := Lib.hid huo
                clear hcx hcp hM hu hx hsu htk htk1 huo
                go_upto_region 24 with fail
                go_cut [14, 127] (fun n c wx => n = .int .i64 u ∧ c = .bool false ∧ Kp w2 wx)
                case first =>
                  have K := HKP.out
                  rcases HUO2.out with h | ⟨h, hr⟩
                  · subst h
                    have b1 : ((q : Int) == (q : Int)) = true := by simp
                    have b2 : ¬ (q : Int) < (q : Int) := by omega
                    go_wp2_with fail
                    go_meet
                    exact ⟨rfl, rfl, by first | exact K | exact kp_drew K | exact kp_drewN K _⟩
                  · subst h
                    have b1 : ((q : Int) + 1 == (q : Int)) = false := by simp; omega
                    have b2 : ((q : Int) + 1 == (q : Int) + 1) = true := by simp
                    have b3 : (q : Int) < (q : Int) + 1 := by omega
                    have b4 : ((r : Int) == 0) = false := by simp; omega
                    go_wp2_with fail
                    go_meet
                    exact ⟨rfl, rfl, by first | exact K | exact kp_drew K | exact kp_drewN K _⟩
                case rest =>
                  clear HKP cx cp q1 q2 wM wq wq1 wr' hM2 hpu HUO2
                  obtain ⟨rfl, rfl, hkp⟩ := hcut
                  have HKP := Lib.hid hkp
                  clear hkp
                  go_wp2_with fail
                  go_loopw [16] (fun i wr => ∃ m : Nat, m ≤ k ∧ i = .int .i64 m ∧ Kp w2 wr) (fun i _ => k - (intOf i).toNat)
                  case atStart => exact ⟨0, by omega, rfl, HKP.out⟩
                  case round =>
                    obtain ⟨m, hm, rfl, hkq⟩ := hrel
                    have HKQ := Lib.hid hkq
                    clear hkq
                    by_cases hlt3 : m < k
                    · have v1 : (0 : Int) ≤ (m : Int) := by omega
                      have v2 : (m : Int) < (k : Int) := by omega
                      have wi3 : IntKind.i64.wrap ((m : Int) + 1) = (m : Int) + 1 := IntWalk.i64_in _ (by omega)
                      obtain ⟨x2, hx, hxb2, hq1', hcx⟩ := HX.out j hlt2
                      obtain ⟨y, hy, hyb, hq2, hcy⟩ := HX.out m hlt3
                      have hk3 := kp_trans HW1.out (kp_trans HK2.out HKQ.out)
                      have cx := hcx _ hk3
                      have cy := hcy _ hk3
                      have lx := cell_lt cx
                      have ly := cell_lt cy
                      clear hcx hcy hk3
                      by_cases hg : (x2 : Int) < (y : Int)
                      · have hd : decide ((x2 : Int) < (y : Int)) = true := decide_eq_true hg
                        have huo := HUO.out m y hlt3 hy
                        obtain ⟨p2, hpu2, hcp2⟩ := HPX.out m hlt3 (N * y / Sn) 0 hq2 (by rcases huo with h | h; exact .inl h; exact .inr h.1)
                        have cp := hcp2 _ HKQ.out
                        have lp2 := cell_lt cp
                        have hmo := HUM.out j m hlt2 hlt3 (by rw [hx, hy]; exact hg)
                        rw [HU.out] at hmo
                        generalize N * y / Sn = q2 at *
                        obtain ⟨u2, hu2⟩ : ∃ u, U.getD m 0 = u := ⟨_, rfl⟩
                        rw [hu2] at huo hpu2 hmo
                        have wu2 : IntKind.i64.wrap u2 = u2 := IntWalk.i64_in _ (by rcases huo with h | ⟨h, _⟩ <;> rw [h] <;> omega)
                        have hd2 : decide (u2 < u) = false := decide_eq_false (by omega)
                        clear hcp2 hu2 huo hx hy hmo
                        go_upto_region 29 with fail
                        go_quiet (fail)
                        go_wp2_with fail
                        exact ⟨⟨m + 1, by omega, by go_num, by first | exact HKQ.out | exact kp_drew HKQ.out | exact kp_drewN HKQ.out _⟩, by simp [intOf]; omega⟩
                      · have hd : decide ((x2 : Int) < (y : Int)) = false := decide_eq_false hg
                        clear hx hy
                        go_upto_region 29 with fail
                        go_quiet (fail)
                        go_wp2_with fail
                        exact ⟨⟨m + 1, by omega, by go_num, by first | exact HKQ.out | exact kp_drew HKQ.out | exact kp_drewN HKQ.out _⟩, by simp [intOf]; omega⟩
                    · obtain rfl : m = k := by omega
                      have v2 : ¬ (m : Int) < (m : Int) := by omega
                      go_wp2_with fail
                      exact ⟨⟨j + 1, by omega, by go_num, by rw [HSU.out], HKQ.out⟩, by simp [intOf]; omega⟩
              · obtain rfl : j = k := by omega
                have y2 : ¬ (j : Int) < (j : Int) := by omega
                have hT : (U.take j).sum = (N : Int) := by rw [List.take_of_length_le (by rw [HUL.out]; exact Nat.le_refl _), HUS.out]
                rw [hT]
                have n4 : ((N : Int) == (N : Int)) = true := by simp
                clear hT
                go_wp2_with fail
                go_ret
                exact ⟨rfl, kp_trans HW1.out (kp_trans HK2.out HKP.out)⟩
end Go.Proofs.Ytcmijedhjebpkaa
