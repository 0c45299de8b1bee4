/- Contracts: inside.pairs and what it hands back. -/
import Derived.Test.YtmbfcneabpgcpaaI1
import Derived.Test.YtmbfcneabpgcpaaI2
namespace Go.Proofs.Ytmbfcneabpgcpaa
open Go.RowKit Go.Proofs.Geo
attribute [local go_sem] Oper.semAt_some

theorem PtsAt.keep {r : Nat} {A B : World} {b off : Nat} {l : List Pt} (h : PtsAt A b off l) (k : KeepCells r A B) (hb : b ≠ r) : PtsAt B b off l :=
  fun i hi => ⟨k.cell hb (h i hi).1, k.cell hb (h i hi).2⟩
theorem PtsAt.below {N : Nat} {A B : World} {b off : Nat} {l : List Pt} (h : PtsAt A b off l) (k : Below N A B) (hb : b < N) : PtsAt B b off l :=
  fun i hi => ⟨(k.cell (p := ⟨b, off + i * 2, none⟩) hb).trans (h i hi).1, (k.cell (p := ⟨b, off + i * 2 + 1, none⟩) hb).trans (h i hi).2⟩
theorem PtsAt.lt {w : World} {b off : Nat} {l : List Pt} (h : PtsAt w b off l) (hl : 0 < l.length) : b < w.heap.size := cell_lt (a := ⟨b, _, none⟩) (h 0 hl).1

abbrev encP (x : Pt × Pt) : Array Value := #[pv x.1.1 x.1.2, pv x.2.1 x.2.2]

theorem take_pairs_succ (l : List Pt) (k : Nat) {q : Pt} (hk : k < l.length) (h : (pairsOf l)[k]? = some (q, l[k])) : (pairsOf l).take k ++ [(q, l[k])] = (pairsOf l).take (k + 1) := by
  rw [List.take_add_one, h]; rfl
theorem pairs_get (l : List Pt) (k : Nat) (hk : k < l.length) : (pairsOf l)[k]? = some (if k = 0 then l[l.length - 1]'(by omega) else l[k - 1]'(by omega), l[k]) := by
  cases l with
  | nil => simp at hk
  | cons a m =>
    have hk' : k < (prs (lst a m) (a :: m)).length := by rw [prs_length]; exact hk
    rw [show pairsOf (a :: m) = prs (lst a m) (a :: m) from rfl, List.getElem?_eq_getElem hk', prs_get _ _ _ hk]
    have hl : ∀ (x : Pt) (t : List Pt), lst x t = (x :: t)[t.length]'(by simp) := by
      intro x t
      induction t generalizing x with
      | nil => rfl
      | cons y t ih => rw [show lst x (y :: t) = lst y t from rfl, ih]; rfl
    by_cases h : k = 0
    · subst h; simp [hl]
    · simp only [h, if_false]
      rw [List.getD_eq_getElem?_getD, List.getElem?_eq_getElem (by omega)]; rfl

set_option maxRecDepth 100000 in
set_option maxHeartbeats 4000000 in
theorem pairs_all (F : Fence) (n : Nat) (hF : F.fn 42) (hro : F.round = none) (hn : 1 ≤ n) (Bs r b off cap : Nat) (l : List Pt) (w : World) (hBs : w.cell? ⟨Bs, 0, none⟩ = some (.slice (some ⟨b, off, none⟩) l.length cap))
    (hr : r < w.heap.size) (hb : b ≠ r) (hp : PtsAt w b off l) (hl : l.length ≤ 10000000000000) (hpos : 0 < l.length) :
    SeqAll F n Try.prog 42 #[.pointer (some ⟨Bs, 0, none⟩)] encP r (pairsOf l) w := by
  intro y J W hW hJ hY h0
  have hbw := hp.lt hpos
  have hBw : Bs < w.heap.size := cell_lt (a := ⟨Bs, 0, none⟩) hBs
  have hBs' : W.cell? ⟨Bs, 0, none⟩ = some (.slice (some ⟨b, off, none⟩) l.length cap) := (hW.cell (p := ⟨Bs, 0, none⟩) hBw).trans hBs
  have hp' := hp.below hW hbw
  have hsz := hW.size
  have hBW : Bs < W.heap.size := by omega
  have hbW : b < W.heap.size := by omega
  obtain ⟨hq1, hq2⟩ := hp' (l.length - 1) (by omega)
  generalize hqe : l[l.length - 1]'(by omega) = q at hq1 hq2
  have Hq := Lib.hid hqe; clear hqe
  obtain ⟨len, hlen⟩ : ∃ len, l.length = len := ⟨_, rfl⟩
  rw [hlen] at hBs' hl hpos hq1 hq2
  have HL := Lib.hid hlen; clear hlen
  have e1 : (len == 0) = false := beq_eq_false_iff_ne.2 (by omega)
  have e2 : ((len : Int) == 0) = false := beq_eq_false_iff_ne.2 (by omega)
  have e3 : ((len : Int) - 1) = ((len - 1 : Nat) : Int) := by omega
  refine callsIn_of_wp Try.func42 rfl hF ?_ hro
  simp only [Try.ntmps42, List.size_toArray, List.length_cons, List.length_nil, Nat.reduceAdd, Nat.reduceSub, Array.replicate_succ, Array.replicate_zero, List.push_toArray, List.append_toArray, List.nil_append, List.cons_append]
  gi_wp2
  gi_loopw [17] (fun i wr => ∃ k : Nat, k ≤ len ∧ i = .int .i64 k ∧ J ((pairsOf l).take k) wr ∧ PtsAt wr b off l ∧ W.heap.size < wr.heap.size ∧ wr.frozen? ⟨W.heap.size, 0, none⟩ = false ∧ wr.frozen? ⟨W.heap.size, 1, none⟩ = false ∧
      ∃ q : Pt, wr.cell? ⟨W.heap.size, 0, none⟩ = some (.int .i64 q.1) ∧ wr.cell? ⟨W.heap.size, 1, none⟩ = some (.int .i64 q.2) ∧ (∀ h : k < l.length, (pairsOf l)[k]? = some (q, l[k]))) (fun i _ => len - (intOf i).toNat)
  case atStart =>
    have hb1 : Below W.heap.size W (W.alloc (.cells #[.int .i64 q.1, .int .i64 q.2] 23)) := (Below.refl _ W).alloc (Nat.le_refl _) _
    refine ⟨0, Nat.zero_le _, rfl, hJ _ _ _ h0 (Nat.le_refl _) hb1, hp'.below hb1 (by omega), by simp, by simp, by simp, q, by simp, by simp, fun h => ?_⟩
    rw [pairs_get l 0 h]; simp [Hq.out]
  case round =>
    obtain ⟨k, hk, rfl, hJs, hps, hwz, hf0, hf1, q, hc0, hc1, hqk⟩ := hrel
    by_cases hlt : k < len
    · have hkl : k < l.length := by rw [HL.out]; exact hlt
      obtain ⟨hd0, hd1⟩ := hps k hkl
      have hqk' := hqk hkl
      generalize l[k] = p at hd0 hd1 hqk'
      have HQ := Lib.hid hqk'; clear hqk hqk'
      have hb1 : Below wr.heap.size wr (wr.alloc (.cells #[.int .i64 p.1, .int .i64 p.2] 23)) := (Below.refl _ wr).alloc (Nat.le_refl _) _
      have hJ1 : J ((pairsOf l).take k) (wr.alloc (.cells #[.int .i64 p.1, .int .i64 p.2] 23)) := hJ _ _ _ hJs (by omega) (hb1.mono (by omega))
      obtain ⟨fn, tmps, assign, body, hy, hR⟩ := hY _ (q, p) _ hJ1 (by rw [List.length_take, pairsOf_length, HL.out]; omega)
      dsimp only [encP] at hy
      have HB1 := Lib.hid hb1; clear hb1
      have HJ1 := Lib.hid hJ1; clear hJ1
      gi_wp2
      refine hR.mono ?_
      rintro e W3 ⟨rfl, hJ3, hk3⟩
      have hne : W.heap.size ≠ r := by omega
      have c0 : W3.cell? ⟨W.heap.size, 0, none⟩ = some (.int .i64 q.1) := hk3.cell hne (cell_a hc0 _)
      have c1 : W3.cell? ⟨W.heap.size, 1, none⟩ = some (.int .i64 q.2) := hk3.cell hne (cell_a hc1 _)
      have f0 : W3.frozen? ⟨W.heap.size, 0, none⟩ = false := (hk3.frozen hne (cell_a hc0 _)).trans (froz_a hc0 hf0 _)
      have f1 : W3.frozen? ⟨W.heap.size, 1, none⟩ = false := (hk3.frozen hne (cell_a hc1 _)).trans (froz_a hc1 hf1 _)
      have p0 : W3.cell? ⟨wr.heap.size, 0, none⟩ = some (.int .i64 p.1) := hk3.cell (by show wr.heap.size ≠ r; omega) (by simp)
      have p1 : W3.cell? ⟨wr.heap.size, 1, none⟩ = some (.int .i64 p.2) := hk3.cell (by show wr.heap.size ≠ r; omega) (by simp)
      have hz3 : wr.heap.size < W3.heap.size := by have := hk3.size; simp at this; omega
      have hps3 : PtsAt W3 b off l := (hps.below (HB1.out) (by omega)).keep hk3 hb
      have HP := Lib.hid hps3; clear hps3 hps
      have HJ3 := Lib.hid hJ3; clear hJ3 hJs
      have HK3 := Lib.hid hk3; clear hk3
      gi_wp2
      have bS : Below W.heap.size W3 ((W3.setCell ⟨W.heap.size, 0, none⟩ (.int .i64 p.1)).setCell ⟨W.heap.size, 1, none⟩ (.int .i64 p.2)) :=
        ((Below.refl _ _).setCell (p := ⟨W.heap.size, 0, none⟩) (Nat.le_refl _) _).setCell (p := ⟨W.heap.size, 1, none⟩) (Nat.le_refl _) _
      go_roundw
      case rel =>
        refine ⟨k + 1, by omega, by go_num, ?_, HP.out.below bS (by omega), by simp; omega, by simp [f0], by simp [f1], p, ?_, ?_, fun h => ?_⟩
        · have := hJ _ _ _ HJ3.out (by omega) bS
          rw [show (pairsOf l).take (k + 1) = (pairsOf l).take k ++ [(q, p)] by rw [List.take_add_one, HQ.out]; rfl]
          exact this
        · simp [go_sem, c0]
        · simp [go_sem, c1]
        · rw [pairs_get l (k + 1) h]
          have := pairs_get l k hkl
          rw [HQ.out] at this
          simp only [Option.some.injEq, Prod.mk.injEq] at this
          simp [this.2]
      case measure => simp [intOf]; omega
    · have hke : k = len := by omega
      have HK : Hid (J (pairsOf l) wr) := by show J (pairsOf l) wr; rw [hke, List.take_of_length_le (by rw [pairsOf_length, HL.out]; omega)] at hJs; exact hJs
      clear hJs hqk hke
      gi_wp2
      go_end0
      exact ⟨⟨_, rfl⟩, HK.out⟩

theorem pairs_none (F : Fence) (n : Nat) (hF : F.fn 42) (hro : F.round = none) (Bs r cap : Nat) (a : Option Addr) (w : World) (hBs : w.cell? ⟨Bs, 0, none⟩ = some (.slice a 0 cap)) :
    SeqAll F n Try.prog 42 #[.pointer (some ⟨Bs, 0, none⟩)] encP r (pairsOf []) w := by
  intro y J W hW hJ hY h0
  have hBw : Bs < w.heap.size := cell_lt (a := ⟨Bs, 0, none⟩) hBs
  have hBs' : W.cell? ⟨Bs, 0, none⟩ = some (.slice a 0 cap) := (hW.cell (p := ⟨Bs, 0, none⟩) hBw).trans hBs
  have H0 := Lib.hid h0; clear h0
  refine callsIn_of_wp Try.func42 rfl hF ?_ hro
  simp only [Try.ntmps42, List.size_toArray, List.length_cons, List.length_nil, Nat.reduceAdd, Nat.reduceSub, Array.replicate_succ, Array.replicate_zero, List.push_toArray, List.append_toArray, List.nil_append, List.cons_append]
  gi_wp2
  refine bodyPost_ret (results_none rfl _ _ _) rfl ?_
  exact ⟨⟨_, rfl⟩, H0.out⟩

theorem pairs_in (F : Fence) (n : Nat) (hF : F.fn 32) (hro : F.round = none) (a : Option Addr) (len cap : Nat) (w : World) :
    CallsIn F n Try.prog 32 #[.slice a len cap] w fun e w' => e = .returned (.func (.func 42) #[] #[.pointer (some ⟨w.heap.size, 0, none⟩)]) ∧ w' = w.alloc (.cells #[.slice a len cap] 28) := by
  refine callsIn_of_wp Try.func32 rfl hF ?_ hro
  simp only [Try.ntmps32, List.size_toArray, List.length_cons, List.length_nil, Nat.reduceAdd, Nat.reduceSub, Array.replicate_succ, Array.replicate_zero, List.push_toArray, List.append_toArray, List.nil_append, List.cons_append]
  gi_wp2
  go_ret
  exact ⟨rfl, rfl⟩

/-- The slice's value reads as these points. -/
def PtsV (w : World) (a : Option Addr) (len : Nat) (l : List Pt) : Prop := len = l.length ∧ (l = [] ∨ ∃ b off, a = some ⟨b, off, none⟩ ∧ PtsAt w b off l)
theorem PtsV.kp {w w' : World} {a : Option Addr} {len : Nat} {l : List Pt} (h : PtsV w a len l) (k : Kp w w') : PtsV w' a len l :=
  ⟨h.1, h.2.imp id fun ⟨b, off, e, hp⟩ => ⟨b, off, e, hp.kp k⟩⟩
theorem PtsV.below {w w' : World} {a : Option Addr} {len : Nat} {l : List Pt} (h : PtsV w a len l) (k : Below w.heap.size w w') : PtsV w' a len l := h.kp k

theorem seq_pairs (F : Fence) (n : Nat) (hF : F.fn 42) (hro : F.round = none) (hn : 1 ≤ n) (Bs r len cap : Nat) (a : Option Addr) (l : List Pt) (w : World) (hBs : w.cell? ⟨Bs, 0, none⟩ = some (.slice a len cap))
    (hr : r < w.heap.size) (w0 : World) (hp0 : PtsV w0 a len l) (hw : Kp w0 w) (hr0 : w0.heap.size ≤ r) (hl : l.length ≤ 10000000000000) :
    SeqAll F n Try.prog 42 #[.pointer (some ⟨Bs, 0, none⟩)] encP r (pairsOf l) w := by
  obtain ⟨rfl, h⟩ := hp0
  rcases h with rfl | ⟨b, off, rfl, hp⟩
  · exact pairs_none F n hF hro Bs r cap a w hBs
  · by_cases h0 : 0 < l.length
    · exact pairs_all F n hF hro hn Bs r b off cap l w hBs hr (by have := hp.lt h0; omega) (hp.kp hw) hl h0
    · obtain rfl : l = [] := List.length_eq_zero_iff.1 (by omega)
      exact pairs_none F n hF hro Bs r cap _ w hBs
end Go.Proofs.Ytmbfcneabpgcpaa
