/- The walk of CrossEnds. -/
import Derived.Test.YtcelipgokpnmfaaC7
import Derived.Test.YtcelipgokpnmfaaCellD
import Derived.Test.YtcelipgokpnmfaaCrossPlain5
import Derived.Deep.DeepCutAuto
namespace Go.Proofs.Ytcelipgokpnmfaa
open Go.RowKit Go.Proofs.Geo
set_option linter.unusedVariables false
theorem run_eqPt (x y z u : Int) (w : World) : (Op.equalIn 10000 23 (.agg #[.int .i64 x, .int .i64 y]) (.agg #[.int .i64 z, .int .i64 u])).run Try.prog w = .ok (x == z && y == u) w := by
  simp [go_sem]
  by_cases h1 : x = z <;> by_cases h2 : y = u <;> simp [h1, h2]
theorem same_two (v1 : Value) (b c : Nat) (p q : Pt) (w : World) (h : Rd w v1 [p, q]) (g : PtsAt w b 0 [p, q]) :
    Calls Try.prog 11 #[v1, .slice (some ⟨b, 0, none⟩) 2 c] w fun e w' => e = .returned (.bool true) ∧ Kp w w' :=
  same_rd v1 _ [p, q] w (List.cons_ne_nil _ _) h ⟨by simp, .inr ⟨b, 0, c, rfl, g⟩⟩
theorem size_drew' (W : World) : W.drew.heap.size = W.heap.size := rfl
/-- A slice's points, where there are any. -/
def EndsAt (W : World) (sa : Option Addr) (L : List Pt) : Prop := ∀ k (hk : k < L.length), ∃ gb goff, sa = some ⟨gb, goff, none⟩ ∧ W.cell? ⟨gb, goff + k * 2, none⟩ = some (.int .i64 L[k].1) ∧ W.cell? ⟨gb, goff + k * 2 + 1, none⟩ = some (.int .i64 L[k].2)
theorem EndsAt.kp {W W' : World} {sa : Option Addr} {L : List Pt} (h : EndsAt W sa L) (k : Kp W W') : EndsAt W' sa L := fun i hi => by
  obtain ⟨g, o, e, h1, h2⟩ := h i hi
  exact ⟨g, o, e, kp_cell k h1, kp_cell k h2⟩
section
variable {P : Program} {ops : Array Oper} {Q : Exit → Act → World → Prop} {md : Region.Mode} {S : World → Prop}
/-- The next operation of a held region, that is carried out; that is struck out. -/
theorem take_yes {i d : Nat} {oi : Oper} {v : Value} {fuel : Nat} {listed : Array Bool} {a : Act} {w : World} (hi : ops[i]? = some oi) (hd : oi.dst = some d)
    (hs : Region.noSelect ops = true) (hf : Region.free md ops listed i = true) (hr : (Region.ready md ops listed).contains i = true)
    (hQ : ∀ c a w, Q (.panic c) (a.put oi.dst v) w → Q (.panic c) a w) (hw : Region.wanted oi (yielded ops a.tmps) = true) (hv : ∀ w, S w → (execOp a.eval oi).run P w = .ok (.value v) w) (hS : S w)
    (h : wpAnyH P md ops Q S fuel (listed.setIfInBounds i true) (a.put (some d) v) w) : wpAnyH P md ops Q S (fuel + 1) listed a w :=
  wpAnyH_take hi hs hf hr hQ (.inl ⟨hw, hv⟩) hS (by rw [hd]; exact h)
theorem take_no {i d : Nat} {oi : Oper} {fuel : Nat} {listed : Array Bool} {a : Act} {w : World} (hi : ops[i]? = some oi) (hd : oi.dst = some d)
    (hs : Region.noSelect ops = true) (hf : Region.free md ops listed i = true) (hr : (Region.ready md ops listed).contains i = true)
    (hQ : ∀ c a w, Q (.panic c) (a.put oi.dst undef) w → Q (.panic c) a w) (hw : Region.wanted oi (yielded ops a.tmps) = false) (hS : S w)
    (h : wpAnyH P md ops Q S fuel (listed.setIfInBounds i true) (a.put (some d) undef) w) : wpAnyH P md ops Q S (fuel + 1) listed a w :=
  wpAnyH_take hi hs hf hr hQ (.inr ⟨hw, rfl⟩) hS (by rw [hd]; exact h)
end
theorem endsAt_of {w w' : World} {v : Value} {l : List Pt} (ho : OwnP w' w.heap.size v l) (h2 : l.length ≤ 100) : ∃ sa sc, v = .slice sa l.length sc ∧ EndsAt w' sa l := by
  obtain ⟨_, ⟨rfl, h⟩ | ⟨gb, off, cap, rfl, h⟩⟩ := ho.rd (by omega)
  · subst h; exact ⟨none, 0, rfl, fun k hk => by simp at hk⟩
  · exact ⟨_, cap, rfl, fun k hk => ⟨gb, off, rfl, (h k hk).1, (h k hk).2⟩⟩

set_option maxHeartbeats 8000000 in
set_option maxRecDepth 100000 in
theorem cends_bad1 (ax ay bx bY cx cy dx dy : Int) (h1 : may (ax, ay) (bx, bY) = false) (w : World) : Calls Try.prog 4 #[pv ax ay, pv bx bY, pv cx cy, pv dx dy] w fun e w' => e = .returned (.bool true) ∧ Kp w w' := by
  go_enter Try.func4, Try.ntmps4
  go_upto_region 2 with (go_at_call 14; refine (awake08_any _).mono ?_; rintro e w1 ⟨rfl, hk⟩; have c0 : w1.cell? ⟨w.heap.size, 0, none⟩ = some (.int .i64 ax) := kp_cell hk (by simp [go_sem]); have c1 : w1.cell? ⟨w.heap.size, 1, none⟩ = some (.int .i64 ay) := kp_cell hk (by simp [go_sem]); have c2 : w1.cell? ⟨w.heap.size + 1, 0, none⟩ = some (.int .i64 bx) := kp_cell hk (by simp [go_sem]); have c3 : w1.cell? ⟨w.heap.size + 1, 1, none⟩ = some (.int .i64 bY) := kp_cell hk (by simp [go_sem]); have c4 : w1.cell? ⟨w.heap.size + 1 + 1, 0, none⟩ = some (.int .i64 cx) := kp_cell hk (by simp [go_sem]); have c5 : w1.cell? ⟨w.heap.size + 1 + 1, 1, none⟩ = some (.int .i64 cy) := kp_cell hk (by simp [go_sem]); have c6 : w1.cell? ⟨w.heap.size + 1 + 1 + 1, 0, none⟩ = some (.int .i64 dx) := kp_cell hk (by simp [go_sem]); have c7 : w1.cell? ⟨w.heap.size + 1 + 1 + 1, 1, none⟩ = some (.int .i64 dy) := kp_cell hk (by simp [go_sem]); have K : Kp w w1 := kp_trans (by repeat (first | exact kp_refl _ | apply kp_alloc | apply kp_drew)) hk; have l0 : w.heap.size < w1.heap.size := cell_lt c0; have l2 : w.heap.size + 1 < w1.heap.size := cell_lt c2; have l4 : w.heap.size + 1 + 1 < w1.heap.size := cell_lt c4; have l6 : w.heap.size + 1 + 1 + 1 < w1.heap.size := cell_lt c6; clear hk)
  have KW1 := Lib.hid K
  have BAS := Lib.hid (show ∀ W, Kp w1 W → (W.cell? ⟨w.heap.size, 0, none⟩ = some (.int .i64 ax) ∧ W.cell? ⟨w.heap.size, 1, none⟩ = some (.int .i64 ay) ∧ W.cell? ⟨w.heap.size + 1, 0, none⟩ = some (.int .i64 bx) ∧ W.cell? ⟨w.heap.size + 1, 1, none⟩ = some (.int .i64 bY) ∧ W.cell? ⟨w.heap.size + 1 + 1, 0, none⟩ = some (.int .i64 cx) ∧ W.cell? ⟨w.heap.size + 1 + 1, 1, none⟩ = some (.int .i64 cy) ∧ W.cell? ⟨w.heap.size + 1 + 1 + 1, 0, none⟩ = some (.int .i64 dx) ∧ W.cell? ⟨w.heap.size + 1 + 1 + 1, 1, none⟩ = some (.int .i64 dy)) from fun W k => ⟨kp_cell k c0, kp_cell k c1, kp_cell k c2, kp_cell k c3, kp_cell k c4, kp_cell k c5, kp_cell k c6, kp_cell k c7⟩); have K : Kp w1 w1 := kp_refl _
  go_wp2_with (go_at_call 15; (with_reducible refine (may08_any _ _ _ _ _).mono ?_); rintro e w4 ⟨rfl, hk⟩; replace K : Kp w1 w4 := kp_trans (by repeat (first | (with_reducible exact K) | (with_reducible apply kp_alloc) | (with_reducible apply kp_drew) | (with_reducible apply kp_drewN))) hk; replace c0 := (BAS.out _ K).1; replace c1 := (BAS.out _ K).2.1; replace c2 := (BAS.out _ K).2.2.1; replace c3 := (BAS.out _ K).2.2.2.1; replace c4 := (BAS.out _ K).2.2.2.2.1; replace c5 := (BAS.out _ K).2.2.2.2.2.1; replace c6 := (BAS.out _ K).2.2.2.2.2.2.1; replace c7 := (BAS.out _ K).2.2.2.2.2.2.2; replace l0 : w.heap.size < w4.heap.size := cell_lt c0; replace l2 : w.heap.size + 1 < w4.heap.size := cell_lt c2; replace l4 : w.heap.size + 1 + 1 < w4.heap.size := cell_lt c4; replace l6 : w.heap.size + 1 + 1 + 1 < w4.heap.size := cell_lt c6; clear hk)
  go_ret
  exact ⟨rfl, kp_trans KW1.out K⟩
set_option maxHeartbeats 8000000 in
set_option maxRecDepth 100000 in
theorem cends_bad2 (ax ay bx bY cx cy dx dy : Int) (h1 : may (ax, ay) (bx, bY) = true) (h2 : may (cx, cy) (dx, dy) = false) (w : World) : Calls Try.prog 4 #[pv ax ay, pv bx bY, pv cx cy, pv dx dy] w fun e w' => e = .returned (.bool true) ∧ Kp w w' := by
  go_enter Try.func4, Try.ntmps4
  go_upto_region 2 with (go_at_call 14; refine (awake08_any _).mono ?_; rintro e w1 ⟨rfl, hk⟩; have c0 : w1.cell? ⟨w.heap.size, 0, none⟩ = some (.int .i64 ax) := kp_cell hk (by simp [go_sem]); have c1 : w1.cell? ⟨w.heap.size, 1, none⟩ = some (.int .i64 ay) := kp_cell hk (by simp [go_sem]); have c2 : w1.cell? ⟨w.heap.size + 1, 0, none⟩ = some (.int .i64 bx) := kp_cell hk (by simp [go_sem]); have c3 : w1.cell? ⟨w.heap.size + 1, 1, none⟩ = some (.int .i64 bY) := kp_cell hk (by simp [go_sem]); have c4 : w1.cell? ⟨w.heap.size + 1 + 1, 0, none⟩ = some (.int .i64 cx) := kp_cell hk (by simp [go_sem]); have c5 : w1.cell? ⟨w.heap.size + 1 + 1, 1, none⟩ = some (.int .i64 cy) := kp_cell hk (by simp [go_sem]); have c6 : w1.cell? ⟨w.heap.size + 1 + 1 + 1, 0, none⟩ = some (.int .i64 dx) := kp_cell hk (by simp [go_sem]); have c7 : w1.cell? ⟨w.heap.size + 1 + 1 + 1, 1, none⟩ = some (.int .i64 dy) := kp_cell hk (by simp [go_sem]); have K : Kp w w1 := kp_trans (by repeat (first | exact kp_refl _ | apply kp_alloc | apply kp_drew)) hk; have l0 : w.heap.size < w1.heap.size := cell_lt c0; have l2 : w.heap.size + 1 < w1.heap.size := cell_lt c2; have l4 : w.heap.size + 1 + 1 < w1.heap.size := cell_lt c4; have l6 : w.heap.size + 1 + 1 + 1 < w1.heap.size := cell_lt c6; clear hk)
  have KW1 := Lib.hid K
  have BAS := Lib.hid (show ∀ W, Kp w1 W → (W.cell? ⟨w.heap.size, 0, none⟩ = some (.int .i64 ax) ∧ W.cell? ⟨w.heap.size, 1, none⟩ = some (.int .i64 ay) ∧ W.cell? ⟨w.heap.size + 1, 0, none⟩ = some (.int .i64 bx) ∧ W.cell? ⟨w.heap.size + 1, 1, none⟩ = some (.int .i64 bY) ∧ W.cell? ⟨w.heap.size + 1 + 1, 0, none⟩ = some (.int .i64 cx) ∧ W.cell? ⟨w.heap.size + 1 + 1, 1, none⟩ = some (.int .i64 cy) ∧ W.cell? ⟨w.heap.size + 1 + 1 + 1, 0, none⟩ = some (.int .i64 dx) ∧ W.cell? ⟨w.heap.size + 1 + 1 + 1, 1, none⟩ = some (.int .i64 dy)) from fun W k => ⟨kp_cell k c0, kp_cell k c1, kp_cell k c2, kp_cell k c3, kp_cell k c4, kp_cell k c5, kp_cell k c6, kp_cell k c7⟩); have K : Kp w1 w1 := kp_refl _
  go_wp2_with (go_at_call 15; (with_reducible refine (may08_any _ _ _ _ _).mono ?_); rintro e w4 ⟨rfl, hk⟩; replace K : Kp w1 w4 := kp_trans (by repeat (first | (with_reducible exact K) | (with_reducible apply kp_alloc) | (with_reducible apply kp_drew) | (with_reducible apply kp_drewN))) hk; replace c0 := (BAS.out _ K).1; replace c1 := (BAS.out _ K).2.1; replace c2 := (BAS.out _ K).2.2.1; replace c3 := (BAS.out _ K).2.2.2.1; replace c4 := (BAS.out _ K).2.2.2.2.1; replace c5 := (BAS.out _ K).2.2.2.2.2.1; replace c6 := (BAS.out _ K).2.2.2.2.2.2.1; replace c7 := (BAS.out _ K).2.2.2.2.2.2.2; replace l0 : w.heap.size < w4.heap.size := cell_lt c0; replace l2 : w.heap.size + 1 < w4.heap.size := cell_lt c2; replace l4 : w.heap.size + 1 + 1 < w4.heap.size := cell_lt c4; replace l6 : w.heap.size + 1 + 1 + 1 < w4.heap.size := cell_lt c6; clear hk)
  go_ret
  exact ⟨rfl, kp_trans KW1.out K⟩
set_option maxHeartbeats 8000000 in
set_option maxRecDepth 100000 in
theorem cends_0 (ax ay bx bY cx cy dx dy : Int) (h1 : may (ax, ay) (bx, bY) = true) (h2 : may (cx, cy) (dx, dy) = true) (L : List Pt) (hn : L.length = 0) (m1 : meets (ax, ay) (bx, bY) (cx, cy) (dx, dy) = 0) (hL : ends (ax, ay) (bx, bY) (cx, cy) (dx, dy) = L) (w : World) : Calls Try.prog 4 #[pv ax ay, pv bx bY, pv cx cy, pv dx dy] w fun e w' => e = .returned (.bool true) ∧ Kp w w' := by
  have m2 := meets_self h1
  have m3 := meets_self' h1
  have q1 := fun w => meets_any ax ay bx bY cx cy dx dy w
  have q2 := fun w => meets_any ax ay bx bY ax ay bx bY w
  have q3 := fun w => meets_any ax ay bx bY bx bY ax ay w
  rw [m1] at q1; rw [m2] at q2; rw [m3] at q3
  have q4 := fun w => ends_any ax ay bx bY cx cy dx dy w
  have q5 := fun w => ends_any ax ay bx bY ax ay bx bY w
  rw [hL] at q4; rw [ends_self h1] at q5
  have M1 := Lib.hid q1; have M2 := Lib.hid q2; have M3 := Lib.hid q3; have HE := Lib.hid q4; have HS := Lib.hid q5
  have HN := Lib.hid hn
  have HM : Hid (∀ i (hi : i < L.length), (L[i] = (ax, ay) ∨ L[i] = (bx, bY) ∨ L[i] = (cx, cy) ∨ L[i] = (dx, dy)) ∧ onS L[i] (ax, ay) (bx, bY) = true ∧ onS L[i] (cx, cy) (dx, dy) = true) := Lib.hid (fun i hi => (mem_ends h1 h2).1 (by rw [hL]; exact List.getElem_mem hi))
  have he := run_eqPt
  clear m1 m2 m3 q1 q2 q3 q4 q5 hn hL
  go_enter Try.func4, Try.ntmps4
  go_upto_region 2 with (go_at_call 14; refine (awake08_any _).mono ?_; rintro e w1 ⟨rfl, hk⟩; have c0 : w1.cell? ⟨w.heap.size, 0, none⟩ = some (.int .i64 ax) := kp_cell hk (by simp [go_sem]); have c1 : w1.cell? ⟨w.heap.size, 1, none⟩ = some (.int .i64 ay) := kp_cell hk (by simp [go_sem]); have c2 : w1.cell? ⟨w.heap.size + 1, 0, none⟩ = some (.int .i64 bx) := kp_cell hk (by simp [go_sem]); have c3 : w1.cell? ⟨w.heap.size + 1, 1, none⟩ = some (.int .i64 bY) := kp_cell hk (by simp [go_sem]); have c4 : w1.cell? ⟨w.heap.size + 1 + 1, 0, none⟩ = some (.int .i64 cx) := kp_cell hk (by simp [go_sem]); have c5 : w1.cell? ⟨w.heap.size + 1 + 1, 1, none⟩ = some (.int .i64 cy) := kp_cell hk (by simp [go_sem]); have c6 : w1.cell? ⟨w.heap.size + 1 + 1 + 1, 0, none⟩ = some (.int .i64 dx) := kp_cell hk (by simp [go_sem]); have c7 : w1.cell? ⟨w.heap.size + 1 + 1 + 1, 1, none⟩ = some (.int .i64 dy) := kp_cell hk (by simp [go_sem]); have K : Kp w w1 := kp_trans (by repeat (first | exact kp_refl _ | apply kp_alloc | apply kp_drew)) hk; have l0 : w.heap.size < w1.heap.size := cell_lt c0; have l2 : w.heap.size + 1 < w1.heap.size := cell_lt c2; have l4 : w.heap.size + 1 + 1 < w1.heap.size := cell_lt c4; have l6 : w.heap.size + 1 + 1 + 1 < w1.heap.size := cell_lt c6; clear hk)
  have KW1 := Lib.hid K
  have BAS := Lib.hid (show ∀ W, Kp w1 W → (W.cell? ⟨w.heap.size, 0, none⟩ = some (.int .i64 ax) ∧ W.cell? ⟨w.heap.size, 1, none⟩ = some (.int .i64 ay) ∧ W.cell? ⟨w.heap.size + 1, 0, none⟩ = some (.int .i64 bx) ∧ W.cell? ⟨w.heap.size + 1, 1, none⟩ = some (.int .i64 bY) ∧ W.cell? ⟨w.heap.size + 1 + 1, 0, none⟩ = some (.int .i64 cx) ∧ W.cell? ⟨w.heap.size + 1 + 1, 1, none⟩ = some (.int .i64 cy) ∧ W.cell? ⟨w.heap.size + 1 + 1 + 1, 0, none⟩ = some (.int .i64 dx) ∧ W.cell? ⟨w.heap.size + 1 + 1 + 1, 1, none⟩ = some (.int .i64 dy)) from fun W k => ⟨kp_cell k c0, kp_cell k c1, kp_cell k c2, kp_cell k c3, kp_cell k c4, kp_cell k c5, kp_cell k c6, kp_cell k c7⟩); have K : Kp w1 w1 := kp_refl _
  go_upto_region 4 with (go_at_call 15; (with_reducible refine (may08_any _ _ _ _ _).mono ?_); rintro e w4 ⟨rfl, hk⟩; replace K : Kp w1 w4 := kp_trans (by repeat (first | (with_reducible exact K) | (with_reducible apply kp_alloc) | (with_reducible apply kp_drew) | (with_reducible apply kp_drewN))) hk; replace c0 := (BAS.out _ K).1; replace c1 := (BAS.out _ K).2.1; replace c2 := (BAS.out _ K).2.2.1; replace c3 := (BAS.out _ K).2.2.2.1; replace c4 := (BAS.out _ K).2.2.2.2.1; replace c5 := (BAS.out _ K).2.2.2.2.2.1; replace c6 := (BAS.out _ K).2.2.2.2.2.2.1; replace c7 := (BAS.out _ K).2.2.2.2.2.2.2; replace l0 : w.heap.size < w4.heap.size := cell_lt c0; replace l2 : w.heap.size + 1 < w4.heap.size := cell_lt c2; replace l4 : w.heap.size + 1 + 1 < w4.heap.size := cell_lt c4; replace l6 : w.heap.size + 1 + 1 + 1 < w4.heap.size := cell_lt c6; clear hk)
  go_cut [10, 11] (fun s t wx => s = .int .i64 0 ∧ (∃ sa sc, t = .slice sa 0 sc ∧ EndsAt wx sa L) ∧ Kp w1 wx)
  case first =>
    go_region_held3 (fun w' => Kp w1 w' ∧ w'.cell? ⟨w.heap.size, 0, none⟩ = some (.int .i64 ax) ∧ w'.cell? ⟨w.heap.size, 1, none⟩ = some (.int .i64 ay) ∧ w'.cell? ⟨w.heap.size + 1, 0, none⟩ = some (.int .i64 bx) ∧ w'.cell? ⟨w.heap.size + 1, 1, none⟩ = some (.int .i64 bY) ∧ w'.cell? ⟨w.heap.size + 1 + 1, 0, none⟩ = some (.int .i64 cx) ∧ w'.cell? ⟨w.heap.size + 1 + 1, 1, none⟩ = some (.int .i64 cy) ∧ w'.cell? ⟨w.heap.size + 1 + 1 + 1, 0, none⟩ = some (.int .i64 dx) ∧ w'.cell? ⟨w.heap.size + 1 + 1 + 1, 1, none⟩ = some (.int .i64 dy)) ((first | (with_reducible exact ⟨K, c0, c1, c2, c3, c4, c5, c6, c7⟩) | (with_reducible exact ⟨kp_drew K, cell_d c0, cell_d c1, cell_d c2, cell_d c3, cell_d c4, cell_d c5, cell_d c6, cell_d c7⟩) | (with_reducible exact ⟨kp_alloc K _, cell_a c0 _, cell_a c1 _, cell_a c2 _, cell_a c3 _, cell_a c4 _, cell_a c5 _, cell_a c6 _, cell_a c7 _⟩) | (with_reducible exact ⟨kp_alloc (kp_drew K) _, cell_a (cell_d c0) _, cell_a (cell_d c1) _, cell_a (cell_d c2) _, cell_a (cell_d c3) _, cell_a (cell_d c4) _, cell_a (cell_d c5) _, cell_a (cell_d c6) _, cell_a (cell_d c7) _⟩) | (with_reducible exact ⟨kp_drew (kp_alloc K _), cell_d (cell_a c0 _), cell_d (cell_a c1 _), cell_d (cell_a c2 _), cell_d (cell_a c3 _), cell_d (cell_a c4 _), cell_d (cell_a c5 _), cell_d (cell_a c6 _), cell_d (cell_a c7 _)⟩)))
      (first
        | (go_at_call 9; (with_reducible refine (M1.out _).mono ?_); rintro e w4 ⟨rfl, hk⟩; (try replace HES := Lib.hid (HES.out.kp (kp_trans (by repeat (first | (with_reducible exact kp_refl _) | (with_reducible apply kp_alloc) | (with_reducible apply kp_drew) | (with_reducible apply kp_drewN))) hk))); replace K : Kp w1 w4 := kp_trans (by repeat (first | (with_reducible exact K) | (with_reducible apply kp_alloc) | (with_reducible apply kp_drew) | (with_reducible apply kp_drewN))) hk; replace c0 := (BAS.out _ K).1; replace c1 := (BAS.out _ K).2.1; replace c2 := (BAS.out _ K).2.2.1; replace c3 := (BAS.out _ K).2.2.2.1; replace c4 := (BAS.out _ K).2.2.2.2.1; replace c5 := (BAS.out _ K).2.2.2.2.2.1; replace c6 := (BAS.out _ K).2.2.2.2.2.2.1; replace c7 := (BAS.out _ K).2.2.2.2.2.2.2; replace l0 : w.heap.size < w4.heap.size := cell_lt c0; replace l2 : w.heap.size + 1 < w4.heap.size := cell_lt c2; replace l4 : w.heap.size + 1 + 1 < w4.heap.size := cell_lt c4; replace l6 : w.heap.size + 1 + 1 + 1 < w4.heap.size := cell_lt c6; clear hk)
        | (go_at_call 12; (with_reducible refine (HE.out _).mono ?_); rintro e w5 ⟨v3, rfl, ho⟩; obtain ⟨sa, sc, rfl, hes⟩ := endsAt_of ho.1 (by rw [HN.out]; decide); rw [HN.out]; have HES := Lib.hid hes; have hk := ho.2; clear ho hes; replace K : Kp w1 w5 := kp_trans (by repeat (first | (with_reducible exact K) | (with_reducible apply kp_alloc) | (with_reducible apply kp_drew) | (with_reducible apply kp_drewN))) hk; replace c0 := (BAS.out _ K).1; replace c1 := (BAS.out _ K).2.1; replace c2 := (BAS.out _ K).2.2.1; replace c3 := (BAS.out _ K).2.2.2.1; replace c4 := (BAS.out _ K).2.2.2.2.1; replace c5 := (BAS.out _ K).2.2.2.2.2.1; replace c6 := (BAS.out _ K).2.2.2.2.2.2.1; replace c7 := (BAS.out _ K).2.2.2.2.2.2.2; replace l0 : w.heap.size < w5.heap.size := cell_lt c0; replace l2 : w.heap.size + 1 < w5.heap.size := cell_lt c2; replace l4 : w.heap.size + 1 + 1 < w5.heap.size := cell_lt c4; replace l6 : w.heap.size + 1 + 1 + 1 < w5.heap.size := cell_lt c6; clear hk))
    all_goals
      go_wp2_with fail
      go_meet
      exact ⟨rfl, ⟨_, _, rfl, HES.out.kp (by repeat (first | (with_reducible exact kp_refl _) | (with_reducible apply kp_alloc) | (with_reducible apply kp_drew) | (with_reducible apply kp_drewN)))⟩, (by repeat (first | (with_reducible exact K) | (with_reducible apply kp_alloc) | (with_reducible apply kp_drew) | (with_reducible apply kp_drewN)))⟩
  case rest =>
    clear K c0 c1 c2 c3 c4 c5 c6 c7 l0 l2 l4 l6
    obtain ⟨rfl, ⟨sa, sc, rfl, hes⟩, K⟩ := hcut
    have HES := Lib.hid hes; clear hes
    have c0 := (BAS.out _ K).1; have c1 := (BAS.out _ K).2.1; have c2 := (BAS.out _ K).2.2.1; have c3 := (BAS.out _ K).2.2.2.1; have c4 := (BAS.out _ K).2.2.2.2.1; have c5 := (BAS.out _ K).2.2.2.2.2.1; have c6 := (BAS.out _ K).2.2.2.2.2.2.1; have c7 := (BAS.out _ K).2.2.2.2.2.2.2; have l0 : w.heap.size < wc.heap.size := cell_lt c0; have l2 : w.heap.size + 1 < wc.heap.size := cell_lt c2; have l4 : w.heap.size + 1 + 1 < wc.heap.size := cell_lt c4; have l6 : w.heap.size + 1 + 1 + 1 < wc.heap.size := cell_lt c6
    go_wp2_with (first
      | (go_at_call 9; (with_reducible refine (M2.out _).mono ?_); rintro e w4 ⟨rfl, hk⟩; replace HES := Lib.hid (HES.out.kp (kp_trans (by repeat (first | (with_reducible exact kp_refl _) | (with_reducible apply kp_alloc) | (with_reducible apply kp_drew) | (with_reducible apply kp_drewN))) hk)); replace K : Kp w1 w4 := kp_trans (by repeat (first | (with_reducible exact K) | (with_reducible apply kp_alloc) | (with_reducible apply kp_drew) | (with_reducible apply kp_drewN))) hk; replace c0 := (BAS.out _ K).1; replace c1 := (BAS.out _ K).2.1; replace c2 := (BAS.out _ K).2.2.1; replace c3 := (BAS.out _ K).2.2.2.1; replace c4 := (BAS.out _ K).2.2.2.2.1; replace c5 := (BAS.out _ K).2.2.2.2.2.1; replace c6 := (BAS.out _ K).2.2.2.2.2.2.1; replace c7 := (BAS.out _ K).2.2.2.2.2.2.2; replace l0 : w.heap.size < w4.heap.size := cell_lt c0; replace l2 : w.heap.size + 1 < w4.heap.size := cell_lt c2; replace l4 : w.heap.size + 1 + 1 < w4.heap.size := cell_lt c4; replace l6 : w.heap.size + 1 + 1 + 1 < w4.heap.size := cell_lt c6; clear hk)
      | (go_at_call 9; (with_reducible refine (M3.out _).mono ?_); rintro e w4 ⟨rfl, hk⟩; replace HES := Lib.hid (HES.out.kp (kp_trans (by repeat (first | (with_reducible exact kp_refl _) | (with_reducible apply kp_alloc) | (with_reducible apply kp_drew) | (with_reducible apply kp_drewN))) hk)); replace K : Kp w1 w4 := kp_trans (by repeat (first | (with_reducible exact K) | (with_reducible apply kp_alloc) | (with_reducible apply kp_drew) | (with_reducible apply kp_drewN))) hk; replace c0 := (BAS.out _ K).1; replace c1 := (BAS.out _ K).2.1; replace c2 := (BAS.out _ K).2.2.1; replace c3 := (BAS.out _ K).2.2.2.1; replace c4 := (BAS.out _ K).2.2.2.2.1; replace c5 := (BAS.out _ K).2.2.2.2.2.1; replace c6 := (BAS.out _ K).2.2.2.2.2.2.1; replace c7 := (BAS.out _ K).2.2.2.2.2.2.2; replace l0 : w.heap.size < w4.heap.size := cell_lt c0; replace l2 : w.heap.size + 1 < w4.heap.size := cell_lt c2; replace l4 : w.heap.size + 1 + 1 < w4.heap.size := cell_lt c4; replace l6 : w.heap.size + 1 + 1 + 1 < w4.heap.size := cell_lt c6; clear hk))
    go_loopw [13] (fun i wr => ∃ k : Nat, k ≤ 0 ∧ i = .int .i64 k ∧ EndsAt wr sa L ∧ Kp w1 wr) (fun i _ => 0 - (intOf i).toNat)
    case atStart => exact ⟨0, by omega, rfl, HES.out, K⟩
    case round =>
      clear K HES c0 c1 c2 c3 c4 c5 c6 c7 l0 l2 l4 l6
      obtain ⟨k, hk, rfl, hes, K⟩ := hrel
      have HES := Lib.hid hes
      have c0 := (BAS.out _ K).1; have c1 := (BAS.out _ K).2.1; have c2 := (BAS.out _ K).2.2.1; have c3 := (BAS.out _ K).2.2.2.1; have c4 := (BAS.out _ K).2.2.2.2.1; have c5 := (BAS.out _ K).2.2.2.2.2.1; have c6 := (BAS.out _ K).2.2.2.2.2.2.1; have c7 := (BAS.out _ K).2.2.2.2.2.2.2; have l0 : w.heap.size < wr.heap.size := cell_lt c0; have l2 : w.heap.size + 1 < wr.heap.size := cell_lt c2; have l4 : w.heap.size + 1 + 1 < wr.heap.size := cell_lt c4; have l6 : w.heap.size + 1 + 1 + 1 < wr.heap.size := cell_lt c6
      by_cases hlt : k < 0
      · omega
      · clear hes
        go_upto_region 17 with fail
        go_region_held3 (fun w' => Kp w1 w' ∧ w'.cell? ⟨w.heap.size, 0, none⟩ = some (.int .i64 ax) ∧ w'.cell? ⟨w.heap.size, 1, none⟩ = some (.int .i64 ay) ∧ w'.cell? ⟨w.heap.size + 1, 0, none⟩ = some (.int .i64 bx) ∧ w'.cell? ⟨w.heap.size + 1, 1, none⟩ = some (.int .i64 bY) ∧ w'.cell? ⟨w.heap.size + 1 + 1, 0, none⟩ = some (.int .i64 cx) ∧ w'.cell? ⟨w.heap.size + 1 + 1, 1, none⟩ = some (.int .i64 cy) ∧ w'.cell? ⟨w.heap.size + 1 + 1 + 1, 0, none⟩ = some (.int .i64 dx) ∧ w'.cell? ⟨w.heap.size + 1 + 1 + 1, 1, none⟩ = some (.int .i64 dy)) ((first | (with_reducible exact ⟨K, c0, c1, c2, c3, c4, c5, c6, c7⟩) | (with_reducible exact ⟨kp_drew K, cell_d c0, cell_d c1, cell_d c2, cell_d c3, cell_d c4, cell_d c5, cell_d c6, cell_d c7⟩) | (with_reducible exact ⟨kp_alloc K _, cell_a c0 _, cell_a c1 _, cell_a c2 _, cell_a c3 _, cell_a c4 _, cell_a c5 _, cell_a c6 _, cell_a c7 _⟩) | (with_reducible exact ⟨kp_alloc (kp_drew K) _, cell_a (cell_d c0) _, cell_a (cell_d c1) _, cell_a (cell_d c2) _, cell_a (cell_d c3) _, cell_a (cell_d c4) _, cell_a (cell_d c5) _, cell_a (cell_d c6) _, cell_a (cell_d c7) _⟩) | (with_reducible exact ⟨kp_drew (kp_alloc K _), cell_d (cell_a c0 _), cell_d (cell_a c1 _), cell_d (cell_a c2 _), cell_d (cell_a c3 _), cell_d (cell_a c4 _), cell_d (cell_a c5 _), cell_d (cell_a c6 _), cell_d (cell_a c7 _)⟩)))
          (first
            | (go_at_call 12; (with_reducible refine (HS.out _).mono ?_); rintro e w5 ⟨v5, rfl, ho⟩; have hk := ho.2; have HO5 := Lib.hid (ho.1.rd (by simp)); (first | (have hpb := PtsAt.kp (ptsAt_two _ _ _ _ _ _ _ rfl) hk; have HPB := Lib.hid hpb; clear hpb) | (have hpb := PtsAt.kp (ptsAt_two _ _ _ _ _ _ _ rfl) (kp_trans (kp_drew (kp_refl _)) hk); have HPB := Lib.hid hpb; clear hpb) | skip); clear ho; replace K : Kp w1 w5 := kp_trans (by repeat (first | (with_reducible exact K) | (with_reducible apply kp_alloc) | (with_reducible apply kp_drew) | (with_reducible apply kp_drewN))) hk; replace c0 := (BAS.out _ K).1; replace c1 := (BAS.out _ K).2.1; replace c2 := (BAS.out _ K).2.2.1; replace c3 := (BAS.out _ K).2.2.2.1; replace c4 := (BAS.out _ K).2.2.2.2.1; replace c5 := (BAS.out _ K).2.2.2.2.2.1; replace c6 := (BAS.out _ K).2.2.2.2.2.2.1; replace c7 := (BAS.out _ K).2.2.2.2.2.2.2; replace l0 : w.heap.size < w5.heap.size := cell_lt c0; replace l2 : w.heap.size + 1 < w5.heap.size := cell_lt c2; replace l4 : w.heap.size + 1 + 1 < w5.heap.size := cell_lt c4; replace l6 : w.heap.size + 1 + 1 + 1 < w5.heap.size := cell_lt c6; clear hk)
            | (go_at_call 11; (with_reducible refine (same_two v5 _ _ (ax, ay) (bx, bY) _ (HO5.out.kp (by repeat (first | (with_reducible exact kp_refl _) | (with_reducible apply kp_alloc) | (with_reducible apply kp_drew) | (with_reducible apply kp_drewN)))) ?_).mono ?_); (focus (first | exact HPB.out | exact ptsAt_two _ _ _ _ _ _ _ rfl)); rintro e w6 ⟨rfl, hk⟩; replace K : Kp w1 w6 := kp_trans (by repeat (first | (with_reducible exact K) | (with_reducible apply kp_alloc) | (with_reducible apply kp_drew) | (with_reducible apply kp_drewN))) hk; replace c0 := (BAS.out _ K).1; replace c1 := (BAS.out _ K).2.1; replace c2 := (BAS.out _ K).2.2.1; replace c3 := (BAS.out _ K).2.2.2.1; replace c4 := (BAS.out _ K).2.2.2.2.1; replace c5 := (BAS.out _ K).2.2.2.2.2.1; replace c6 := (BAS.out _ K).2.2.2.2.2.2.1; replace c7 := (BAS.out _ K).2.2.2.2.2.2.2; replace l0 : w.heap.size < w6.heap.size := cell_lt c0; replace l2 : w.heap.size + 1 < w6.heap.size := cell_lt c2; replace l4 : w.heap.size + 1 + 1 < w6.heap.size := cell_lt c4; replace l6 : w.heap.size + 1 + 1 + 1 < w6.heap.size := cell_lt c6; clear hk))
        all_goals
          go_wp2_with fail
          go_ret
          exact ⟨rfl, kp_trans KW1.out (by repeat (first | (with_reducible exact K) | (with_reducible apply kp_alloc) | (with_reducible apply kp_drew) | (with_reducible apply kp_drewN)))⟩
set_option maxHeartbeats 8000000 in
set_option maxRecDepth 100000 in
theorem cends_1 (ax ay bx bY cx cy dx dy : Int) (h1 : may (ax, ay) (bx, bY) = true) (h2 : may (cx, cy) (dx, dy) = true) (L : List Pt) (hn : L.length = 1) (m1 : meets (ax, ay) (bx, bY) (cx, cy) (dx, dy) = 1) (hL : ends (ax, ay) (bx, bY) (cx, cy) (dx, dy) = L) (w : World) : Calls Try.prog 4 #[pv ax ay, pv bx bY, pv cx cy, pv dx dy] w fun e w' => e = .returned (.bool true) ∧ Kp w w' := by
  have m2 := meets_self h1
  have m3 := meets_self' h1
  have q1 := fun w => meets_any ax ay bx bY cx cy dx dy w
  have q2 := fun w => meets_any ax ay bx bY ax ay bx bY w
  have q3 := fun w => meets_any ax ay bx bY bx bY ax ay w
  rw [m1] at q1; rw [m2] at q2; rw [m3] at q3
  have q4 := fun w => ends_any ax ay bx bY cx cy dx dy w
  have q5 := fun w => ends_any ax ay bx bY ax ay bx bY w
  rw [hL] at q4; rw [ends_self h1] at q5
  have M1 := Lib.hid q1; have M2 := Lib.hid q2; have M3 := Lib.hid q3; have HE := Lib.hid q4; have HS := Lib.hid q5
  have HN := Lib.hid hn
  have HM : Hid (∀ i (hi : i < L.length), (L[i] = (ax, ay) ∨ L[i] = (bx, bY) ∨ L[i] = (cx, cy) ∨ L[i] = (dx, dy)) ∧ onS L[i] (ax, ay) (bx, bY) = true ∧ onS L[i] (cx, cy) (dx, dy) = true) := Lib.hid (fun i hi => (mem_ends h1 h2).1 (by rw [hL]; exact List.getElem_mem hi))
  have he := run_eqPt
  clear m1 m2 m3 q1 q2 q3 q4 q5 hn hL
  go_enter Try.func4, Try.ntmps4
  go_upto_region 2 with (go_at_call 14; refine (awake08_any _).mono ?_; rintro e w1 ⟨rfl, hk⟩; have c0 : w1.cell? ⟨w.heap.size, 0, none⟩ = some (.int .i64 ax) := kp_cell hk (by simp [go_sem]); have c1 : w1.cell? ⟨w.heap.size, 1, none⟩ = some (.int .i64 ay) := kp_cell hk (by simp [go_sem]); have c2 : w1.cell? ⟨w.heap.size + 1, 0, none⟩ = some (.int .i64 bx) := kp_cell hk (by simp [go_sem]); have c3 : w1.cell? ⟨w.heap.size + 1, 1, none⟩ = some (.int .i64 bY) := kp_cell hk (by simp [go_sem]); have c4 : w1.cell? ⟨w.heap.size + 1 + 1, 0, none⟩ = some (.int .i64 cx) := kp_cell hk (by simp [go_sem]); have c5 : w1.cell? ⟨w.heap.size + 1 + 1, 1, none⟩ = some (.int .i64 cy) := kp_cell hk (by simp [go_sem]); have c6 : w1.cell? ⟨w.heap.size + 1 + 1 + 1, 0, none⟩ = some (.int .i64 dx) := kp_cell hk (by simp [go_sem]); have c7 : w1.cell? ⟨w.heap.size + 1 + 1 + 1, 1, none⟩ = some (.int .i64 dy) := kp_cell hk (by simp [go_sem]); have K : Kp w w1 := kp_trans (by repeat (first | exact kp_refl _ | apply kp_alloc | apply kp_drew)) hk; have l0 : w.heap.size < w1.heap.size := cell_lt c0; have l2 : w.heap.size + 1 < w1.heap.size := cell_lt c2; have l4 : w.heap.size + 1 + 1 < w1.heap.size := cell_lt c4; have l6 : w.heap.size + 1 + 1 + 1 < w1.heap.size := cell_lt c6; clear hk)
  have KW1 := Lib.hid K
  have BAS := Lib.hid (show ∀ W, Kp w1 W → (W.cell? ⟨w.heap.size, 0, none⟩ = some (.int .i64 ax) ∧ W.cell? ⟨w.heap.size, 1, none⟩ = some (.int .i64 ay) ∧ W.cell? ⟨w.heap.size + 1, 0, none⟩ = some (.int .i64 bx) ∧ W.cell? ⟨w.heap.size + 1, 1, none⟩ = some (.int .i64 bY) ∧ W.cell? ⟨w.heap.size + 1 + 1, 0, none⟩ = some (.int .i64 cx) ∧ W.cell? ⟨w.heap.size + 1 + 1, 1, none⟩ = some (.int .i64 cy) ∧ W.cell? ⟨w.heap.size + 1 + 1 + 1, 0, none⟩ = some (.int .i64 dx) ∧ W.cell? ⟨w.heap.size + 1 + 1 + 1, 1, none⟩ = some (.int .i64 dy)) from fun W k => ⟨kp_cell k c0, kp_cell k c1, kp_cell k c2, kp_cell k c3, kp_cell k c4, kp_cell k c5, kp_cell k c6, kp_cell k c7⟩); have K : Kp w1 w1 := kp_refl _
  go_upto_region 4 with (go_at_call 15; (with_reducible refine (may08_any _ _ _ _ _).mono ?_); rintro e w4 ⟨rfl, hk⟩; replace K : Kp w1 w4 := kp_trans (by repeat (first | (with_reducible exact K) | (with_reducible apply kp_alloc) | (with_reducible apply kp_drew) | (with_reducible apply kp_drewN))) hk; replace c0 := (BAS.out _ K).1; replace c1 := (BAS.out _ K).2.1; replace c2 := (BAS.out _ K).2.2.1; replace c3 := (BAS.out _ K).2.2.2.1; replace c4 := (BAS.out _ K).2.2.2.2.1; replace c5 := (BAS.out _ K).2.2.2.2.2.1; replace c6 := (BAS.out _ K).2.2.2.2.2.2.1; replace c7 := (BAS.out _ K).2.2.2.2.2.2.2; replace l0 : w.heap.size < w4.heap.size := cell_lt c0; replace l2 : w.heap.size + 1 < w4.heap.size := cell_lt c2; replace l4 : w.heap.size + 1 + 1 < w4.heap.size := cell_lt c4; replace l6 : w.heap.size + 1 + 1 + 1 < w4.heap.size := cell_lt c6; clear hk)
  go_cut [10, 11] (fun s t wx => s = .int .i64 1 ∧ (∃ sa sc, t = .slice sa 1 sc ∧ EndsAt wx sa L) ∧ Kp w1 wx)
  case first =>
    go_region_held3 (fun w' => Kp w1 w' ∧ w'.cell? ⟨w.heap.size, 0, none⟩ = some (.int .i64 ax) ∧ w'.cell? ⟨w.heap.size, 1, none⟩ = some (.int .i64 ay) ∧ w'.cell? ⟨w.heap.size + 1, 0, none⟩ = some (.int .i64 bx) ∧ w'.cell? ⟨w.heap.size + 1, 1, none⟩ = some (.int .i64 bY) ∧ w'.cell? ⟨w.heap.size + 1 + 1, 0, none⟩ = some (.int .i64 cx) ∧ w'.cell? ⟨w.heap.size + 1 + 1, 1, none⟩ = some (.int .i64 cy) ∧ w'.cell? ⟨w.heap.size + 1 + 1 + 1, 0, none⟩ = some (.int .i64 dx) ∧ w'.cell? ⟨w.heap.size + 1 + 1 + 1, 1, none⟩ = some (.int .i64 dy)) ((first | (with_reducible exact ⟨K, c0, c1, c2, c3, c4, c5, c6, c7⟩) | (with_reducible exact ⟨kp_drew K, cell_d c0, cell_d c1, cell_d c2, cell_d c3, cell_d c4, cell_d c5, cell_d c6, cell_d c7⟩) | (with_reducible exact ⟨kp_alloc K _, cell_a c0 _, cell_a c1 _, cell_a c2 _, cell_a c3 _, cell_a c4 _, cell_a c5 _, cell_a c6 _, cell_a c7 _⟩) | (with_reducible exact ⟨kp_alloc (kp_drew K) _, cell_a (cell_d c0) _, cell_a (cell_d c1) _, cell_a (cell_d c2) _, cell_a (cell_d c3) _, cell_a (cell_d c4) _, cell_a (cell_d c5) _, cell_a (cell_d c6) _, cell_a (cell_d c7) _⟩) | (with_reducible exact ⟨kp_drew (kp_alloc K _), cell_d (cell_a c0 _), cell_d (cell_a c1 _), cell_d (cell_a c2 _), cell_d (cell_a c3 _), cell_d (cell_a c4 _), cell_d (cell_a c5 _), cell_d (cell_a c6 _), cell_d (cell_a c7 _)⟩)))
      (first
        | (go_at_call 9; (with_reducible refine (M1.out _).mono ?_); rintro e w4 ⟨rfl, hk⟩; (try replace HES := Lib.hid (HES.out.kp (kp_trans (by repeat (first | (with_reducible exact kp_refl _) | (with_reducible apply kp_alloc) | (with_reducible apply kp_drew) | (with_reducible apply kp_drewN))) hk))); replace K : Kp w1 w4 := kp_trans (by repeat (first | (with_reducible exact K) | (with_reducible apply kp_alloc) | (with_reducible apply kp_drew) | (with_reducible apply kp_drewN))) hk; replace c0 := (BAS.out _ K).1; replace c1 := (BAS.out _ K).2.1; replace c2 := (BAS.out _ K).2.2.1; replace c3 := (BAS.out _ K).2.2.2.1; replace c4 := (BAS.out _ K).2.2.2.2.1; replace c5 := (BAS.out _ K).2.2.2.2.2.1; replace c6 := (BAS.out _ K).2.2.2.2.2.2.1; replace c7 := (BAS.out _ K).2.2.2.2.2.2.2; replace l0 : w.heap.size < w4.heap.size := cell_lt c0; replace l2 : w.heap.size + 1 < w4.heap.size := cell_lt c2; replace l4 : w.heap.size + 1 + 1 < w4.heap.size := cell_lt c4; replace l6 : w.heap.size + 1 + 1 + 1 < w4.heap.size := cell_lt c6; clear hk)
        | (go_at_call 12; (with_reducible refine (HE.out _).mono ?_); rintro e w5 ⟨v3, rfl, ho⟩; obtain ⟨sa, sc, rfl, hes⟩ := endsAt_of ho.1 (by rw [HN.out]; decide); rw [HN.out]; have HES := Lib.hid hes; have hk := ho.2; clear ho hes; replace K : Kp w1 w5 := kp_trans (by repeat (first | (with_reducible exact K) | (with_reducible apply kp_alloc) | (with_reducible apply kp_drew) | (with_reducible apply kp_drewN))) hk; replace c0 := (BAS.out _ K).1; replace c1 := (BAS.out _ K).2.1; replace c2 := (BAS.out _ K).2.2.1; replace c3 := (BAS.out _ K).2.2.2.1; replace c4 := (BAS.out _ K).2.2.2.2.1; replace c5 := (BAS.out _ K).2.2.2.2.2.1; replace c6 := (BAS.out _ K).2.2.2.2.2.2.1; replace c7 := (BAS.out _ K).2.2.2.2.2.2.2; replace l0 : w.heap.size < w5.heap.size := cell_lt c0; replace l2 : w.heap.size + 1 < w5.heap.size := cell_lt c2; replace l4 : w.heap.size + 1 + 1 < w5.heap.size := cell_lt c4; replace l6 : w.heap.size + 1 + 1 + 1 < w5.heap.size := cell_lt c6; clear hk))
    all_goals
      go_wp2_with fail
      go_meet
      exact ⟨rfl, ⟨_, _, rfl, HES.out.kp (by repeat (first | (with_reducible exact kp_refl _) | (with_reducible apply kp_alloc) | (with_reducible apply kp_drew) | (with_reducible apply kp_drewN)))⟩, (by repeat (first | (with_reducible exact K) | (with_reducible apply kp_alloc) | (with_reducible apply kp_drew) | (with_reducible apply kp_drewN)))⟩
  case rest =>
    clear K c0 c1 c2 c3 c4 c5 c6 c7 l0 l2 l4 l6
    obtain ⟨rfl, ⟨sa, sc, rfl, hes⟩, K⟩ := hcut
    have HES := Lib.hid hes; clear hes
    have c0 := (BAS.out _ K).1; have c1 := (BAS.out _ K).2.1; have c2 := (BAS.out _ K).2.2.1; have c3 := (BAS.out _ K).2.2.2.1; have c4 := (BAS.out _ K).2.2.2.2.1; have c5 := (BAS.out _ K).2.2.2.2.2.1; have c6 := (BAS.out _ K).2.2.2.2.2.2.1; have c7 := (BAS.out _ K).2.2.2.2.2.2.2; have l0 : w.heap.size < wc.heap.size := cell_lt c0; have l2 : w.heap.size + 1 < wc.heap.size := cell_lt c2; have l4 : w.heap.size + 1 + 1 < wc.heap.size := cell_lt c4; have l6 : w.heap.size + 1 + 1 + 1 < wc.heap.size := cell_lt c6
    go_wp2_with (first
      | (go_at_call 9; (with_reducible refine (M2.out _).mono ?_); rintro e w4 ⟨rfl, hk⟩; replace HES := Lib.hid (HES.out.kp (kp_trans (by repeat (first | (with_reducible exact kp_refl _) | (with_reducible apply kp_alloc) | (with_reducible apply kp_drew) | (with_reducible apply kp_drewN))) hk)); replace K : Kp w1 w4 := kp_trans (by repeat (first | (with_reducible exact K) | (with_reducible apply kp_alloc) | (with_reducible apply kp_drew) | (with_reducible apply kp_drewN))) hk; replace c0 := (BAS.out _ K).1; replace c1 := (BAS.out _ K).2.1; replace c2 := (BAS.out _ K).2.2.1; replace c3 := (BAS.out _ K).2.2.2.1; replace c4 := (BAS.out _ K).2.2.2.2.1; replace c5 := (BAS.out _ K).2.2.2.2.2.1; replace c6 := (BAS.out _ K).2.2.2.2.2.2.1; replace c7 := (BAS.out _ K).2.2.2.2.2.2.2; replace l0 : w.heap.size < w4.heap.size := cell_lt c0; replace l2 : w.heap.size + 1 < w4.heap.size := cell_lt c2; replace l4 : w.heap.size + 1 + 1 < w4.heap.size := cell_lt c4; replace l6 : w.heap.size + 1 + 1 + 1 < w4.heap.size := cell_lt c6; clear hk)
      | (go_at_call 9; (with_reducible refine (M3.out _).mono ?_); rintro e w4 ⟨rfl, hk⟩; replace HES := Lib.hid (HES.out.kp (kp_trans (by repeat (first | (with_reducible exact kp_refl _) | (with_reducible apply kp_alloc) | (with_reducible apply kp_drew) | (with_reducible apply kp_drewN))) hk)); replace K : Kp w1 w4 := kp_trans (by repeat (first | (with_reducible exact K) | (with_reducible apply kp_alloc) | (with_reducible apply kp_drew) | (with_reducible apply kp_drewN))) hk; replace c0 := (BAS.out _ K).1; replace c1 := (BAS.out _ K).2.1; replace c2 := (BAS.out _ K).2.2.1; replace c3 := (BAS.out _ K).2.2.2.1; replace c4 := (BAS.out _ K).2.2.2.2.1; replace c5 := (BAS.out _ K).2.2.2.2.2.1; replace c6 := (BAS.out _ K).2.2.2.2.2.2.1; replace c7 := (BAS.out _ K).2.2.2.2.2.2.2; replace l0 : w.heap.size < w4.heap.size := cell_lt c0; replace l2 : w.heap.size + 1 < w4.heap.size := cell_lt c2; replace l4 : w.heap.size + 1 + 1 < w4.heap.size := cell_lt c4; replace l6 : w.heap.size + 1 + 1 + 1 < w4.heap.size := cell_lt c6; clear hk))
    go_loopw [13] (fun i wr => ∃ k : Nat, k ≤ 1 ∧ i = .int .i64 k ∧ EndsAt wr sa L ∧ Kp w1 wr) (fun i _ => 1 - (intOf i).toNat)
    case atStart => exact ⟨0, by omega, rfl, HES.out, K⟩
    case round =>
      clear K HES c0 c1 c2 c3 c4 c5 c6 c7 l0 l2 l4 l6
      obtain ⟨k, hk, rfl, hes, K⟩ := hrel
      have HES := Lib.hid hes
      have c0 := (BAS.out _ K).1; have c1 := (BAS.out _ K).2.1; have c2 := (BAS.out _ K).2.2.1; have c3 := (BAS.out _ K).2.2.2.1; have c4 := (BAS.out _ K).2.2.2.2.1; have c5 := (BAS.out _ K).2.2.2.2.2.1; have c6 := (BAS.out _ K).2.2.2.2.2.2.1; have c7 := (BAS.out _ K).2.2.2.2.2.2.2; have l0 : w.heap.size < wr.heap.size := cell_lt c0; have l2 : w.heap.size + 1 < wr.heap.size := cell_lt c2; have l4 : w.heap.size + 1 + 1 < wr.heap.size := cell_lt c4; have l6 : w.heap.size + 1 + 1 + 1 < wr.heap.size := cell_lt c6
      by_cases hlt : k < 1
      · have hlt2 : k < L.length := by rw [HN.out]; exact hlt
        obtain ⟨gb, goff, rfl, q0, q1⟩ := hes k hlt2
        obtain ⟨hm, o1, o2⟩ := HM.out k hlt2
        obtain ⟨x, hx⟩ : ∃ x, (L[k]'hlt2).1 = x := ⟨_, rfl⟩
        obtain ⟨y, hy⟩ : ∃ x, (L[k]'hlt2).2 = x := ⟨_, rfl⟩
        have hxy : L[k]'hlt2 = (x, y) := by rw [← hx, ← hy]
        rw [hx] at q0; rw [hy] at q1
        rw [hxy] at hm o1 o2
        have p1 := fun w => on_any x y ax ay bx bY w
        have p2 := fun w => on_any x y cx cy dx dy w
        rw [o1] at p1; rw [o2] at p2
        have O1 := Lib.hid p1; have O2 := Lib.hid p2
        have hmid : ∃ g0 g1 g2 g3 : Bool, (x == ax && y == ay) = g0 ∧ (x == bx && y == bY) = g1 ∧ (x == cx && y == cy) = g2 ∧ (x == dx && y == dy) = g3 ∧ (g0 = true ∨ (g0 = false ∧ g1 = true) ∨ (g0 = false ∧ g1 = false ∧ g2 = true) ∨ (g0 = false ∧ g1 = false ∧ g2 = false ∧ g3 = true)) := by
          refine ⟨_, _, _, _, rfl, rfl, rfl, rfl, ?_⟩
          have f1 : (x == ax && y == ay) = true ↔ (x, y) = (ax, ay) := by simp
          have f2 : (x == bx && y == bY) = true ↔ (x, y) = (bx, bY) := by simp
          have f3 : (x == cx && y == cy) = true ↔ (x, y) = (cx, cy) := by simp
          have f4 : (x == dx && y == dy) = true ↔ (x, y) = (dx, dy) := by simp
          rw [← f1, ← f2, ← f3, ← f4] at hm
          generalize (x == ax && y == ay) = u0 at *
          generalize (x == bx && y == bY) = u1 at *
          generalize (x == cx && y == cy) = u2 at *
          generalize (x == dx && y == dy) = u3 at *
          revert hm
          cases u0 <;> cases u1 <;> cases u2 <;> cases u3 <;> simp
        have z1 : (0 : Int) ≤ (k : Int) := by omega
        have z2 : (k : Int) < 1 := by omega
        have wk : IntKind.i64.wrap ((k : Int) + 1) = (k : Int) + 1 := IntWalk.i64_in _ (by omega)
        have lg : gb < wr.heap.size := cell_lt q0
        clear hx hy hxy hm o1 o2 p1 p2 hlt2 hes
        obtain ⟨g0, g1, g2, g3, e0, e1, e2, e3, hg⟩ := hmid
        have HKR := Lib.hid K
        clear K
        have K : Kp wr wr := kp_refl _
        have BAR := Lib.hid (show ∀ W, Kp wr W → (W.cell? ⟨w.heap.size, 0, none⟩ = some (.int .i64 ax) ∧ W.cell? ⟨w.heap.size, 1, none⟩ = some (.int .i64 ay) ∧ W.cell? ⟨w.heap.size + 1, 0, none⟩ = some (.int .i64 bx) ∧ W.cell? ⟨w.heap.size + 1, 1, none⟩ = some (.int .i64 bY) ∧ W.cell? ⟨w.heap.size + 1 + 1, 0, none⟩ = some (.int .i64 cx) ∧ W.cell? ⟨w.heap.size + 1 + 1, 1, none⟩ = some (.int .i64 cy) ∧ W.cell? ⟨w.heap.size + 1 + 1 + 1, 0, none⟩ = some (.int .i64 dx) ∧ W.cell? ⟨w.heap.size + 1 + 1 + 1, 1, none⟩ = some (.int .i64 dy) ∧ W.cell? ⟨gb, goff + k * 2, none⟩ = some (.int .i64 x) ∧ W.cell? ⟨gb, goff + k * 2 + 1, none⟩ = some (.int .i64 y)) from fun W k => ⟨kp_cell k c0, kp_cell k c1, kp_cell k c2, kp_cell k c3, kp_cell k c4, kp_cell k c5, kp_cell k c6, kp_cell k c7, kp_cell k q0, kp_cell k q1⟩)
        rcases hg with rfl | ⟨rfl, rfl⟩ | ⟨rfl, rfl, rfl⟩ | ⟨rfl, rfl, rfl, rfl⟩
        · go_upto_region 15 with fail
          refine wp_region_noPanic ?_
          refine wp_region_held_drew (S := fun w' => Kp wr w' ∧ w'.cell? ⟨w.heap.size, 0, none⟩ = some (.int .i64 ax) ∧ w'.cell? ⟨w.heap.size, 1, none⟩ = some (.int .i64 ay) ∧ w'.cell? ⟨w.heap.size + 1, 0, none⟩ = some (.int .i64 bx) ∧ w'.cell? ⟨w.heap.size + 1, 1, none⟩ = some (.int .i64 bY) ∧ w'.cell? ⟨w.heap.size + 1 + 1, 0, none⟩ = some (.int .i64 cx) ∧ w'.cell? ⟨w.heap.size + 1 + 1, 1, none⟩ = some (.int .i64 cy) ∧ w'.cell? ⟨w.heap.size + 1 + 1 + 1, 0, none⟩ = some (.int .i64 dx) ∧ w'.cell? ⟨w.heap.size + 1 + 1 + 1, 1, none⟩ = some (.int .i64 dy) ∧ w'.cell? ⟨gb, goff + k * 2, none⟩ = some (.int .i64 x) ∧ w'.cell? ⟨gb, goff + k * 2 + 1, none⟩ = some (.int .i64 y)) (by kernel_rfl) ?_ (fun hHeld => ?_)
          · exact ⟨kp_drew K, cell_d c0, cell_d c1, cell_d c2, cell_d c3, cell_d c4, cell_d c5, cell_d c6, cell_d c7, cell_d q0, cell_d q1⟩
          refine take_yes (i := 0) (d := 66) (v := ?_) rfl rfl (by kernel_rfl) (by kernel_rfl) (by kernel_rfl) (fun _ _ _ h => h) (by rfl) ?_ hHeld ?_
          rotate_left
          · intro wq hSw; (try dsimp only at hSw); go_simp; (try with_reducible rfl)
          (try simp only [Act.put, List.setIfInBounds_toArray, List.set_cons_zero, List.set_cons_succ])
          refine take_yes (i := 1) (d := 67) (v := ?_) rfl rfl (by kernel_rfl) (by kernel_rfl) (by kernel_rfl) (fun _ _ _ h => h) (by rfl) ?_ hHeld ?_
          rotate_left
          · intro wq hSw; (try dsimp only at hSw); go_simp; (try with_reducible rfl)
          (try simp only [Act.put, List.setIfInBounds_toArray, List.set_cons_zero, List.set_cons_succ])
          refine take_yes (i := 2) (d := 68) (v := ?_) rfl rfl (by kernel_rfl) (by kernel_rfl) (by kernel_rfl) (fun _ _ _ h => h) (by rfl) ?_ hHeld ?_
          rotate_left
          · intro wq hSw; (try dsimp only at hSw); go_simp; (try with_reducible rfl)
          (try simp only [Act.put, List.setIfInBounds_toArray, List.set_cons_zero, List.set_cons_succ])
          refine take_yes (i := 3) (d := 69) (v := ?_) rfl rfl (by kernel_rfl) (by kernel_rfl) (by kernel_rfl) (fun _ _ _ h => h) (by rfl) ?_ hHeld ?_
          rotate_left
          · intro wq hSw; (try dsimp only at hSw); go_simp; (try with_reducible rfl)
          (try simp only [Act.put, List.setIfInBounds_toArray, List.set_cons_zero, List.set_cons_succ])
          refine take_yes (i := 4) (d := 70) (v := ?_) rfl rfl (by kernel_rfl) (by kernel_rfl) (by kernel_rfl) (fun _ _ _ h => h) (by rfl) ?_ hHeld ?_
          rotate_left
          · intro wq hSw; (try dsimp only at hSw); go_simp; (try with_reducible rfl)
          (try simp only [Act.put, List.setIfInBounds_toArray, List.set_cons_zero, List.set_cons_succ])
          refine take_yes (i := 5) (d := 71) (v := ?_) rfl rfl (by kernel_rfl) (by kernel_rfl) (by kernel_rfl) (fun _ _ _ h => h) (by rfl) ?_ hHeld ?_
          rotate_left
          · intro wq hSw; (try dsimp only at hSw); go_simp; (try with_reducible rfl)
          (try simp only [Act.put, List.setIfInBounds_toArray, List.set_cons_zero, List.set_cons_succ])
          refine wpAnyH_ready (rs := [6]) (by kernel_rfl) (by simp) ?_
          refine AllReadyH.cons rfl (fun K' hK => ?_) AllReadyH.nil
          go_simp
          go_at_call 16
          refine (O1.out _).mono ?_
          rintro e w4 ⟨rfl, hk⟩
          replace K : Kp wr w4 := kp_trans (by repeat (first | (with_reducible exact K) | (with_reducible apply kp_alloc) | (with_reducible apply kp_drew) | (with_reducible apply kp_drewN))) hk
          replace c0 := (BAR.out _ K).1; replace c1 := (BAR.out _ K).2.1; replace c2 := (BAR.out _ K).2.2.1; replace c3 := (BAR.out _ K).2.2.2.1; replace c4 := (BAR.out _ K).2.2.2.2.1; replace c5 := (BAR.out _ K).2.2.2.2.2.1; replace c6 := (BAR.out _ K).2.2.2.2.2.2.1; replace c7 := (BAR.out _ K).2.2.2.2.2.2.2.1; replace q0 := (BAR.out _ K).2.2.2.2.2.2.2.2.1; replace q1 := (BAR.out _ K).2.2.2.2.2.2.2.2.2
          replace l0 : w.heap.size < w4.heap.size := cell_lt c0; replace l2 : w.heap.size + 1 < w4.heap.size := cell_lt c2; replace l4 : w.heap.size + 1 + 1 < w4.heap.size := cell_lt c4; replace l6 : w.heap.size + 1 + 1 + 1 < w4.heap.size := cell_lt c6
          clear hk hHeld
          refine hK.out _ _ ?_ (fun hHeld => ?_)
          · exact ⟨K, c0, c1, c2, c3, c4, c5, c6, c7, q0, q1⟩
          clear hK K'
          (try simp only [Act.put, List.setIfInBounds_toArray, List.set_cons_zero, List.set_cons_succ])
          refine take_yes (i := 7) (d := 73) (v := ?_) rfl rfl (by kernel_rfl) (by kernel_rfl) (by kernel_rfl) (fun _ _ _ h => h) (by rfl) ?_ hHeld ?_
          rotate_left
          · intro wq hSw; (try dsimp only at hSw); go_simp; (try with_reducible rfl)
          (try simp only [Act.put, List.setIfInBounds_toArray, List.set_cons_zero, List.set_cons_succ])
          refine take_yes (i := 8) (d := 74) (v := ?_) rfl rfl (by kernel_rfl) (by kernel_rfl) (by kernel_rfl) (fun _ _ _ h => h) (by rfl) ?_ hHeld ?_
          rotate_left
          · intro wq hSw; (try dsimp only at hSw); go_simp; (try with_reducible rfl)
          (try simp only [Act.put, List.setIfInBounds_toArray, List.set_cons_zero, List.set_cons_succ])
          refine take_yes (i := 9) (d := 75) (v := ?_) rfl rfl (by kernel_rfl) (by kernel_rfl) (by kernel_rfl) (fun _ _ _ h => h) (by rfl) ?_ hHeld ?_
          rotate_left
          · intro wq hSw; (try dsimp only at hSw); go_simp; (try with_reducible rfl)
          (try simp only [Act.put, List.setIfInBounds_toArray, List.set_cons_zero, List.set_cons_succ])
          refine take_yes (i := 10) (d := 76) (v := ?_) rfl rfl (by kernel_rfl) (by kernel_rfl) (by kernel_rfl) (fun _ _ _ h => h) (by rfl) ?_ hHeld ?_
          rotate_left
          · intro wq hSw; (try dsimp only at hSw); go_simp; (try with_reducible rfl)
          (try simp only [Act.put, List.setIfInBounds_toArray, List.set_cons_zero, List.set_cons_succ])
          refine take_yes (i := 11) (d := 77) (v := ?_) rfl rfl (by kernel_rfl) (by kernel_rfl) (by kernel_rfl) (fun _ _ _ h => h) (by rfl) ?_ hHeld ?_
          rotate_left
          · intro wq hSw; (try dsimp only at hSw); go_simp; (try with_reducible rfl)
          (try simp only [Act.put, List.setIfInBounds_toArray, List.set_cons_zero, List.set_cons_succ])
          refine take_yes (i := 12) (d := 78) (v := ?_) rfl rfl (by kernel_rfl) (by kernel_rfl) (by kernel_rfl) (fun _ _ _ h => h) (by rfl) ?_ hHeld ?_
          rotate_left
          · intro wq hSw; (try dsimp only at hSw); go_simp; (try with_reducible rfl)
          (try simp only [Act.put, List.setIfInBounds_toArray, List.set_cons_zero, List.set_cons_succ])
          refine take_yes (i := 13) (d := 79) (v := ?_) rfl rfl (by kernel_rfl) (by kernel_rfl) (by kernel_rfl) (fun _ _ _ h => h) (by rfl) ?_ hHeld ?_
          rotate_left
          · intro wq hSw; (try dsimp only at hSw); go_simp; (try with_reducible rfl)
          (try simp only [Act.put, List.setIfInBounds_toArray, List.set_cons_zero, List.set_cons_succ])
          refine take_yes (i := 14) (d := 80) (v := ?_) rfl rfl (by kernel_rfl) (by kernel_rfl) (by kernel_rfl) (fun _ _ _ h => h) (by rfl) ?_ hHeld ?_
          rotate_left
          · intro wq hSw; (try dsimp only at hSw); go_simp; (try with_reducible rfl)
          (try simp only [Act.put, List.setIfInBounds_toArray, List.set_cons_zero, List.set_cons_succ])
          refine wpAnyH_ready (rs := [15]) (by kernel_rfl) (by simp) ?_
          refine AllReadyH.cons rfl (fun K' hK => ?_) AllReadyH.nil
          go_simp
          go_at_call 16
          refine (O2.out _).mono ?_
          rintro e w5 ⟨rfl, hk⟩
          replace K : Kp wr w5 := kp_trans (by repeat (first | (with_reducible exact K) | (with_reducible apply kp_alloc) | (with_reducible apply kp_drew) | (with_reducible apply kp_drewN))) hk
          replace c0 := (BAR.out _ K).1; replace c1 := (BAR.out _ K).2.1; replace c2 := (BAR.out _ K).2.2.1; replace c3 := (BAR.out _ K).2.2.2.1; replace c4 := (BAR.out _ K).2.2.2.2.1; replace c5 := (BAR.out _ K).2.2.2.2.2.1; replace c6 := (BAR.out _ K).2.2.2.2.2.2.1; replace c7 := (BAR.out _ K).2.2.2.2.2.2.2.1; replace q0 := (BAR.out _ K).2.2.2.2.2.2.2.2.1; replace q1 := (BAR.out _ K).2.2.2.2.2.2.2.2.2
          replace l0 : w.heap.size < w5.heap.size := cell_lt c0; replace l2 : w.heap.size + 1 < w5.heap.size := cell_lt c2; replace l4 : w.heap.size + 1 + 1 < w5.heap.size := cell_lt c4; replace l6 : w.heap.size + 1 + 1 + 1 < w5.heap.size := cell_lt c6
          clear hk hHeld
          refine hK.out _ _ ?_ (fun hHeld => ?_)
          · exact ⟨K, c0, c1, c2, c3, c4, c5, c6, c7, q0, q1⟩
          clear hK K'
          (try simp only [Act.put, List.setIfInBounds_toArray, List.set_cons_zero, List.set_cons_succ])
          refine take_yes (i := 16) (d := 82) (v := ?_) rfl rfl (by kernel_rfl) (by kernel_rfl) (by kernel_rfl) (fun _ _ _ h => h) (by rfl) ?_ hHeld ?_
          rotate_left
          · intro wq hSw; (try dsimp only at hSw); go_simp; (try with_reducible rfl)
          (try simp only [Act.put, List.setIfInBounds_toArray, List.set_cons_zero, List.set_cons_succ])
          refine take_yes (i := 17) (d := 83) (v := ?_) rfl rfl (by kernel_rfl) (by kernel_rfl) (by kernel_rfl) (fun _ _ _ h => h) (by rfl) ?_ hHeld ?_
          rotate_left
          · intro wq hSw; (try dsimp only at hSw); go_simp; (try with_reducible rfl)
          (try simp only [Act.put, List.setIfInBounds_toArray, List.set_cons_zero, List.set_cons_succ])
          refine take_yes (i := 18) (d := 84) (v := ?_) rfl rfl (by kernel_rfl) (by kernel_rfl) (by kernel_rfl) (fun _ _ _ h => h) (by rfl) ?_ hHeld ?_
          rotate_left
          · intro wq hSw; (try dsimp only at hSw); go_simp; (try with_reducible rfl)
          (try simp only [Act.put, List.setIfInBounds_toArray, List.set_cons_zero, List.set_cons_succ])
          refine take_yes (i := 19) (d := 85) (v := ?_) rfl rfl (by kernel_rfl) (by kernel_rfl) (by kernel_rfl) (fun _ _ _ h => h) (by rfl) ?_ hHeld ?_
          rotate_left
          · intro wq hSw; (try dsimp only at hSw); go_simp; (try with_reducible rfl)
          (try simp only [Act.put, List.setIfInBounds_toArray, List.set_cons_zero, List.set_cons_succ])
          refine take_yes (i := 20) (d := 86) (v := ?_) rfl rfl (by kernel_rfl) (by kernel_rfl) (by kernel_rfl) (fun _ _ _ h => h) (by rfl) ?_ hHeld ?_
          rotate_left
          · intro wq hSw; (try dsimp only at hSw); go_simp; (try with_reducible rfl)
          (try simp only [Act.put, List.setIfInBounds_toArray, List.set_cons_zero, List.set_cons_succ])
          refine take_yes (i := 21) (d := 87) (v := ?_) rfl rfl (by kernel_rfl) (by kernel_rfl) (by kernel_rfl) (fun _ _ _ h => h) (by rfl) ?_ hHeld ?_
          rotate_left
          · intro wq hSw; (try dsimp only at hSw); go_simp; (try with_reducible rfl)
          (try simp only [Act.put, List.setIfInBounds_toArray, List.set_cons_zero, List.set_cons_succ])
          refine take_yes (i := 22) (d := 88) (v := ?_) rfl rfl (by kernel_rfl) (by kernel_rfl) (by kernel_rfl) (fun _ _ _ h => h) (by rfl) ?_ hHeld ?_
          rotate_left
          · intro wq hSw; (try dsimp only at hSw); go_simp; (try with_reducible rfl)
          (try simp only [Act.put, List.setIfInBounds_toArray, List.set_cons_zero, List.set_cons_succ])
          refine take_yes (i := 23) (d := 89) (v := ?_) rfl rfl (by kernel_rfl) (by kernel_rfl) (by kernel_rfl) (fun _ _ _ h => h) (by rfl) ?_ hHeld ?_
          rotate_left
          · intro wq hSw; (try dsimp only at hSw); go_simp; (try with_reducible rfl)
          (try simp only [Act.put, List.setIfInBounds_toArray, List.set_cons_zero, List.set_cons_succ])
          refine take_yes (i := 24) (d := 90) (v := ?_) rfl rfl (by kernel_rfl) (by kernel_rfl) (by kernel_rfl) (fun _ _ _ h => h) (by rfl) ?_ hHeld ?_
          rotate_left
          · intro wq hSw; (try dsimp only at hSw); go_simp; (try with_reducible rfl)
          (try simp only [Act.put, List.setIfInBounds_toArray, List.set_cons_zero, List.set_cons_succ])
          refine take_yes (i := 25) (d := 91) (v := ?_) rfl rfl (by kernel_rfl) (by kernel_rfl) (by kernel_rfl) (fun _ _ _ h => h) (by rfl) ?_ hHeld ?_
          rotate_left
          · intro wq hSw; (try dsimp only at hSw); go_simp; (try with_reducible rfl)
          (try simp only [Act.put, List.setIfInBounds_toArray, List.set_cons_zero, List.set_cons_succ])
          refine take_no (i := 26) (d := 92) rfl rfl (by kernel_rfl) (by kernel_rfl) (by kernel_rfl) (fun _ _ _ h => h) (by rfl) hHeld ?_
          (try simp only [Act.put, List.setIfInBounds_toArray, List.set_cons_zero, List.set_cons_succ])
          refine take_no (i := 27) (d := 93) rfl rfl (by kernel_rfl) (by kernel_rfl) (by kernel_rfl) (fun _ _ _ h => h) (by rfl) hHeld ?_
          (try simp only [Act.put, List.setIfInBounds_toArray, List.set_cons_zero, List.set_cons_succ])
          refine take_no (i := 28) (d := 94) rfl rfl (by kernel_rfl) (by kernel_rfl) (by kernel_rfl) (fun _ _ _ h => h) (by rfl) hHeld ?_
          (try simp only [Act.put, List.setIfInBounds_toArray, List.set_cons_zero, List.set_cons_succ])
          refine take_no (i := 29) (d := 95) rfl rfl (by kernel_rfl) (by kernel_rfl) (by kernel_rfl) (fun _ _ _ h => h) (by rfl) hHeld ?_
          (try simp only [Act.put, List.setIfInBounds_toArray, List.set_cons_zero, List.set_cons_succ])
          refine take_no (i := 30) (d := 96) rfl rfl (by kernel_rfl) (by kernel_rfl) (by kernel_rfl) (fun _ _ _ h => h) (by rfl) hHeld ?_
          (try simp only [Act.put, List.setIfInBounds_toArray, List.set_cons_zero, List.set_cons_succ])
          refine take_no (i := 31) (d := 97) rfl rfl (by kernel_rfl) (by kernel_rfl) (by kernel_rfl) (fun _ _ _ h => h) (by rfl) hHeld ?_
          (try simp only [Act.put, List.setIfInBounds_toArray, List.set_cons_zero, List.set_cons_succ])
          refine take_yes (i := 32) (d := 98) (v := ?_) rfl rfl (by kernel_rfl) (by kernel_rfl) (by kernel_rfl) (fun _ _ _ h => h) (by rfl) ?_ hHeld ?_
          rotate_left
          · intro wq hSw; (try dsimp only at hSw); go_simp; (try with_reducible rfl)
          (try simp only [Act.put, List.setIfInBounds_toArray, List.set_cons_zero, List.set_cons_succ])
          refine take_yes (i := 33) (d := 99) (v := ?_) rfl rfl (by kernel_rfl) (by kernel_rfl) (by kernel_rfl) (fun _ _ _ h => h) (by rfl) ?_ hHeld ?_
          rotate_left
          · intro wq hSw; (try dsimp only at hSw); go_simp; (try with_reducible rfl)
          (try simp only [Act.put, List.setIfInBounds_toArray, List.set_cons_zero, List.set_cons_succ])
          refine take_no (i := 34) (d := 100) rfl rfl (by kernel_rfl) (by kernel_rfl) (by kernel_rfl) (fun _ _ _ h => h) (by rfl) hHeld ?_
          (try simp only [Act.put, List.setIfInBounds_toArray, List.set_cons_zero, List.set_cons_succ])
          refine take_no (i := 35) (d := 101) rfl rfl (by kernel_rfl) (by kernel_rfl) (by kernel_rfl) (fun _ _ _ h => h) (by rfl) hHeld ?_
          (try simp only [Act.put, List.setIfInBounds_toArray, List.set_cons_zero, List.set_cons_succ])
          refine take_no (i := 36) (d := 102) rfl rfl (by kernel_rfl) (by kernel_rfl) (by kernel_rfl) (fun _ _ _ h => h) (by rfl) hHeld ?_
          (try simp only [Act.put, List.setIfInBounds_toArray, List.set_cons_zero, List.set_cons_succ])
          refine take_no (i := 37) (d := 103) rfl rfl (by kernel_rfl) (by kernel_rfl) (by kernel_rfl) (fun _ _ _ h => h) (by rfl) hHeld ?_
          (try simp only [Act.put, List.setIfInBounds_toArray, List.set_cons_zero, List.set_cons_succ])
          refine take_no (i := 38) (d := 104) rfl rfl (by kernel_rfl) (by kernel_rfl) (by kernel_rfl) (fun _ _ _ h => h) (by rfl) hHeld ?_
          (try simp only [Act.put, List.setIfInBounds_toArray, List.set_cons_zero, List.set_cons_succ])
          refine take_no (i := 39) (d := 105) rfl rfl (by kernel_rfl) (by kernel_rfl) (by kernel_rfl) (fun _ _ _ h => h) (by rfl) hHeld ?_
          (try simp only [Act.put, List.setIfInBounds_toArray, List.set_cons_zero, List.set_cons_succ])
          refine take_yes (i := 40) (d := 106) (v := ?_) rfl rfl (by kernel_rfl) (by kernel_rfl) (by kernel_rfl) (fun _ _ _ h => h) (by rfl) ?_ hHeld ?_
          rotate_left
          · intro wq hSw; (try dsimp only at hSw); go_simp; (try with_reducible rfl)
          (try simp only [Act.put, List.setIfInBounds_toArray, List.set_cons_zero, List.set_cons_succ])
          refine take_yes (i := 41) (d := 107) (v := ?_) rfl rfl (by kernel_rfl) (by kernel_rfl) (by kernel_rfl) (fun _ _ _ h => h) (by rfl) ?_ hHeld ?_
          rotate_left
          · intro wq hSw; (try dsimp only at hSw); go_simp; (try with_reducible rfl)
          (try simp only [Act.put, List.setIfInBounds_toArray, List.set_cons_zero, List.set_cons_succ])
          refine take_no (i := 42) (d := 108) rfl rfl (by kernel_rfl) (by kernel_rfl) (by kernel_rfl) (fun _ _ _ h => h) (by rfl) hHeld ?_
          (try simp only [Act.put, List.setIfInBounds_toArray, List.set_cons_zero, List.set_cons_succ])
          refine take_no (i := 43) (d := 109) rfl rfl (by kernel_rfl) (by kernel_rfl) (by kernel_rfl) (fun _ _ _ h => h) (by rfl) hHeld ?_
          (try simp only [Act.put, List.setIfInBounds_toArray, List.set_cons_zero, List.set_cons_succ])
          refine take_no (i := 44) (d := 110) rfl rfl (by kernel_rfl) (by kernel_rfl) (by kernel_rfl) (fun _ _ _ h => h) (by rfl) hHeld ?_
          (try simp only [Act.put, List.setIfInBounds_toArray, List.set_cons_zero, List.set_cons_succ])
          refine take_no (i := 45) (d := 111) rfl rfl (by kernel_rfl) (by kernel_rfl) (by kernel_rfl) (fun _ _ _ h => h) (by rfl) hHeld ?_
          (try simp only [Act.put, List.setIfInBounds_toArray, List.set_cons_zero, List.set_cons_succ])
          refine take_no (i := 46) (d := 112) rfl rfl (by kernel_rfl) (by kernel_rfl) (by kernel_rfl) (fun _ _ _ h => h) (by rfl) hHeld ?_
          (try simp only [Act.put, List.setIfInBounds_toArray, List.set_cons_zero, List.set_cons_succ])
          refine take_no (i := 47) (d := 113) rfl rfl (by kernel_rfl) (by kernel_rfl) (by kernel_rfl) (fun _ _ _ h => h) (by rfl) hHeld ?_
          (try simp only [Act.put, List.setIfInBounds_toArray, List.set_cons_zero, List.set_cons_succ])
          refine take_yes (i := 48) (d := 114) (v := ?_) rfl rfl (by kernel_rfl) (by kernel_rfl) (by kernel_rfl) (fun _ _ _ h => h) (by rfl) ?_ hHeld ?_
          rotate_left
          · intro wq hSw; (try dsimp only at hSw); go_simp; (try with_reducible rfl)
          (try simp only [Act.put, List.setIfInBounds_toArray, List.set_cons_zero, List.set_cons_succ])
          refine take_yes (i := 49) (d := 115) (v := ?_) rfl rfl (by kernel_rfl) (by kernel_rfl) (by kernel_rfl) (fun _ _ _ h => h) (by rfl) ?_ hHeld ?_
          rotate_left
          · intro wq hSw; (try dsimp only at hSw); go_simp; (try with_reducible rfl)
          (try simp only [Act.put, List.setIfInBounds_toArray, List.set_cons_zero, List.set_cons_succ])
          refine wpAnyH_done (by kernel_rfl) ?_ _
          refine NoPanic.normal ?_
          go_wp2_with fail
          exact ⟨⟨k + 1, by omega, by go_num, HES.out.kp (by repeat (first | (with_reducible exact K) | (with_reducible apply kp_alloc) | (with_reducible apply kp_drew) | (with_reducible apply kp_drewN))), kp_trans HKR.out (by repeat (first | (with_reducible exact K) | (with_reducible apply kp_alloc) | (with_reducible apply kp_drew) | (with_reducible apply kp_drewN)))⟩, by simp [intOf]; omega⟩
        · go_upto_region 15 with fail
          refine wp_region_noPanic ?_
          refine wp_region_held_drew (S := fun w' => Kp wr w' ∧ w'.cell? ⟨w.heap.size, 0, none⟩ = some (.int .i64 ax) ∧ w'.cell? ⟨w.heap.size, 1, none⟩ = some (.int .i64 ay) ∧ w'.cell? ⟨w.heap.size + 1, 0, none⟩ = some (.int .i64 bx) ∧ w'.cell? ⟨w.heap.size + 1, 1, none⟩ = some (.int .i64 bY) ∧ w'.cell? ⟨w.heap.size + 1 + 1, 0, none⟩ = some (.int .i64 cx) ∧ w'.cell? ⟨w.heap.size + 1 + 1, 1, none⟩ = some (.int .i64 cy) ∧ w'.cell? ⟨w.heap.size + 1 + 1 + 1, 0, none⟩ = some (.int .i64 dx) ∧ w'.cell? ⟨w.heap.size + 1 + 1 + 1, 1, none⟩ = some (.int .i64 dy) ∧ w'.cell? ⟨gb, goff + k * 2, none⟩ = some (.int .i64 x) ∧ w'.cell? ⟨gb, goff + k * 2 + 1, none⟩ = some (.int .i64 y)) (by kernel_rfl) ?_ (fun hHeld => ?_)
          · exact ⟨kp_drew K, cell_d c0, cell_d c1, cell_d c2, cell_d c3, cell_d c4, cell_d c5, cell_d c6, cell_d c7, cell_d q0, cell_d q1⟩
          refine take_yes (i := 0) (d := 66) (v := ?_) rfl rfl (by kernel_rfl) (by kernel_rfl) (by kernel_rfl) (fun _ _ _ h => h) (by rfl) ?_ hHeld ?_
          rotate_left
          · intro wq hSw; (try dsimp only at hSw); go_simp; (try with_reducible rfl)
          (try simp only [Act.put, List.setIfInBounds_toArray, List.set_cons_zero, List.set_cons_succ])
          refine take_yes (i := 1) (d := 67) (v := ?_) rfl rfl (by kernel_rfl) (by kernel_rfl) (by kernel_rfl) (fun _ _ _ h => h) (by rfl) ?_ hHeld ?_
          rotate_left
          · intro wq hSw; (try dsimp only at hSw); go_simp; (try with_reducible rfl)
          (try simp only [Act.put, List.setIfInBounds_toArray, List.set_cons_zero, List.set_cons_succ])
          refine take_yes (i := 2) (d := 68) (v := ?_) rfl rfl (by kernel_rfl) (by kernel_rfl) (by kernel_rfl) (fun _ _ _ h => h) (by rfl) ?_ hHeld ?_
          rotate_left
          · intro wq hSw; (try dsimp only at hSw); go_simp; (try with_reducible rfl)
          (try simp only [Act.put, List.setIfInBounds_toArray, List.set_cons_zero, List.set_cons_succ])
          refine take_yes (i := 3) (d := 69) (v := ?_) rfl rfl (by kernel_rfl) (by kernel_rfl) (by kernel_rfl) (fun _ _ _ h => h) (by rfl) ?_ hHeld ?_
          rotate_left
          · intro wq hSw; (try dsimp only at hSw); go_simp; (try with_reducible rfl)
          (try simp only [Act.put, List.setIfInBounds_toArray, List.set_cons_zero, List.set_cons_succ])
          refine take_yes (i := 4) (d := 70) (v := ?_) rfl rfl (by kernel_rfl) (by kernel_rfl) (by kernel_rfl) (fun _ _ _ h => h) (by rfl) ?_ hHeld ?_
          rotate_left
          · intro wq hSw; (try dsimp only at hSw); go_simp; (try with_reducible rfl)
          (try simp only [Act.put, List.setIfInBounds_toArray, List.set_cons_zero, List.set_cons_succ])
          refine take_yes (i := 5) (d := 71) (v := ?_) rfl rfl (by kernel_rfl) (by kernel_rfl) (by kernel_rfl) (fun _ _ _ h => h) (by rfl) ?_ hHeld ?_
          rotate_left
          · intro wq hSw; (try dsimp only at hSw); go_simp; (try with_reducible rfl)
          (try simp only [Act.put, List.setIfInBounds_toArray, List.set_cons_zero, List.set_cons_succ])
          refine wpAnyH_ready (rs := [6]) (by kernel_rfl) (by simp) ?_
          refine AllReadyH.cons rfl (fun K' hK => ?_) AllReadyH.nil
          go_simp
          go_at_call 16
          refine (O1.out _).mono ?_
          rintro e w4 ⟨rfl, hk⟩
          replace K : Kp wr w4 := kp_trans (by repeat (first | (with_reducible exact K) | (with_reducible apply kp_alloc) | (with_reducible apply kp_drew) | (with_reducible apply kp_drewN))) hk
          replace c0 := (BAR.out _ K).1; replace c1 := (BAR.out _ K).2.1; replace c2 := (BAR.out _ K).2.2.1; replace c3 := (BAR.out _ K).2.2.2.1; replace c4 := (BAR.out _ K).2.2.2.2.1; replace c5 := (BAR.out _ K).2.2.2.2.2.1; replace c6 := (BAR.out _ K).2.2.2.2.2.2.1; replace c7 := (BAR.out _ K).2.2.2.2.2.2.2.1; replace q0 := (BAR.out _ K).2.2.2.2.2.2.2.2.1; replace q1 := (BAR.out _ K).2.2.2.2.2.2.2.2.2
          replace l0 : w.heap.size < w4.heap.size := cell_lt c0; replace l2 : w.heap.size + 1 < w4.heap.size := cell_lt c2; replace l4 : w.heap.size + 1 + 1 < w4.heap.size := cell_lt c4; replace l6 : w.heap.size + 1 + 1 + 1 < w4.heap.size := cell_lt c6
          clear hk hHeld
          refine hK.out _ _ ?_ (fun hHeld => ?_)
          · exact ⟨K, c0, c1, c2, c3, c4, c5, c6, c7, q0, q1⟩
          clear hK K'
          (try simp only [Act.put, List.setIfInBounds_toArray, List.set_cons_zero, List.set_cons_succ])
          refine take_yes (i := 7) (d := 73) (v := ?_) rfl rfl (by kernel_rfl) (by kernel_rfl) (by kernel_rfl) (fun _ _ _ h => h) (by rfl) ?_ hHeld ?_
          rotate_left
          · intro wq hSw; (try dsimp only at hSw); go_simp; (try with_reducible rfl)
          (try simp only [Act.put, List.setIfInBounds_toArray, List.set_cons_zero, List.set_cons_succ])
          refine take_yes (i := 8) (d := 74) (v := ?_) rfl rfl (by kernel_rfl) (by kernel_rfl) (by kernel_rfl) (fun _ _ _ h => h) (by rfl) ?_ hHeld ?_
          rotate_left
          · intro wq hSw; (try dsimp only at hSw); go_simp; (try with_reducible rfl)
          (try simp only [Act.put, List.setIfInBounds_toArray, List.set_cons_zero, List.set_cons_succ])
          refine take_yes (i := 9) (d := 75) (v := ?_) rfl rfl (by kernel_rfl) (by kernel_rfl) (by kernel_rfl) (fun _ _ _ h => h) (by rfl) ?_ hHeld ?_
          rotate_left
          · intro wq hSw; (try dsimp only at hSw); go_simp; (try with_reducible rfl)
          (try simp only [Act.put, List.setIfInBounds_toArray, List.set_cons_zero, List.set_cons_succ])
          refine take_yes (i := 10) (d := 76) (v := ?_) rfl rfl (by kernel_rfl) (by kernel_rfl) (by kernel_rfl) (fun _ _ _ h => h) (by rfl) ?_ hHeld ?_
          rotate_left
          · intro wq hSw; (try dsimp only at hSw); go_simp; (try with_reducible rfl)
          (try simp only [Act.put, List.setIfInBounds_toArray, List.set_cons_zero, List.set_cons_succ])
          refine take_yes (i := 11) (d := 77) (v := ?_) rfl rfl (by kernel_rfl) (by kernel_rfl) (by kernel_rfl) (fun _ _ _ h => h) (by rfl) ?_ hHeld ?_
          rotate_left
          · intro wq hSw; (try dsimp only at hSw); go_simp; (try with_reducible rfl)
          (try simp only [Act.put, List.setIfInBounds_toArray, List.set_cons_zero, List.set_cons_succ])
          refine take_yes (i := 12) (d := 78) (v := ?_) rfl rfl (by kernel_rfl) (by kernel_rfl) (by kernel_rfl) (fun _ _ _ h => h) (by rfl) ?_ hHeld ?_
          rotate_left
          · intro wq hSw; (try dsimp only at hSw); go_simp; (try with_reducible rfl)
          (try simp only [Act.put, List.setIfInBounds_toArray, List.set_cons_zero, List.set_cons_succ])
          refine take_yes (i := 13) (d := 79) (v := ?_) rfl rfl (by kernel_rfl) (by kernel_rfl) (by kernel_rfl) (fun _ _ _ h => h) (by rfl) ?_ hHeld ?_
          rotate_left
          · intro wq hSw; (try dsimp only at hSw); go_simp; (try with_reducible rfl)
          (try simp only [Act.put, List.setIfInBounds_toArray, List.set_cons_zero, List.set_cons_succ])
          refine take_yes (i := 14) (d := 80) (v := ?_) rfl rfl (by kernel_rfl) (by kernel_rfl) (by kernel_rfl) (fun _ _ _ h => h) (by rfl) ?_ hHeld ?_
          rotate_left
          · intro wq hSw; (try dsimp only at hSw); go_simp; (try with_reducible rfl)
          (try simp only [Act.put, List.setIfInBounds_toArray, List.set_cons_zero, List.set_cons_succ])
          refine wpAnyH_ready (rs := [15]) (by kernel_rfl) (by simp) ?_
          refine AllReadyH.cons rfl (fun K' hK => ?_) AllReadyH.nil
          go_simp
          go_at_call 16
          refine (O2.out _).mono ?_
          rintro e w5 ⟨rfl, hk⟩
          replace K : Kp wr w5 := kp_trans (by repeat (first | (with_reducible exact K) | (with_reducible apply kp_alloc) | (with_reducible apply kp_drew) | (with_reducible apply kp_drewN))) hk
          replace c0 := (BAR.out _ K).1; replace c1 := (BAR.out _ K).2.1; replace c2 := (BAR.out _ K).2.2.1; replace c3 := (BAR.out _ K).2.2.2.1; replace c4 := (BAR.out _ K).2.2.2.2.1; replace c5 := (BAR.out _ K).2.2.2.2.2.1; replace c6 := (BAR.out _ K).2.2.2.2.2.2.1; replace c7 := (BAR.out _ K).2.2.2.2.2.2.2.1; replace q0 := (BAR.out _ K).2.2.2.2.2.2.2.2.1; replace q1 := (BAR.out _ K).2.2.2.2.2.2.2.2.2
          replace l0 : w.heap.size < w5.heap.size := cell_lt c0; replace l2 : w.heap.size + 1 < w5.heap.size := cell_lt c2; replace l4 : w.heap.size + 1 + 1 < w5.heap.size := cell_lt c4; replace l6 : w.heap.size + 1 + 1 + 1 < w5.heap.size := cell_lt c6
          clear hk hHeld
          refine hK.out _ _ ?_ (fun hHeld => ?_)
          · exact ⟨K, c0, c1, c2, c3, c4, c5, c6, c7, q0, q1⟩
          clear hK K'
          (try simp only [Act.put, List.setIfInBounds_toArray, List.set_cons_zero, List.set_cons_succ])
          refine take_yes (i := 16) (d := 82) (v := ?_) rfl rfl (by kernel_rfl) (by kernel_rfl) (by kernel_rfl) (fun _ _ _ h => h) (by rfl) ?_ hHeld ?_
          rotate_left
          · intro wq hSw; (try dsimp only at hSw); go_simp; (try with_reducible rfl)
          (try simp only [Act.put, List.setIfInBounds_toArray, List.set_cons_zero, List.set_cons_succ])
          refine take_yes (i := 17) (d := 83) (v := ?_) rfl rfl (by kernel_rfl) (by kernel_rfl) (by kernel_rfl) (fun _ _ _ h => h) (by rfl) ?_ hHeld ?_
          rotate_left
          · intro wq hSw; (try dsimp only at hSw); go_simp; (try with_reducible rfl)
          (try simp only [Act.put, List.setIfInBounds_toArray, List.set_cons_zero, List.set_cons_succ])
          refine take_yes (i := 18) (d := 84) (v := ?_) rfl rfl (by kernel_rfl) (by kernel_rfl) (by kernel_rfl) (fun _ _ _ h => h) (by rfl) ?_ hHeld ?_
          rotate_left
          · intro wq hSw; (try dsimp only at hSw); go_simp; (try with_reducible rfl)
          (try simp only [Act.put, List.setIfInBounds_toArray, List.set_cons_zero, List.set_cons_succ])
          refine take_yes (i := 19) (d := 85) (v := ?_) rfl rfl (by kernel_rfl) (by kernel_rfl) (by kernel_rfl) (fun _ _ _ h => h) (by rfl) ?_ hHeld ?_
          rotate_left
          · intro wq hSw; (try dsimp only at hSw); go_simp; (try with_reducible rfl)
          (try simp only [Act.put, List.setIfInBounds_toArray, List.set_cons_zero, List.set_cons_succ])
          refine take_yes (i := 20) (d := 86) (v := ?_) rfl rfl (by kernel_rfl) (by kernel_rfl) (by kernel_rfl) (fun _ _ _ h => h) (by rfl) ?_ hHeld ?_
          rotate_left
          · intro wq hSw; (try dsimp only at hSw); go_simp; (try with_reducible rfl)
          (try simp only [Act.put, List.setIfInBounds_toArray, List.set_cons_zero, List.set_cons_succ])
          refine take_yes (i := 21) (d := 87) (v := ?_) rfl rfl (by kernel_rfl) (by kernel_rfl) (by kernel_rfl) (fun _ _ _ h => h) (by rfl) ?_ hHeld ?_
          rotate_left
          · intro wq hSw; (try dsimp only at hSw); go_simp; (try with_reducible rfl)
          (try simp only [Act.put, List.setIfInBounds_toArray, List.set_cons_zero, List.set_cons_succ])
          refine take_yes (i := 22) (d := 88) (v := ?_) rfl rfl (by kernel_rfl) (by kernel_rfl) (by kernel_rfl) (fun _ _ _ h => h) (by rfl) ?_ hHeld ?_
          rotate_left
          · intro wq hSw; (try dsimp only at hSw); go_simp; (try with_reducible rfl)
          (try simp only [Act.put, List.setIfInBounds_toArray, List.set_cons_zero, List.set_cons_succ])
          refine take_yes (i := 23) (d := 89) (v := ?_) rfl rfl (by kernel_rfl) (by kernel_rfl) (by kernel_rfl) (fun _ _ _ h => h) (by rfl) ?_ hHeld ?_
          rotate_left
          · intro wq hSw; (try dsimp only at hSw); go_simp; (try with_reducible rfl)
          (try simp only [Act.put, List.setIfInBounds_toArray, List.set_cons_zero, List.set_cons_succ])
          refine take_yes (i := 24) (d := 90) (v := ?_) rfl rfl (by kernel_rfl) (by kernel_rfl) (by kernel_rfl) (fun _ _ _ h => h) (by rfl) ?_ hHeld ?_
          rotate_left
          · intro wq hSw; (try dsimp only at hSw); go_simp; (try with_reducible rfl)
          (try simp only [Act.put, List.setIfInBounds_toArray, List.set_cons_zero, List.set_cons_succ])
          refine take_yes (i := 25) (d := 91) (v := ?_) rfl rfl (by kernel_rfl) (by kernel_rfl) (by kernel_rfl) (fun _ _ _ h => h) (by rfl) ?_ hHeld ?_
          rotate_left
          · intro wq hSw; (try dsimp only at hSw); go_simp; (try with_reducible rfl)
          (try simp only [Act.put, List.setIfInBounds_toArray, List.set_cons_zero, List.set_cons_succ])
          refine take_yes (i := 26) (d := 92) (v := ?_) rfl rfl (by kernel_rfl) (by kernel_rfl) (by kernel_rfl) (fun _ _ _ h => h) (by rfl) ?_ hHeld ?_
          rotate_left
          · intro wq hSw; (try dsimp only at hSw); go_simp; (try with_reducible rfl)
          (try simp only [Act.put, List.setIfInBounds_toArray, List.set_cons_zero, List.set_cons_succ])
          refine take_yes (i := 27) (d := 93) (v := ?_) rfl rfl (by kernel_rfl) (by kernel_rfl) (by kernel_rfl) (fun _ _ _ h => h) (by rfl) ?_ hHeld ?_
          rotate_left
          · intro wq hSw; (try dsimp only at hSw); go_simp; (try with_reducible rfl)
          (try simp only [Act.put, List.setIfInBounds_toArray, List.set_cons_zero, List.set_cons_succ])
          refine take_yes (i := 28) (d := 94) (v := ?_) rfl rfl (by kernel_rfl) (by kernel_rfl) (by kernel_rfl) (fun _ _ _ h => h) (by rfl) ?_ hHeld ?_
          rotate_left
          · intro wq hSw; (try dsimp only at hSw); go_simp; (try with_reducible rfl)
          (try simp only [Act.put, List.setIfInBounds_toArray, List.set_cons_zero, List.set_cons_succ])
          refine take_yes (i := 29) (d := 95) (v := ?_) rfl rfl (by kernel_rfl) (by kernel_rfl) (by kernel_rfl) (fun _ _ _ h => h) (by rfl) ?_ hHeld ?_
          rotate_left
          · intro wq hSw; (try dsimp only at hSw); go_simp; (try with_reducible rfl)
          (try simp only [Act.put, List.setIfInBounds_toArray, List.set_cons_zero, List.set_cons_succ])
          refine take_yes (i := 30) (d := 96) (v := ?_) rfl rfl (by kernel_rfl) (by kernel_rfl) (by kernel_rfl) (fun _ _ _ h => h) (by rfl) ?_ hHeld ?_
          rotate_left
          · intro wq hSw; (try dsimp only at hSw); go_simp; (try with_reducible rfl)
          (try simp only [Act.put, List.setIfInBounds_toArray, List.set_cons_zero, List.set_cons_succ])
          refine take_yes (i := 31) (d := 97) (v := ?_) rfl rfl (by kernel_rfl) (by kernel_rfl) (by kernel_rfl) (fun _ _ _ h => h) (by rfl) ?_ hHeld ?_
          rotate_left
          · intro wq hSw; (try dsimp only at hSw); go_simp; (try with_reducible rfl)
          (try simp only [Act.put, List.setIfInBounds_toArray, List.set_cons_zero, List.set_cons_succ])
          refine take_yes (i := 32) (d := 98) (v := ?_) rfl rfl (by kernel_rfl) (by kernel_rfl) (by kernel_rfl) (fun _ _ _ h => h) (by rfl) ?_ hHeld ?_
          rotate_left
          · intro wq hSw; (try dsimp only at hSw); go_simp; (try with_reducible rfl)
          (try simp only [Act.put, List.setIfInBounds_toArray, List.set_cons_zero, List.set_cons_succ])
          refine take_yes (i := 33) (d := 99) (v := ?_) rfl rfl (by kernel_rfl) (by kernel_rfl) (by kernel_rfl) (fun _ _ _ h => h) (by rfl) ?_ hHeld ?_
          rotate_left
          · intro wq hSw; (try dsimp only at hSw); go_simp; (try with_reducible rfl)
          (try simp only [Act.put, List.setIfInBounds_toArray, List.set_cons_zero, List.set_cons_succ])
          refine take_no (i := 34) (d := 100) rfl rfl (by kernel_rfl) (by kernel_rfl) (by kernel_rfl) (fun _ _ _ h => h) (by rfl) hHeld ?_
          (try simp only [Act.put, List.setIfInBounds_toArray, List.set_cons_zero, List.set_cons_succ])
          refine take_no (i := 35) (d := 101) rfl rfl (by kernel_rfl) (by kernel_rfl) (by kernel_rfl) (fun _ _ _ h => h) (by rfl) hHeld ?_
          (try simp only [Act.put, List.setIfInBounds_toArray, List.set_cons_zero, List.set_cons_succ])
          refine take_no (i := 36) (d := 102) rfl rfl (by kernel_rfl) (by kernel_rfl) (by kernel_rfl) (fun _ _ _ h => h) (by rfl) hHeld ?_
          (try simp only [Act.put, List.setIfInBounds_toArray, List.set_cons_zero, List.set_cons_succ])
          refine take_no (i := 37) (d := 103) rfl rfl (by kernel_rfl) (by kernel_rfl) (by kernel_rfl) (fun _ _ _ h => h) (by rfl) hHeld ?_
          (try simp only [Act.put, List.setIfInBounds_toArray, List.set_cons_zero, List.set_cons_succ])
          refine take_no (i := 38) (d := 104) rfl rfl (by kernel_rfl) (by kernel_rfl) (by kernel_rfl) (fun _ _ _ h => h) (by rfl) hHeld ?_
          (try simp only [Act.put, List.setIfInBounds_toArray, List.set_cons_zero, List.set_cons_succ])
          refine take_no (i := 39) (d := 105) rfl rfl (by kernel_rfl) (by kernel_rfl) (by kernel_rfl) (fun _ _ _ h => h) (by rfl) hHeld ?_
          (try simp only [Act.put, List.setIfInBounds_toArray, List.set_cons_zero, List.set_cons_succ])
          refine take_yes (i := 40) (d := 106) (v := ?_) rfl rfl (by kernel_rfl) (by kernel_rfl) (by kernel_rfl) (fun _ _ _ h => h) (by rfl) ?_ hHeld ?_
          rotate_left
          · intro wq hSw; (try dsimp only at hSw); go_simp; (try with_reducible rfl)
          (try simp only [Act.put, List.setIfInBounds_toArray, List.set_cons_zero, List.set_cons_succ])
          refine take_yes (i := 41) (d := 107) (v := ?_) rfl rfl (by kernel_rfl) (by kernel_rfl) (by kernel_rfl) (fun _ _ _ h => h) (by rfl) ?_ hHeld ?_
          rotate_left
          · intro wq hSw; (try dsimp only at hSw); go_simp; (try with_reducible rfl)
          (try simp only [Act.put, List.setIfInBounds_toArray, List.set_cons_zero, List.set_cons_succ])
          refine take_no (i := 42) (d := 108) rfl rfl (by kernel_rfl) (by kernel_rfl) (by kernel_rfl) (fun _ _ _ h => h) (by rfl) hHeld ?_
          (try simp only [Act.put, List.setIfInBounds_toArray, List.set_cons_zero, List.set_cons_succ])
          refine take_no (i := 43) (d := 109) rfl rfl (by kernel_rfl) (by kernel_rfl) (by kernel_rfl) (fun _ _ _ h => h) (by rfl) hHeld ?_
          (try simp only [Act.put, List.setIfInBounds_toArray, List.set_cons_zero, List.set_cons_succ])
          refine take_no (i := 44) (d := 110) rfl rfl (by kernel_rfl) (by kernel_rfl) (by kernel_rfl) (fun _ _ _ h => h) (by rfl) hHeld ?_
          (try simp only [Act.put, List.setIfInBounds_toArray, List.set_cons_zero, List.set_cons_succ])
          refine take_no (i := 45) (d := 111) rfl rfl (by kernel_rfl) (by kernel_rfl) (by kernel_rfl) (fun _ _ _ h => h) (by rfl) hHeld ?_
          (try simp only [Act.put, List.setIfInBounds_toArray, List.set_cons_zero, List.set_cons_succ])
          refine take_no (i := 46) (d := 112) rfl rfl (by kernel_rfl) (by kernel_rfl) (by kernel_rfl) (fun _ _ _ h => h) (by rfl) hHeld ?_
          (try simp only [Act.put, List.setIfInBounds_toArray, List.set_cons_zero, List.set_cons_succ])
          refine take_no (i := 47) (d := 113) rfl rfl (by kernel_rfl) (by kernel_rfl) (by kernel_rfl) (fun _ _ _ h => h) (by rfl) hHeld ?_
          (try simp only [Act.put, List.setIfInBounds_toArray, List.set_cons_zero, List.set_cons_succ])
          refine take_yes (i := 48) (d := 114) (v := ?_) rfl rfl (by kernel_rfl) (by kernel_rfl) (by kernel_rfl) (fun _ _ _ h => h) (by rfl) ?_ hHeld ?_
          rotate_left
          · intro wq hSw; (try dsimp only at hSw); go_simp; (try with_reducible rfl)
          (try simp only [Act.put, List.setIfInBounds_toArray, List.set_cons_zero, List.set_cons_succ])
          refine take_yes (i := 49) (d := 115) (v := ?_) rfl rfl (by kernel_rfl) (by kernel_rfl) (by kernel_rfl) (fun _ _ _ h => h) (by rfl) ?_ hHeld ?_
          rotate_left
          · intro wq hSw; (try dsimp only at hSw); go_simp; (try with_reducible rfl)
          (try simp only [Act.put, List.setIfInBounds_toArray, List.set_cons_zero, List.set_cons_succ])
          refine wpAnyH_done (by kernel_rfl) ?_ _
          refine NoPanic.normal ?_
          go_wp2_with fail
          exact ⟨⟨k + 1, by omega, by go_num, HES.out.kp (by repeat (first | (with_reducible exact K) | (with_reducible apply kp_alloc) | (with_reducible apply kp_drew) | (with_reducible apply kp_drewN))), kp_trans HKR.out (by repeat (first | (with_reducible exact K) | (with_reducible apply kp_alloc) | (with_reducible apply kp_drew) | (with_reducible apply kp_drewN)))⟩, by simp [intOf]; omega⟩
        · go_upto_region 15 with fail
          refine wp_region_noPanic ?_
          refine wp_region_held_drew (S := fun w' => Kp wr w' ∧ w'.cell? ⟨w.heap.size, 0, none⟩ = some (.int .i64 ax) ∧ w'.cell? ⟨w.heap.size, 1, none⟩ = some (.int .i64 ay) ∧ w'.cell? ⟨w.heap.size + 1, 0, none⟩ = some (.int .i64 bx) ∧ w'.cell? ⟨w.heap.size + 1, 1, none⟩ = some (.int .i64 bY) ∧ w'.cell? ⟨w.heap.size + 1 + 1, 0, none⟩ = some (.int .i64 cx) ∧ w'.cell? ⟨w.heap.size + 1 + 1, 1, none⟩ = some (.int .i64 cy) ∧ w'.cell? ⟨w.heap.size + 1 + 1 + 1, 0, none⟩ = some (.int .i64 dx) ∧ w'.cell? ⟨w.heap.size + 1 + 1 + 1, 1, none⟩ = some (.int .i64 dy) ∧ w'.cell? ⟨gb, goff + k * 2, none⟩ = some (.int .i64 x) ∧ w'.cell? ⟨gb, goff + k * 2 + 1, none⟩ = some (.int .i64 y)) (by kernel_rfl) ?_ (fun hHeld => ?_)
          · exact ⟨kp_drew K, cell_d c0, cell_d c1, cell_d c2, cell_d c3, cell_d c4, cell_d c5, cell_d c6, cell_d c7, cell_d q0, cell_d q1⟩
          refine take_yes (i := 0) (d := 66) (v := ?_) rfl rfl (by kernel_rfl) (by kernel_rfl) (by kernel_rfl) (fun _ _ _ h => h) (by rfl) ?_ hHeld ?_
          rotate_left
          · intro wq hSw; (try dsimp only at hSw); go_simp; (try with_reducible rfl)
          (try simp only [Act.put, List.setIfInBounds_toArray, List.set_cons_zero, List.set_cons_succ])
          refine take_yes (i := 1) (d := 67) (v := ?_) rfl rfl (by kernel_rfl) (by kernel_rfl) (by kernel_rfl) (fun _ _ _ h => h) (by rfl) ?_ hHeld ?_
          rotate_left
          · intro wq hSw; (try dsimp only at hSw); go_simp; (try with_reducible rfl)
          (try simp only [Act.put, List.setIfInBounds_toArray, List.set_cons_zero, List.set_cons_succ])
          refine take_yes (i := 2) (d := 68) (v := ?_) rfl rfl (by kernel_rfl) (by kernel_rfl) (by kernel_rfl) (fun _ _ _ h => h) (by rfl) ?_ hHeld ?_
          rotate_left
          · intro wq hSw; (try dsimp only at hSw); go_simp; (try with_reducible rfl)
          (try simp only [Act.put, List.setIfInBounds_toArray, List.set_cons_zero, List.set_cons_succ])
          refine take_yes (i := 3) (d := 69) (v := ?_) rfl rfl (by kernel_rfl) (by kernel_rfl) (by kernel_rfl) (fun _ _ _ h => h) (by rfl) ?_ hHeld ?_
          rotate_left
          · intro wq hSw; (try dsimp only at hSw); go_simp; (try with_reducible rfl)
          (try simp only [Act.put, List.setIfInBounds_toArray, List.set_cons_zero, List.set_cons_succ])
          refine take_yes (i := 4) (d := 70) (v := ?_) rfl rfl (by kernel_rfl) (by kernel_rfl) (by kernel_rfl) (fun _ _ _ h => h) (by rfl) ?_ hHeld ?_
          rotate_left
          · intro wq hSw; (try dsimp only at hSw); go_simp; (try with_reducible rfl)
          (try simp only [Act.put, List.setIfInBounds_toArray, List.set_cons_zero, List.set_cons_succ])
          refine take_yes (i := 5) (d := 71) (v := ?_) rfl rfl (by kernel_rfl) (by kernel_rfl) (by kernel_rfl) (fun _ _ _ h => h) (by rfl) ?_ hHeld ?_
          rotate_left
          · intro wq hSw; (try dsimp only at hSw); go_simp; (try with_reducible rfl)
          (try simp only [Act.put, List.setIfInBounds_toArray, List.set_cons_zero, List.set_cons_succ])
          refine wpAnyH_ready (rs := [6]) (by kernel_rfl) (by simp) ?_
          refine AllReadyH.cons rfl (fun K' hK => ?_) AllReadyH.nil
          go_simp
          go_at_call 16
          refine (O1.out _).mono ?_
          rintro e w4 ⟨rfl, hk⟩
          replace K : Kp wr w4 := kp_trans (by repeat (first | (with_reducible exact K) | (with_reducible apply kp_alloc) | (with_reducible apply kp_drew) | (with_reducible apply kp_drewN))) hk
          replace c0 := (BAR.out _ K).1; replace c1 := (BAR.out _ K).2.1; replace c2 := (BAR.out _ K).2.2.1; replace c3 := (BAR.out _ K).2.2.2.1; replace c4 := (BAR.out _ K).2.2.2.2.1; replace c5 := (BAR.out _ K).2.2.2.2.2.1; replace c6 := (BAR.out _ K).2.2.2.2.2.2.1; replace c7 := (BAR.out _ K).2.2.2.2.2.2.2.1; replace q0 := (BAR.out _ K).2.2.2.2.2.2.2.2.1; replace q1 := (BAR.out _ K).2.2.2.2.2.2.2.2.2
          replace l0 : w.heap.size < w4.heap.size := cell_lt c0; replace l2 : w.heap.size + 1 < w4.heap.size := cell_lt c2; replace l4 : w.heap.size + 1 + 1 < w4.heap.size := cell_lt c4; replace l6 : w.heap.size + 1 + 1 + 1 < w4.heap.size := cell_lt c6
          clear hk hHeld
          refine hK.out _ _ ?_ (fun hHeld => ?_)
          · exact ⟨K, c0, c1, c2, c3, c4, c5, c6, c7, q0, q1⟩
          clear hK K'
          (try simp only [Act.put, List.setIfInBounds_toArray, List.set_cons_zero, List.set_cons_succ])
          refine take_yes (i := 7) (d := 73) (v := ?_) rfl rfl (by kernel_rfl) (by kernel_rfl) (by kernel_rfl) (fun _ _ _ h => h) (by rfl) ?_ hHeld ?_
          rotate_left
          · intro wq hSw; (try dsimp only at hSw); go_simp; (try with_reducible rfl)
          (try simp only [Act.put, List.setIfInBounds_toArray, List.set_cons_zero, List.set_cons_succ])
          refine take_yes (i := 8) (d := 74) (v := ?_) rfl rfl (by kernel_rfl) (by kernel_rfl) (by kernel_rfl) (fun _ _ _ h => h) (by rfl) ?_ hHeld ?_
          rotate_left
          · intro wq hSw; (try dsimp only at hSw); go_simp; (try with_reducible rfl)
          (try simp only [Act.put, List.setIfInBounds_toArray, List.set_cons_zero, List.set_cons_succ])
          refine take_yes (i := 9) (d := 75) (v := ?_) rfl rfl (by kernel_rfl) (by kernel_rfl) (by kernel_rfl) (fun _ _ _ h => h) (by rfl) ?_ hHeld ?_
          rotate_left
          · intro wq hSw; (try dsimp only at hSw); go_simp; (try with_reducible rfl)
          (try simp only [Act.put, List.setIfInBounds_toArray, List.set_cons_zero, List.set_cons_succ])
          refine take_yes (i := 10) (d := 76) (v := ?_) rfl rfl (by kernel_rfl) (by kernel_rfl) (by kernel_rfl) (fun _ _ _ h => h) (by rfl) ?_ hHeld ?_
          rotate_left
          · intro wq hSw; (try dsimp only at hSw); go_simp; (try with_reducible rfl)
          (try simp only [Act.put, List.setIfInBounds_toArray, List.set_cons_zero, List.set_cons_succ])
          refine take_yes (i := 11) (d := 77) (v := ?_) rfl rfl (by kernel_rfl) (by kernel_rfl) (by kernel_rfl) (fun _ _ _ h => h) (by rfl) ?_ hHeld ?_
          rotate_left
          · intro wq hSw; (try dsimp only at hSw); go_simp; (try with_reducible rfl)
          (try simp only [Act.put, List.setIfInBounds_toArray, List.set_cons_zero, List.set_cons_succ])
          refine take_yes (i := 12) (d := 78) (v := ?_) rfl rfl (by kernel_rfl) (by kernel_rfl) (by kernel_rfl) (fun _ _ _ h => h) (by rfl) ?_ hHeld ?_
          rotate_left
          · intro wq hSw; (try dsimp only at hSw); go_simp; (try with_reducible rfl)
          (try simp only [Act.put, List.setIfInBounds_toArray, List.set_cons_zero, List.set_cons_succ])
          refine take_yes (i := 13) (d := 79) (v := ?_) rfl rfl (by kernel_rfl) (by kernel_rfl) (by kernel_rfl) (fun _ _ _ h => h) (by rfl) ?_ hHeld ?_
          rotate_left
          · intro wq hSw; (try dsimp only at hSw); go_simp; (try with_reducible rfl)
          (try simp only [Act.put, List.setIfInBounds_toArray, List.set_cons_zero, List.set_cons_succ])
          refine take_yes (i := 14) (d := 80) (v := ?_) rfl rfl (by kernel_rfl) (by kernel_rfl) (by kernel_rfl) (fun _ _ _ h => h) (by rfl) ?_ hHeld ?_
          rotate_left
          · intro wq hSw; (try dsimp only at hSw); go_simp; (try with_reducible rfl)
          (try simp only [Act.put, List.setIfInBounds_toArray, List.set_cons_zero, List.set_cons_succ])
          refine wpAnyH_ready (rs := [15]) (by kernel_rfl) (by simp) ?_
          refine AllReadyH.cons rfl (fun K' hK => ?_) AllReadyH.nil
          go_simp
          go_at_call 16
          refine (O2.out _).mono ?_
          rintro e w5 ⟨rfl, hk⟩
          replace K : Kp wr w5 := kp_trans (by repeat (first | (with_reducible exact K) | (with_reducible apply kp_alloc) | (with_reducible apply kp_drew) | (with_reducible apply kp_drewN))) hk
          replace c0 := (BAR.out _ K).1; replace c1 := (BAR.out _ K).2.1; replace c2 := (BAR.out _ K).2.2.1; replace c3 := (BAR.out _ K).2.2.2.1; replace c4 := (BAR.out _ K).2.2.2.2.1; replace c5 := (BAR.out _ K).2.2.2.2.2.1; replace c6 := (BAR.out _ K).2.2.2.2.2.2.1; replace c7 := (BAR.out _ K).2.2.2.2.2.2.2.1; replace q0 := (BAR.out _ K).2.2.2.2.2.2.2.2.1; replace q1 := (BAR.out _ K).2.2.2.2.2.2.2.2.2
          replace l0 : w.heap.size < w5.heap.size := cell_lt c0; replace l2 : w.heap.size + 1 < w5.heap.size := cell_lt c2; replace l4 : w.heap.size + 1 + 1 < w5.heap.size := cell_lt c4; replace l6 : w.heap.size + 1 + 1 + 1 < w5.heap.size := cell_lt c6
          clear hk hHeld
          refine hK.out _ _ ?_ (fun hHeld => ?_)
          · exact ⟨K, c0, c1, c2, c3, c4, c5, c6, c7, q0, q1⟩
          clear hK K'
          (try simp only [Act.put, List.setIfInBounds_toArray, List.set_cons_zero, List.set_cons_succ])
          refine take_yes (i := 16) (d := 82) (v := ?_) rfl rfl (by kernel_rfl) (by kernel_rfl) (by kernel_rfl) (fun _ _ _ h => h) (by rfl) ?_ hHeld ?_
          rotate_left
          · intro wq hSw; (try dsimp only at hSw); go_simp; (try with_reducible rfl)
          (try simp only [Act.put, List.setIfInBounds_toArray, List.set_cons_zero, List.set_cons_succ])
          refine take_yes (i := 17) (d := 83) (v := ?_) rfl rfl (by kernel_rfl) (by kernel_rfl) (by kernel_rfl) (fun _ _ _ h => h) (by rfl) ?_ hHeld ?_
          rotate_left
          · intro wq hSw; (try dsimp only at hSw); go_simp; (try with_reducible rfl)
          (try simp only [Act.put, List.setIfInBounds_toArray, List.set_cons_zero, List.set_cons_succ])
          refine take_yes (i := 18) (d := 84) (v := ?_) rfl rfl (by kernel_rfl) (by kernel_rfl) (by kernel_rfl) (fun _ _ _ h => h) (by rfl) ?_ hHeld ?_
          rotate_left
          · intro wq hSw; (try dsimp only at hSw); go_simp; (try with_reducible rfl)
          (try simp only [Act.put, List.setIfInBounds_toArray, List.set_cons_zero, List.set_cons_succ])
          refine take_yes (i := 19) (d := 85) (v := ?_) rfl rfl (by kernel_rfl) (by kernel_rfl) (by kernel_rfl) (fun _ _ _ h => h) (by rfl) ?_ hHeld ?_
          rotate_left
          · intro wq hSw; (try dsimp only at hSw); go_simp; (try with_reducible rfl)
          (try simp only [Act.put, List.setIfInBounds_toArray, List.set_cons_zero, List.set_cons_succ])
          refine take_yes (i := 20) (d := 86) (v := ?_) rfl rfl (by kernel_rfl) (by kernel_rfl) (by kernel_rfl) (fun _ _ _ h => h) (by rfl) ?_ hHeld ?_
          rotate_left
          · intro wq hSw; (try dsimp only at hSw); go_simp; (try with_reducible rfl)
          (try simp only [Act.put, List.setIfInBounds_toArray, List.set_cons_zero, List.set_cons_succ])
          refine take_yes (i := 21) (d := 87) (v := ?_) rfl rfl (by kernel_rfl) (by kernel_rfl) (by kernel_rfl) (fun _ _ _ h => h) (by rfl) ?_ hHeld ?_
          rotate_left
          · intro wq hSw; (try dsimp only at hSw); go_simp; (try with_reducible rfl)
          (try simp only [Act.put, List.setIfInBounds_toArray, List.set_cons_zero, List.set_cons_succ])
          refine take_yes (i := 22) (d := 88) (v := ?_) rfl rfl (by kernel_rfl) (by kernel_rfl) (by kernel_rfl) (fun _ _ _ h => h) (by rfl) ?_ hHeld ?_
          rotate_left
          · intro wq hSw; (try dsimp only at hSw); go_simp; (try with_reducible rfl)
          (try simp only [Act.put, List.setIfInBounds_toArray, List.set_cons_zero, List.set_cons_succ])
          refine take_yes (i := 23) (d := 89) (v := ?_) rfl rfl (by kernel_rfl) (by kernel_rfl) (by kernel_rfl) (fun _ _ _ h => h) (by rfl) ?_ hHeld ?_
          rotate_left
          · intro wq hSw; (try dsimp only at hSw); go_simp; (try with_reducible rfl)
          (try simp only [Act.put, List.setIfInBounds_toArray, List.set_cons_zero, List.set_cons_succ])
          refine take_yes (i := 24) (d := 90) (v := ?_) rfl rfl (by kernel_rfl) (by kernel_rfl) (by kernel_rfl) (fun _ _ _ h => h) (by rfl) ?_ hHeld ?_
          rotate_left
          · intro wq hSw; (try dsimp only at hSw); go_simp; (try with_reducible rfl)
          (try simp only [Act.put, List.setIfInBounds_toArray, List.set_cons_zero, List.set_cons_succ])
          refine take_yes (i := 25) (d := 91) (v := ?_) rfl rfl (by kernel_rfl) (by kernel_rfl) (by kernel_rfl) (fun _ _ _ h => h) (by rfl) ?_ hHeld ?_
          rotate_left
          · intro wq hSw; (try dsimp only at hSw); go_simp; (try with_reducible rfl)
          (try simp only [Act.put, List.setIfInBounds_toArray, List.set_cons_zero, List.set_cons_succ])
          refine take_yes (i := 26) (d := 92) (v := ?_) rfl rfl (by kernel_rfl) (by kernel_rfl) (by kernel_rfl) (fun _ _ _ h => h) (by rfl) ?_ hHeld ?_
          rotate_left
          · intro wq hSw; (try dsimp only at hSw); go_simp; (try with_reducible rfl)
          (try simp only [Act.put, List.setIfInBounds_toArray, List.set_cons_zero, List.set_cons_succ])
          refine take_yes (i := 27) (d := 93) (v := ?_) rfl rfl (by kernel_rfl) (by kernel_rfl) (by kernel_rfl) (fun _ _ _ h => h) (by rfl) ?_ hHeld ?_
          rotate_left
          · intro wq hSw; (try dsimp only at hSw); go_simp; (try with_reducible rfl)
          (try simp only [Act.put, List.setIfInBounds_toArray, List.set_cons_zero, List.set_cons_succ])
          refine take_yes (i := 28) (d := 94) (v := ?_) rfl rfl (by kernel_rfl) (by kernel_rfl) (by kernel_rfl) (fun _ _ _ h => h) (by rfl) ?_ hHeld ?_
          rotate_left
          · intro wq hSw; (try dsimp only at hSw); go_simp; (try with_reducible rfl)
          (try simp only [Act.put, List.setIfInBounds_toArray, List.set_cons_zero, List.set_cons_succ])
          refine take_yes (i := 29) (d := 95) (v := ?_) rfl rfl (by kernel_rfl) (by kernel_rfl) (by kernel_rfl) (fun _ _ _ h => h) (by rfl) ?_ hHeld ?_
          rotate_left
          · intro wq hSw; (try dsimp only at hSw); go_simp; (try with_reducible rfl)
          (try simp only [Act.put, List.setIfInBounds_toArray, List.set_cons_zero, List.set_cons_succ])
          refine take_yes (i := 30) (d := 96) (v := ?_) rfl rfl (by kernel_rfl) (by kernel_rfl) (by kernel_rfl) (fun _ _ _ h => h) (by rfl) ?_ hHeld ?_
          rotate_left
          · intro wq hSw; (try dsimp only at hSw); go_simp; (try with_reducible rfl)
          (try simp only [Act.put, List.setIfInBounds_toArray, List.set_cons_zero, List.set_cons_succ])
          refine take_yes (i := 31) (d := 97) (v := ?_) rfl rfl (by kernel_rfl) (by kernel_rfl) (by kernel_rfl) (fun _ _ _ h => h) (by rfl) ?_ hHeld ?_
          rotate_left
          · intro wq hSw; (try dsimp only at hSw); go_simp; (try with_reducible rfl)
          (try simp only [Act.put, List.setIfInBounds_toArray, List.set_cons_zero, List.set_cons_succ])
          refine take_yes (i := 32) (d := 98) (v := ?_) rfl rfl (by kernel_rfl) (by kernel_rfl) (by kernel_rfl) (fun _ _ _ h => h) (by rfl) ?_ hHeld ?_
          rotate_left
          · intro wq hSw; (try dsimp only at hSw); go_simp; (try with_reducible rfl)
          (try simp only [Act.put, List.setIfInBounds_toArray, List.set_cons_zero, List.set_cons_succ])
          refine take_yes (i := 33) (d := 99) (v := ?_) rfl rfl (by kernel_rfl) (by kernel_rfl) (by kernel_rfl) (fun _ _ _ h => h) (by rfl) ?_ hHeld ?_
          rotate_left
          · intro wq hSw; (try dsimp only at hSw); go_simp; (try with_reducible rfl)
          (try simp only [Act.put, List.setIfInBounds_toArray, List.set_cons_zero, List.set_cons_succ])
          refine take_yes (i := 34) (d := 100) (v := ?_) rfl rfl (by kernel_rfl) (by kernel_rfl) (by kernel_rfl) (fun _ _ _ h => h) (by rfl) ?_ hHeld ?_
          rotate_left
          · intro wq hSw; (try dsimp only at hSw); go_simp; (try with_reducible rfl)
          (try simp only [Act.put, List.setIfInBounds_toArray, List.set_cons_zero, List.set_cons_succ])
          refine take_yes (i := 35) (d := 101) (v := ?_) rfl rfl (by kernel_rfl) (by kernel_rfl) (by kernel_rfl) (fun _ _ _ h => h) (by rfl) ?_ hHeld ?_
          rotate_left
          · intro wq hSw; (try dsimp only at hSw); go_simp; (try with_reducible rfl)
          (try simp only [Act.put, List.setIfInBounds_toArray, List.set_cons_zero, List.set_cons_succ])
          refine take_yes (i := 36) (d := 102) (v := ?_) rfl rfl (by kernel_rfl) (by kernel_rfl) (by kernel_rfl) (fun _ _ _ h => h) (by rfl) ?_ hHeld ?_
          rotate_left
          · intro wq hSw; (try dsimp only at hSw); go_simp; (try with_reducible rfl)
          (try simp only [Act.put, List.setIfInBounds_toArray, List.set_cons_zero, List.set_cons_succ])
          refine take_yes (i := 37) (d := 103) (v := ?_) rfl rfl (by kernel_rfl) (by kernel_rfl) (by kernel_rfl) (fun _ _ _ h => h) (by rfl) ?_ hHeld ?_
          rotate_left
          · intro wq hSw; (try dsimp only at hSw); go_simp; (try with_reducible rfl)
          (try simp only [Act.put, List.setIfInBounds_toArray, List.set_cons_zero, List.set_cons_succ])
          refine take_yes (i := 38) (d := 104) (v := ?_) rfl rfl (by kernel_rfl) (by kernel_rfl) (by kernel_rfl) (fun _ _ _ h => h) (by rfl) ?_ hHeld ?_
          rotate_left
          · intro wq hSw; (try dsimp only at hSw); go_simp; (try with_reducible rfl)
          (try simp only [Act.put, List.setIfInBounds_toArray, List.set_cons_zero, List.set_cons_succ])
          refine take_yes (i := 39) (d := 105) (v := ?_) rfl rfl (by kernel_rfl) (by kernel_rfl) (by kernel_rfl) (fun _ _ _ h => h) (by rfl) ?_ hHeld ?_
          rotate_left
          · intro wq hSw; (try dsimp only at hSw); go_simp; (try with_reducible rfl)
          (try simp only [Act.put, List.setIfInBounds_toArray, List.set_cons_zero, List.set_cons_succ])
          refine take_yes (i := 40) (d := 106) (v := ?_) rfl rfl (by kernel_rfl) (by kernel_rfl) (by kernel_rfl) (fun _ _ _ h => h) (by rfl) ?_ hHeld ?_
          rotate_left
          · intro wq hSw; (try dsimp only at hSw); go_simp; (try with_reducible rfl)
          (try simp only [Act.put, List.setIfInBounds_toArray, List.set_cons_zero, List.set_cons_succ])
          refine take_yes (i := 41) (d := 107) (v := ?_) rfl rfl (by kernel_rfl) (by kernel_rfl) (by kernel_rfl) (fun _ _ _ h => h) (by rfl) ?_ hHeld ?_
          rotate_left
          · intro wq hSw; (try dsimp only at hSw); go_simp; (try with_reducible rfl)
          (try simp only [Act.put, List.setIfInBounds_toArray, List.set_cons_zero, List.set_cons_succ])
          refine take_no (i := 42) (d := 108) rfl rfl (by kernel_rfl) (by kernel_rfl) (by kernel_rfl) (fun _ _ _ h => h) (by rfl) hHeld ?_
          (try simp only [Act.put, List.setIfInBounds_toArray, List.set_cons_zero, List.set_cons_succ])
          refine take_no (i := 43) (d := 109) rfl rfl (by kernel_rfl) (by kernel_rfl) (by kernel_rfl) (fun _ _ _ h => h) (by rfl) hHeld ?_
          (try simp only [Act.put, List.setIfInBounds_toArray, List.set_cons_zero, List.set_cons_succ])
          refine take_no (i := 44) (d := 110) rfl rfl (by kernel_rfl) (by kernel_rfl) (by kernel_rfl) (fun _ _ _ h => h) (by rfl) hHeld ?_
          (try simp only [Act.put, List.setIfInBounds_toArray, List.set_cons_zero, List.set_cons_succ])
          refine take_no (i := 45) (d := 111) rfl rfl (by kernel_rfl) (by kernel_rfl) (by kernel_rfl) (fun _ _ _ h => h) (by rfl) hHeld ?_
          (try simp only [Act.put, List.setIfInBounds_toArray, List.set_cons_zero, List.set_cons_succ])
          refine take_no (i := 46) (d := 112) rfl rfl (by kernel_rfl) (by kernel_rfl) (by kernel_rfl) (fun _ _ _ h => h) (by rfl) hHeld ?_
          (try simp only [Act.put, List.setIfInBounds_toArray, List.set_cons_zero, List.set_cons_succ])
          refine take_no (i := 47) (d := 113) rfl rfl (by kernel_rfl) (by kernel_rfl) (by kernel_rfl) (fun _ _ _ h => h) (by rfl) hHeld ?_
          (try simp only [Act.put, List.setIfInBounds_toArray, List.set_cons_zero, List.set_cons_succ])
          refine take_yes (i := 48) (d := 114) (v := ?_) rfl rfl (by kernel_rfl) (by kernel_rfl) (by kernel_rfl) (fun _ _ _ h => h) (by rfl) ?_ hHeld ?_
          rotate_left
          · intro wq hSw; (try dsimp only at hSw); go_simp; (try with_reducible rfl)
          (try simp only [Act.put, List.setIfInBounds_toArray, List.set_cons_zero, List.set_cons_succ])
          refine take_yes (i := 49) (d := 115) (v := ?_) rfl rfl (by kernel_rfl) (by kernel_rfl) (by kernel_rfl) (fun _ _ _ h => h) (by rfl) ?_ hHeld ?_
          rotate_left
          · intro wq hSw; (try dsimp only at hSw); go_simp; (try with_reducible rfl)
          (try simp only [Act.put, List.setIfInBounds_toArray, List.set_cons_zero, List.set_cons_succ])
          refine wpAnyH_done (by kernel_rfl) ?_ _
          refine NoPanic.normal ?_
          go_wp2_with fail
          exact ⟨⟨k + 1, by omega, by go_num, HES.out.kp (by repeat (first | (with_reducible exact K) | (with_reducible apply kp_alloc) | (with_reducible apply kp_drew) | (with_reducible apply kp_drewN))), kp_trans HKR.out (by repeat (first | (with_reducible exact K) | (with_reducible apply kp_alloc) | (with_reducible apply kp_drew) | (with_reducible apply kp_drewN)))⟩, by simp [intOf]; omega⟩
        · go_upto_region 15 with fail
          refine wp_region_noPanic ?_
          refine wp_region_held_drew (S := fun w' => Kp wr w' ∧ w'.cell? ⟨w.heap.size, 0, none⟩ = some (.int .i64 ax) ∧ w'.cell? ⟨w.heap.size, 1, none⟩ = some (.int .i64 ay) ∧ w'.cell? ⟨w.heap.size + 1, 0, none⟩ = some (.int .i64 bx) ∧ w'.cell? ⟨w.heap.size + 1, 1, none⟩ = some (.int .i64 bY) ∧ w'.cell? ⟨w.heap.size + 1 + 1, 0, none⟩ = some (.int .i64 cx) ∧ w'.cell? ⟨w.heap.size + 1 + 1, 1, none⟩ = some (.int .i64 cy) ∧ w'.cell? ⟨w.heap.size + 1 + 1 + 1, 0, none⟩ = some (.int .i64 dx) ∧ w'.cell? ⟨w.heap.size + 1 + 1 + 1, 1, none⟩ = some (.int .i64 dy) ∧ w'.cell? ⟨gb, goff + k * 2, none⟩ = some (.int .i64 x) ∧ w'.cell? ⟨gb, goff + k * 2 + 1, none⟩ = some (.int .i64 y)) (by kernel_rfl) ?_ (fun hHeld => ?_)
          · exact ⟨kp_drew K, cell_d c0, cell_d c1, cell_d c2, cell_d c3, cell_d c4, cell_d c5, cell_d c6, cell_d c7, cell_d q0, cell_d q1⟩
          refine take_yes (i := 0) (d := 66) (v := ?_) rfl rfl (by kernel_rfl) (by kernel_rfl) (by kernel_rfl) (fun _ _ _ h => h) (by rfl) ?_ hHeld ?_
          rotate_left
          · intro wq hSw; (try dsimp only at hSw); go_simp; (try with_reducible rfl)
          (try simp only [Act.put, List.setIfInBounds_toArray, List.set_cons_zero, List.set_cons_succ])
          refine take_yes (i := 1) (d := 67) (v := ?_) rfl rfl (by kernel_rfl) (by kernel_rfl) (by kernel_rfl) (fun _ _ _ h => h) (by rfl) ?_ hHeld ?_
          rotate_left
          · intro wq hSw; (try dsimp only at hSw); go_simp; (try with_reducible rfl)
          (try simp only [Act.put, List.setIfInBounds_toArray, List.set_cons_zero, List.set_cons_succ])
          refine take_yes (i := 2) (d := 68) (v := ?_) rfl rfl (by kernel_rfl) (by kernel_rfl) (by kernel_rfl) (fun _ _ _ h => h) (by rfl) ?_ hHeld ?_
          rotate_left
          · intro wq hSw; (try dsimp only at hSw); go_simp; (try with_reducible rfl)
          (try simp only [Act.put, List.setIfInBounds_toArray, List.set_cons_zero, List.set_cons_succ])
          refine take_yes (i := 3) (d := 69) (v := ?_) rfl rfl (by kernel_rfl) (by kernel_rfl) (by kernel_rfl) (fun _ _ _ h => h) (by rfl) ?_ hHeld ?_
          rotate_left
          · intro wq hSw; (try dsimp only at hSw); go_simp; (try with_reducible rfl)
          (try simp only [Act.put, List.setIfInBounds_toArray, List.set_cons_zero, List.set_cons_succ])
          refine take_yes (i := 4) (d := 70) (v := ?_) rfl rfl (by kernel_rfl) (by kernel_rfl) (by kernel_rfl) (fun _ _ _ h => h) (by rfl) ?_ hHeld ?_
          rotate_left
          · intro wq hSw; (try dsimp only at hSw); go_simp; (try with_reducible rfl)
          (try simp only [Act.put, List.setIfInBounds_toArray, List.set_cons_zero, List.set_cons_succ])
          refine take_yes (i := 5) (d := 71) (v := ?_) rfl rfl (by kernel_rfl) (by kernel_rfl) (by kernel_rfl) (fun _ _ _ h => h) (by rfl) ?_ hHeld ?_
          rotate_left
          · intro wq hSw; (try dsimp only at hSw); go_simp; (try with_reducible rfl)
          (try simp only [Act.put, List.setIfInBounds_toArray, List.set_cons_zero, List.set_cons_succ])
          refine wpAnyH_ready (rs := [6]) (by kernel_rfl) (by simp) ?_
          refine AllReadyH.cons rfl (fun K' hK => ?_) AllReadyH.nil
          go_simp
          go_at_call 16
          refine (O1.out _).mono ?_
          rintro e w4 ⟨rfl, hk⟩
          replace K : Kp wr w4 := kp_trans (by repeat (first | (with_reducible exact K) | (with_reducible apply kp_alloc) | (with_reducible apply kp_drew) | (with_reducible apply kp_drewN))) hk
          replace c0 := (BAR.out _ K).1; replace c1 := (BAR.out _ K).2.1; replace c2 := (BAR.out _ K).2.2.1; replace c3 := (BAR.out _ K).2.2.2.1; replace c4 := (BAR.out _ K).2.2.2.2.1; replace c5 := (BAR.out _ K).2.2.2.2.2.1; replace c6 := (BAR.out _ K).2.2.2.2.2.2.1; replace c7 := (BAR.out _ K).2.2.2.2.2.2.2.1; replace q0 := (BAR.out _ K).2.2.2.2.2.2.2.2.1; replace q1 := (BAR.out _ K).2.2.2.2.2.2.2.2.2
          replace l0 : w.heap.size < w4.heap.size := cell_lt c0; replace l2 : w.heap.size + 1 < w4.heap.size := cell_lt c2; replace l4 : w.heap.size + 1 + 1 < w4.heap.size := cell_lt c4; replace l6 : w.heap.size + 1 + 1 + 1 < w4.heap.size := cell_lt c6
          clear hk hHeld
          refine hK.out _ _ ?_ (fun hHeld => ?_)
          · exact ⟨K, c0, c1, c2, c3, c4, c5, c6, c7, q0, q1⟩
          clear hK K'
          (try simp only [Act.put, List.setIfInBounds_toArray, List.set_cons_zero, List.set_cons_succ])
          refine take_yes (i := 7) (d := 73) (v := ?_) rfl rfl (by kernel_rfl) (by kernel_rfl) (by kernel_rfl) (fun _ _ _ h => h) (by rfl) ?_ hHeld ?_
          rotate_left
          · intro wq hSw; (try dsimp only at hSw); go_simp; (try with_reducible rfl)
          (try simp only [Act.put, List.setIfInBounds_toArray, List.set_cons_zero, List.set_cons_succ])
          refine take_yes (i := 8) (d := 74) (v := ?_) rfl rfl (by kernel_rfl) (by kernel_rfl) (by kernel_rfl) (fun _ _ _ h => h) (by rfl) ?_ hHeld ?_
          rotate_left
          · intro wq hSw; (try dsimp only at hSw); go_simp; (try with_reducible rfl)
          (try simp only [Act.put, List.setIfInBounds_toArray, List.set_cons_zero, List.set_cons_succ])
          refine take_yes (i := 9) (d := 75) (v := ?_) rfl rfl (by kernel_rfl) (by kernel_rfl) (by kernel_rfl) (fun _ _ _ h => h) (by rfl) ?_ hHeld ?_
          rotate_left
          · intro wq hSw; (try dsimp only at hSw); go_simp; (try with_reducible rfl)
          (try simp only [Act.put, List.setIfInBounds_toArray, List.set_cons_zero, List.set_cons_succ])
          refine take_yes (i := 10) (d := 76) (v := ?_) rfl rfl (by kernel_rfl) (by kernel_rfl) (by kernel_rfl) (fun _ _ _ h => h) (by rfl) ?_ hHeld ?_
          rotate_left
          · intro wq hSw; (try dsimp only at hSw); go_simp; (try with_reducible rfl)
          (try simp only [Act.put, List.setIfInBounds_toArray, List.set_cons_zero, List.set_cons_succ])
          refine take_yes (i := 11) (d := 77) (v := ?_) rfl rfl (by kernel_rfl) (by kernel_rfl) (by kernel_rfl) (fun _ _ _ h => h) (by rfl) ?_ hHeld ?_
          rotate_left
          · intro wq hSw; (try dsimp only at hSw); go_simp; (try with_reducible rfl)
          (try simp only [Act.put, List.setIfInBounds_toArray, List.set_cons_zero, List.set_cons_succ])
          refine take_yes (i := 12) (d := 78) (v := ?_) rfl rfl (by kernel_rfl) (by kernel_rfl) (by kernel_rfl) (fun _ _ _ h => h) (by rfl) ?_ hHeld ?_
          rotate_left
          · intro wq hSw; (try dsimp only at hSw); go_simp; (try with_reducible rfl)
          (try simp only [Act.put, List.setIfInBounds_toArray, List.set_cons_zero, List.set_cons_succ])
          refine take_yes (i := 13) (d := 79) (v := ?_) rfl rfl (by kernel_rfl) (by kernel_rfl) (by kernel_rfl) (fun _ _ _ h => h) (by rfl) ?_ hHeld ?_
          rotate_left
          · intro wq hSw; (try dsimp only at hSw); go_simp; (try with_reducible rfl)
          (try simp only [Act.put, List.setIfInBounds_toArray, List.set_cons_zero, List.set_cons_succ])
          refine take_yes (i := 14) (d := 80) (v := ?_) rfl rfl (by kernel_rfl) (by kernel_rfl) (by kernel_rfl) (fun _ _ _ h => h) (by rfl) ?_ hHeld ?_
          rotate_left
          · intro wq hSw; (try dsimp only at hSw); go_simp; (try with_reducible rfl)
          (try simp only [Act.put, List.setIfInBounds_toArray, List.set_cons_zero, List.set_cons_succ])
          refine wpAnyH_ready (rs := [15]) (by kernel_rfl) (by simp) ?_
          refine AllReadyH.cons rfl (fun K' hK => ?_) AllReadyH.nil
          go_simp
          go_at_call 16
          refine (O2.out _).mono ?_
          rintro e w5 ⟨rfl, hk⟩
          replace K : Kp wr w5 := kp_trans (by repeat (first | (with_reducible exact K) | (with_reducible apply kp_alloc) | (with_reducible apply kp_drew) | (with_reducible apply kp_drewN))) hk
          replace c0 := (BAR.out _ K).1; replace c1 := (BAR.out _ K).2.1; replace c2 := (BAR.out _ K).2.2.1; replace c3 := (BAR.out _ K).2.2.2.1; replace c4 := (BAR.out _ K).2.2.2.2.1; replace c5 := (BAR.out _ K).2.2.2.2.2.1; replace c6 := (BAR.out _ K).2.2.2.2.2.2.1; replace c7 := (BAR.out _ K).2.2.2.2.2.2.2.1; replace q0 := (BAR.out _ K).2.2.2.2.2.2.2.2.1; replace q1 := (BAR.out _ K).2.2.2.2.2.2.2.2.2
          replace l0 : w.heap.size < w5.heap.size := cell_lt c0; replace l2 : w.heap.size + 1 < w5.heap.size := cell_lt c2; replace l4 : w.heap.size + 1 + 1 < w5.heap.size := cell_lt c4; replace l6 : w.heap.size + 1 + 1 + 1 < w5.heap.size := cell_lt c6
          clear hk hHeld
          refine hK.out _ _ ?_ (fun hHeld => ?_)
          · exact ⟨K, c0, c1, c2, c3, c4, c5, c6, c7, q0, q1⟩
          clear hK K'
          (try simp only [Act.put, List.setIfInBounds_toArray, List.set_cons_zero, List.set_cons_succ])
          refine take_yes (i := 16) (d := 82) (v := ?_) rfl rfl (by kernel_rfl) (by kernel_rfl) (by kernel_rfl) (fun _ _ _ h => h) (by rfl) ?_ hHeld ?_
          rotate_left
          · intro wq hSw; (try dsimp only at hSw); go_simp; (try with_reducible rfl)
          (try simp only [Act.put, List.setIfInBounds_toArray, List.set_cons_zero, List.set_cons_succ])
          refine take_yes (i := 17) (d := 83) (v := ?_) rfl rfl (by kernel_rfl) (by kernel_rfl) (by kernel_rfl) (fun _ _ _ h => h) (by rfl) ?_ hHeld ?_
          rotate_left
          · intro wq hSw; (try dsimp only at hSw); go_simp; (try with_reducible rfl)
          (try simp only [Act.put, List.setIfInBounds_toArray, List.set_cons_zero, List.set_cons_succ])
          refine take_yes (i := 18) (d := 84) (v := ?_) rfl rfl (by kernel_rfl) (by kernel_rfl) (by kernel_rfl) (fun _ _ _ h => h) (by rfl) ?_ hHeld ?_
          rotate_left
          · intro wq hSw; (try dsimp only at hSw); go_simp; (try with_reducible rfl)
          (try simp only [Act.put, List.setIfInBounds_toArray, List.set_cons_zero, List.set_cons_succ])
          refine take_yes (i := 19) (d := 85) (v := ?_) rfl rfl (by kernel_rfl) (by kernel_rfl) (by kernel_rfl) (fun _ _ _ h => h) (by rfl) ?_ hHeld ?_
          rotate_left
          · intro wq hSw; (try dsimp only at hSw); go_simp; (try with_reducible rfl)
          (try simp only [Act.put, List.setIfInBounds_toArray, List.set_cons_zero, List.set_cons_succ])
          refine take_yes (i := 20) (d := 86) (v := ?_) rfl rfl (by kernel_rfl) (by kernel_rfl) (by kernel_rfl) (fun _ _ _ h => h) (by rfl) ?_ hHeld ?_
          rotate_left
          · intro wq hSw; (try dsimp only at hSw); go_simp; (try with_reducible rfl)
          (try simp only [Act.put, List.setIfInBounds_toArray, List.set_cons_zero, List.set_cons_succ])
          refine take_yes (i := 21) (d := 87) (v := ?_) rfl rfl (by kernel_rfl) (by kernel_rfl) (by kernel_rfl) (fun _ _ _ h => h) (by rfl) ?_ hHeld ?_
          rotate_left
          · intro wq hSw; (try dsimp only at hSw); go_simp; (try with_reducible rfl)
          (try simp only [Act.put, List.setIfInBounds_toArray, List.set_cons_zero, List.set_cons_succ])
          refine take_yes (i := 22) (d := 88) (v := ?_) rfl rfl (by kernel_rfl) (by kernel_rfl) (by kernel_rfl) (fun _ _ _ h => h) (by rfl) ?_ hHeld ?_
          rotate_left
          · intro wq hSw; (try dsimp only at hSw); go_simp; (try with_reducible rfl)
          (try simp only [Act.put, List.setIfInBounds_toArray, List.set_cons_zero, List.set_cons_succ])
          refine take_yes (i := 23) (d := 89) (v := ?_) rfl rfl (by kernel_rfl) (by kernel_rfl) (by kernel_rfl) (fun _ _ _ h => h) (by rfl) ?_ hHeld ?_
          rotate_left
          · intro wq hSw; (try dsimp only at hSw); go_simp; (try with_reducible rfl)
          (try simp only [Act.put, List.setIfInBounds_toArray, List.set_cons_zero, List.set_cons_succ])
          refine take_yes (i := 24) (d := 90) (v := ?_) rfl rfl (by kernel_rfl) (by kernel_rfl) (by kernel_rfl) (fun _ _ _ h => h) (by rfl) ?_ hHeld ?_
          rotate_left
          · intro wq hSw; (try dsimp only at hSw); go_simp; (try with_reducible rfl)
          (try simp only [Act.put, List.setIfInBounds_toArray, List.set_cons_zero, List.set_cons_succ])
          refine take_yes (i := 25) (d := 91) (v := ?_) rfl rfl (by kernel_rfl) (by kernel_rfl) (by kernel_rfl) (fun _ _ _ h => h) (by rfl) ?_ hHeld ?_
          rotate_left
          · intro wq hSw; (try dsimp only at hSw); go_simp; (try with_reducible rfl)
          (try simp only [Act.put, List.setIfInBounds_toArray, List.set_cons_zero, List.set_cons_succ])
          refine take_yes (i := 26) (d := 92) (v := ?_) rfl rfl (by kernel_rfl) (by kernel_rfl) (by kernel_rfl) (fun _ _ _ h => h) (by rfl) ?_ hHeld ?_
          rotate_left
          · intro wq hSw; (try dsimp only at hSw); go_simp; (try with_reducible rfl)
          (try simp only [Act.put, List.setIfInBounds_toArray, List.set_cons_zero, List.set_cons_succ])
          refine take_yes (i := 27) (d := 93) (v := ?_) rfl rfl (by kernel_rfl) (by kernel_rfl) (by kernel_rfl) (fun _ _ _ h => h) (by rfl) ?_ hHeld ?_
          rotate_left
          · intro wq hSw; (try dsimp only at hSw); go_simp; (try with_reducible rfl)
          (try simp only [Act.put, List.setIfInBounds_toArray, List.set_cons_zero, List.set_cons_succ])
          refine take_yes (i := 28) (d := 94) (v := ?_) rfl rfl (by kernel_rfl) (by kernel_rfl) (by kernel_rfl) (fun _ _ _ h => h) (by rfl) ?_ hHeld ?_
          rotate_left
          · intro wq hSw; (try dsimp only at hSw); go_simp; (try with_reducible rfl)
          (try simp only [Act.put, List.setIfInBounds_toArray, List.set_cons_zero, List.set_cons_succ])
          refine take_yes (i := 29) (d := 95) (v := ?_) rfl rfl (by kernel_rfl) (by kernel_rfl) (by kernel_rfl) (fun _ _ _ h => h) (by rfl) ?_ hHeld ?_
          rotate_left
          · intro wq hSw; (try dsimp only at hSw); go_simp; (try with_reducible rfl)
          (try simp only [Act.put, List.setIfInBounds_toArray, List.set_cons_zero, List.set_cons_succ])
          refine take_yes (i := 30) (d := 96) (v := ?_) rfl rfl (by kernel_rfl) (by kernel_rfl) (by kernel_rfl) (fun _ _ _ h => h) (by rfl) ?_ hHeld ?_
          rotate_left
          · intro wq hSw; (try dsimp only at hSw); go_simp; (try with_reducible rfl)
          (try simp only [Act.put, List.setIfInBounds_toArray, List.set_cons_zero, List.set_cons_succ])
          refine take_yes (i := 31) (d := 97) (v := ?_) rfl rfl (by kernel_rfl) (by kernel_rfl) (by kernel_rfl) (fun _ _ _ h => h) (by rfl) ?_ hHeld ?_
          rotate_left
          · intro wq hSw; (try dsimp only at hSw); go_simp; (try with_reducible rfl)
          (try simp only [Act.put, List.setIfInBounds_toArray, List.set_cons_zero, List.set_cons_succ])
          refine take_yes (i := 32) (d := 98) (v := ?_) rfl rfl (by kernel_rfl) (by kernel_rfl) (by kernel_rfl) (fun _ _ _ h => h) (by rfl) ?_ hHeld ?_
          rotate_left
          · intro wq hSw; (try dsimp only at hSw); go_simp; (try with_reducible rfl)
          (try simp only [Act.put, List.setIfInBounds_toArray, List.set_cons_zero, List.set_cons_succ])
          refine take_yes (i := 33) (d := 99) (v := ?_) rfl rfl (by kernel_rfl) (by kernel_rfl) (by kernel_rfl) (fun _ _ _ h => h) (by rfl) ?_ hHeld ?_
          rotate_left
          · intro wq hSw; (try dsimp only at hSw); go_simp; (try with_reducible rfl)
          (try simp only [Act.put, List.setIfInBounds_toArray, List.set_cons_zero, List.set_cons_succ])
          refine take_yes (i := 34) (d := 100) (v := ?_) rfl rfl (by kernel_rfl) (by kernel_rfl) (by kernel_rfl) (fun _ _ _ h => h) (by rfl) ?_ hHeld ?_
          rotate_left
          · intro wq hSw; (try dsimp only at hSw); go_simp; (try with_reducible rfl)
          (try simp only [Act.put, List.setIfInBounds_toArray, List.set_cons_zero, List.set_cons_succ])
          refine take_yes (i := 35) (d := 101) (v := ?_) rfl rfl (by kernel_rfl) (by kernel_rfl) (by kernel_rfl) (fun _ _ _ h => h) (by rfl) ?_ hHeld ?_
          rotate_left
          · intro wq hSw; (try dsimp only at hSw); go_simp; (try with_reducible rfl)
          (try simp only [Act.put, List.setIfInBounds_toArray, List.set_cons_zero, List.set_cons_succ])
          refine take_yes (i := 36) (d := 102) (v := ?_) rfl rfl (by kernel_rfl) (by kernel_rfl) (by kernel_rfl) (fun _ _ _ h => h) (by rfl) ?_ hHeld ?_
          rotate_left
          · intro wq hSw; (try dsimp only at hSw); go_simp; (try with_reducible rfl)
          (try simp only [Act.put, List.setIfInBounds_toArray, List.set_cons_zero, List.set_cons_succ])
          refine take_yes (i := 37) (d := 103) (v := ?_) rfl rfl (by kernel_rfl) (by kernel_rfl) (by kernel_rfl) (fun _ _ _ h => h) (by rfl) ?_ hHeld ?_
          rotate_left
          · intro wq hSw; (try dsimp only at hSw); go_simp; (try with_reducible rfl)
          (try simp only [Act.put, List.setIfInBounds_toArray, List.set_cons_zero, List.set_cons_succ])
          refine take_yes (i := 38) (d := 104) (v := ?_) rfl rfl (by kernel_rfl) (by kernel_rfl) (by kernel_rfl) (fun _ _ _ h => h) (by rfl) ?_ hHeld ?_
          rotate_left
          · intro wq hSw; (try dsimp only at hSw); go_simp; (try with_reducible rfl)
          (try simp only [Act.put, List.setIfInBounds_toArray, List.set_cons_zero, List.set_cons_succ])
          refine take_yes (i := 39) (d := 105) (v := ?_) rfl rfl (by kernel_rfl) (by kernel_rfl) (by kernel_rfl) (fun _ _ _ h => h) (by rfl) ?_ hHeld ?_
          rotate_left
          · intro wq hSw; (try dsimp only at hSw); go_simp; (try with_reducible rfl)
          (try simp only [Act.put, List.setIfInBounds_toArray, List.set_cons_zero, List.set_cons_succ])
          refine take_yes (i := 40) (d := 106) (v := ?_) rfl rfl (by kernel_rfl) (by kernel_rfl) (by kernel_rfl) (fun _ _ _ h => h) (by rfl) ?_ hHeld ?_
          rotate_left
          · intro wq hSw; (try dsimp only at hSw); go_simp; (try with_reducible rfl)
          (try simp only [Act.put, List.setIfInBounds_toArray, List.set_cons_zero, List.set_cons_succ])
          refine take_yes (i := 41) (d := 107) (v := ?_) rfl rfl (by kernel_rfl) (by kernel_rfl) (by kernel_rfl) (fun _ _ _ h => h) (by rfl) ?_ hHeld ?_
          rotate_left
          · intro wq hSw; (try dsimp only at hSw); go_simp; (try with_reducible rfl)
          (try simp only [Act.put, List.setIfInBounds_toArray, List.set_cons_zero, List.set_cons_succ])
          refine take_yes (i := 42) (d := 108) (v := ?_) rfl rfl (by kernel_rfl) (by kernel_rfl) (by kernel_rfl) (fun _ _ _ h => h) (by rfl) ?_ hHeld ?_
          rotate_left
          · intro wq hSw; (try dsimp only at hSw); go_simp; (try with_reducible rfl)
          (try simp only [Act.put, List.setIfInBounds_toArray, List.set_cons_zero, List.set_cons_succ])
          refine take_yes (i := 43) (d := 109) (v := ?_) rfl rfl (by kernel_rfl) (by kernel_rfl) (by kernel_rfl) (fun _ _ _ h => h) (by rfl) ?_ hHeld ?_
          rotate_left
          · intro wq hSw; (try dsimp only at hSw); go_simp; (try with_reducible rfl)
          (try simp only [Act.put, List.setIfInBounds_toArray, List.set_cons_zero, List.set_cons_succ])
          refine take_yes (i := 44) (d := 110) (v := ?_) rfl rfl (by kernel_rfl) (by kernel_rfl) (by kernel_rfl) (fun _ _ _ h => h) (by rfl) ?_ hHeld ?_
          rotate_left
          · intro wq hSw; (try dsimp only at hSw); go_simp; (try with_reducible rfl)
          (try simp only [Act.put, List.setIfInBounds_toArray, List.set_cons_zero, List.set_cons_succ])
          refine take_yes (i := 45) (d := 111) (v := ?_) rfl rfl (by kernel_rfl) (by kernel_rfl) (by kernel_rfl) (fun _ _ _ h => h) (by rfl) ?_ hHeld ?_
          rotate_left
          · intro wq hSw; (try dsimp only at hSw); go_simp; (try with_reducible rfl)
          (try simp only [Act.put, List.setIfInBounds_toArray, List.set_cons_zero, List.set_cons_succ])
          refine take_yes (i := 46) (d := 112) (v := ?_) rfl rfl (by kernel_rfl) (by kernel_rfl) (by kernel_rfl) (fun _ _ _ h => h) (by rfl) ?_ hHeld ?_
          rotate_left
          · intro wq hSw; (try dsimp only at hSw); go_simp; (try with_reducible rfl)
          (try simp only [Act.put, List.setIfInBounds_toArray, List.set_cons_zero, List.set_cons_succ])
          refine take_yes (i := 47) (d := 113) (v := ?_) rfl rfl (by kernel_rfl) (by kernel_rfl) (by kernel_rfl) (fun _ _ _ h => h) (by rfl) ?_ hHeld ?_
          rotate_left
          · intro wq hSw; (try dsimp only at hSw); go_simp; (try with_reducible rfl)
          (try simp only [Act.put, List.setIfInBounds_toArray, List.set_cons_zero, List.set_cons_succ])
          refine take_yes (i := 48) (d := 114) (v := ?_) rfl rfl (by kernel_rfl) (by kernel_rfl) (by kernel_rfl) (fun _ _ _ h => h) (by rfl) ?_ hHeld ?_
          rotate_left
          · intro wq hSw; (try dsimp only at hSw); go_simp; (try with_reducible rfl)
          (try simp only [Act.put, List.setIfInBounds_toArray, List.set_cons_zero, List.set_cons_succ])
          refine take_yes (i := 49) (d := 115) (v := ?_) rfl rfl (by kernel_rfl) (by kernel_rfl) (by kernel_rfl) (fun _ _ _ h => h) (by rfl) ?_ hHeld ?_
          rotate_left
          · intro wq hSw; (try dsimp only at hSw); go_simp; (try with_reducible rfl)
          (try simp only [Act.put, List.setIfInBounds_toArray, List.set_cons_zero, List.set_cons_succ])
          refine wpAnyH_done (by kernel_rfl) ?_ _
          refine NoPanic.normal ?_
          go_wp2_with fail
          exact ⟨⟨k + 1, by omega, by go_num, HES.out.kp (by repeat (first | (with_reducible exact K) | (with_reducible apply kp_alloc) | (with_reducible apply kp_drew) | (with_reducible apply kp_drewN))), kp_trans HKR.out (by repeat (first | (with_reducible exact K) | (with_reducible apply kp_alloc) | (with_reducible apply kp_drew) | (with_reducible apply kp_drewN)))⟩, by simp [intOf]; omega⟩
      · clear hes
        go_upto_region 17 with fail
        go_region_held3 (fun w' => Kp w1 w' ∧ w'.cell? ⟨w.heap.size, 0, none⟩ = some (.int .i64 ax) ∧ w'.cell? ⟨w.heap.size, 1, none⟩ = some (.int .i64 ay) ∧ w'.cell? ⟨w.heap.size + 1, 0, none⟩ = some (.int .i64 bx) ∧ w'.cell? ⟨w.heap.size + 1, 1, none⟩ = some (.int .i64 bY) ∧ w'.cell? ⟨w.heap.size + 1 + 1, 0, none⟩ = some (.int .i64 cx) ∧ w'.cell? ⟨w.heap.size + 1 + 1, 1, none⟩ = some (.int .i64 cy) ∧ w'.cell? ⟨w.heap.size + 1 + 1 + 1, 0, none⟩ = some (.int .i64 dx) ∧ w'.cell? ⟨w.heap.size + 1 + 1 + 1, 1, none⟩ = some (.int .i64 dy)) ((first | (with_reducible exact ⟨K, c0, c1, c2, c3, c4, c5, c6, c7⟩) | (with_reducible exact ⟨kp_drew K, cell_d c0, cell_d c1, cell_d c2, cell_d c3, cell_d c4, cell_d c5, cell_d c6, cell_d c7⟩) | (with_reducible exact ⟨kp_alloc K _, cell_a c0 _, cell_a c1 _, cell_a c2 _, cell_a c3 _, cell_a c4 _, cell_a c5 _, cell_a c6 _, cell_a c7 _⟩) | (with_reducible exact ⟨kp_alloc (kp_drew K) _, cell_a (cell_d c0) _, cell_a (cell_d c1) _, cell_a (cell_d c2) _, cell_a (cell_d c3) _, cell_a (cell_d c4) _, cell_a (cell_d c5) _, cell_a (cell_d c6) _, cell_a (cell_d c7) _⟩) | (with_reducible exact ⟨kp_drew (kp_alloc K _), cell_d (cell_a c0 _), cell_d (cell_a c1 _), cell_d (cell_a c2 _), cell_d (cell_a c3 _), cell_d (cell_a c4 _), cell_d (cell_a c5 _), cell_d (cell_a c6 _), cell_d (cell_a c7 _)⟩)))
          (first
            | (go_at_call 12; (with_reducible refine (HS.out _).mono ?_); rintro e w5 ⟨v5, rfl, ho⟩; have hk := ho.2; have HO5 := Lib.hid (ho.1.rd (by simp)); (first | (have hpb := PtsAt.kp (ptsAt_two _ _ _ _ _ _ _ rfl) hk; have HPB := Lib.hid hpb; clear hpb) | (have hpb := PtsAt.kp (ptsAt_two _ _ _ _ _ _ _ rfl) (kp_trans (kp_drew (kp_refl _)) hk); have HPB := Lib.hid hpb; clear hpb) | skip); clear ho; replace K : Kp w1 w5 := kp_trans (by repeat (first | (with_reducible exact K) | (with_reducible apply kp_alloc) | (with_reducible apply kp_drew) | (with_reducible apply kp_drewN))) hk; replace c0 := (BAS.out _ K).1; replace c1 := (BAS.out _ K).2.1; replace c2 := (BAS.out _ K).2.2.1; replace c3 := (BAS.out _ K).2.2.2.1; replace c4 := (BAS.out _ K).2.2.2.2.1; replace c5 := (BAS.out _ K).2.2.2.2.2.1; replace c6 := (BAS.out _ K).2.2.2.2.2.2.1; replace c7 := (BAS.out _ K).2.2.2.2.2.2.2; replace l0 : w.heap.size < w5.heap.size := cell_lt c0; replace l2 : w.heap.size + 1 < w5.heap.size := cell_lt c2; replace l4 : w.heap.size + 1 + 1 < w5.heap.size := cell_lt c4; replace l6 : w.heap.size + 1 + 1 + 1 < w5.heap.size := cell_lt c6; clear hk)
            | (go_at_call 11; (with_reducible refine (same_two v5 _ _ (ax, ay) (bx, bY) _ (HO5.out.kp (by repeat (first | (with_reducible exact kp_refl _) | (with_reducible apply kp_alloc) | (with_reducible apply kp_drew) | (with_reducible apply kp_drewN)))) ?_).mono ?_); (focus (first | exact HPB.out | exact ptsAt_two _ _ _ _ _ _ _ rfl)); rintro e w6 ⟨rfl, hk⟩; replace K : Kp w1 w6 := kp_trans (by repeat (first | (with_reducible exact K) | (with_reducible apply kp_alloc) | (with_reducible apply kp_drew) | (with_reducible apply kp_drewN))) hk; replace c0 := (BAS.out _ K).1; replace c1 := (BAS.out _ K).2.1; replace c2 := (BAS.out _ K).2.2.1; replace c3 := (BAS.out _ K).2.2.2.1; replace c4 := (BAS.out _ K).2.2.2.2.1; replace c5 := (BAS.out _ K).2.2.2.2.2.1; replace c6 := (BAS.out _ K).2.2.2.2.2.2.1; replace c7 := (BAS.out _ K).2.2.2.2.2.2.2; replace l0 : w.heap.size < w6.heap.size := cell_lt c0; replace l2 : w.heap.size + 1 < w6.heap.size := cell_lt c2; replace l4 : w.heap.size + 1 + 1 < w6.heap.size := cell_lt c4; replace l6 : w.heap.size + 1 + 1 + 1 < w6.heap.size := cell_lt c6; clear hk))
        all_goals
          go_wp2_with fail
          go_ret
          exact ⟨rfl, kp_trans KW1.out (by repeat (first | (with_reducible exact K) | (with_reducible apply kp_alloc) | (with_reducible apply kp_drew) | (with_reducible apply kp_drewN)))⟩
set_option maxHeartbeats 8000000 in
set_option maxRecDepth 100000 in
theorem cends_2 (ax ay bx bY cx cy dx dy : Int) (h1 : may (ax, ay) (bx, bY) = true) (h2 : may (cx, cy) (dx, dy) = true) (L : List Pt) (hn : L.length = 0) (m1 : meets (ax, ay) (bx, bY) (cx, cy) (dx, dy) = 2) (hL : ends (ax, ay) (bx, bY) (cx, cy) (dx, dy) = L) (w : World) : Calls Try.prog 4 #[pv ax ay, pv bx bY, pv cx cy, pv dx dy] w fun e w' => e = .returned (.bool true) ∧ Kp w w' := by
  have m2 := meets_self h1
  have m3 := meets_self' h1
  have q1 := fun w => meets_any ax ay bx bY cx cy dx dy w
  have q2 := fun w => meets_any ax ay bx bY ax ay bx bY w
  have q3 := fun w => meets_any ax ay bx bY bx bY ax ay w
  rw [m1] at q1; rw [m2] at q2; rw [m3] at q3
  have q4 := fun w => ends_any ax ay bx bY cx cy dx dy w
  have q5 := fun w => ends_any ax ay bx bY ax ay bx bY w
  rw [hL] at q4; rw [ends_self h1] at q5
  have M1 := Lib.hid q1; have M2 := Lib.hid q2; have M3 := Lib.hid q3; have HE := Lib.hid q4; have HS := Lib.hid q5
  have HN := Lib.hid hn
  have HM : Hid (∀ i (hi : i < L.length), (L[i] = (ax, ay) ∨ L[i] = (bx, bY) ∨ L[i] = (cx, cy) ∨ L[i] = (dx, dy)) ∧ onS L[i] (ax, ay) (bx, bY) = true ∧ onS L[i] (cx, cy) (dx, dy) = true) := Lib.hid (fun i hi => (mem_ends h1 h2).1 (by rw [hL]; exact List.getElem_mem hi))
  have he := run_eqPt
  clear m1 m2 m3 q1 q2 q3 q4 q5 hn hL
  go_enter Try.func4, Try.ntmps4
  go_upto_region 2 with (go_at_call 14; refine (awake08_any _).mono ?_; rintro e w1 ⟨rfl, hk⟩; have c0 : w1.cell? ⟨w.heap.size, 0, none⟩ = some (.int .i64 ax) := kp_cell hk (by simp [go_sem]); have c1 : w1.cell? ⟨w.heap.size, 1, none⟩ = some (.int .i64 ay) := kp_cell hk (by simp [go_sem]); have c2 : w1.cell? ⟨w.heap.size + 1, 0, none⟩ = some (.int .i64 bx) := kp_cell hk (by simp [go_sem]); have c3 : w1.cell? ⟨w.heap.size + 1, 1, none⟩ = some (.int .i64 bY) := kp_cell hk (by simp [go_sem]); have c4 : w1.cell? ⟨w.heap.size + 1 + 1, 0, none⟩ = some (.int .i64 cx) := kp_cell hk (by simp [go_sem]); have c5 : w1.cell? ⟨w.heap.size + 1 + 1, 1, none⟩ = some (.int .i64 cy) := kp_cell hk (by simp [go_sem]); have c6 : w1.cell? ⟨w.heap.size + 1 + 1 + 1, 0, none⟩ = some (.int .i64 dx) := kp_cell hk (by simp [go_sem]); have c7 : w1.cell? ⟨w.heap.size + 1 + 1 + 1, 1, none⟩ = some (.int .i64 dy) := kp_cell hk (by simp [go_sem]); have K : Kp w w1 := kp_trans (by repeat (first | exact kp_refl _ | apply kp_alloc | apply kp_drew)) hk; have l0 : w.heap.size < w1.heap.size := cell_lt c0; have l2 : w.heap.size + 1 < w1.heap.size := cell_lt c2; have l4 : w.heap.size + 1 + 1 < w1.heap.size := cell_lt c4; have l6 : w.heap.size + 1 + 1 + 1 < w1.heap.size := cell_lt c6; clear hk)
  have KW1 := Lib.hid K
  have BAS := Lib.hid (show ∀ W, Kp w1 W → (W.cell? ⟨w.heap.size, 0, none⟩ = some (.int .i64 ax) ∧ W.cell? ⟨w.heap.size, 1, none⟩ = some (.int .i64 ay) ∧ W.cell? ⟨w.heap.size + 1, 0, none⟩ = some (.int .i64 bx) ∧ W.cell? ⟨w.heap.size + 1, 1, none⟩ = some (.int .i64 bY) ∧ W.cell? ⟨w.heap.size + 1 + 1, 0, none⟩ = some (.int .i64 cx) ∧ W.cell? ⟨w.heap.size + 1 + 1, 1, none⟩ = some (.int .i64 cy) ∧ W.cell? ⟨w.heap.size + 1 + 1 + 1, 0, none⟩ = some (.int .i64 dx) ∧ W.cell? ⟨w.heap.size + 1 + 1 + 1, 1, none⟩ = some (.int .i64 dy)) from fun W k => ⟨kp_cell k c0, kp_cell k c1, kp_cell k c2, kp_cell k c3, kp_cell k c4, kp_cell k c5, kp_cell k c6, kp_cell k c7⟩); have K : Kp w1 w1 := kp_refl _
  go_upto_region 4 with (go_at_call 15; (with_reducible refine (may08_any _ _ _ _ _).mono ?_); rintro e w4 ⟨rfl, hk⟩; replace K : Kp w1 w4 := kp_trans (by repeat (first | (with_reducible exact K) | (with_reducible apply kp_alloc) | (with_reducible apply kp_drew) | (with_reducible apply kp_drewN))) hk; replace c0 := (BAS.out _ K).1; replace c1 := (BAS.out _ K).2.1; replace c2 := (BAS.out _ K).2.2.1; replace c3 := (BAS.out _ K).2.2.2.1; replace c4 := (BAS.out _ K).2.2.2.2.1; replace c5 := (BAS.out _ K).2.2.2.2.2.1; replace c6 := (BAS.out _ K).2.2.2.2.2.2.1; replace c7 := (BAS.out _ K).2.2.2.2.2.2.2; replace l0 : w.heap.size < w4.heap.size := cell_lt c0; replace l2 : w.heap.size + 1 < w4.heap.size := cell_lt c2; replace l4 : w.heap.size + 1 + 1 < w4.heap.size := cell_lt c4; replace l6 : w.heap.size + 1 + 1 + 1 < w4.heap.size := cell_lt c6; clear hk)
  go_cut [10, 11] (fun s t wx => s = .int .i64 2 ∧ (∃ sa sc, t = .slice sa 0 sc ∧ EndsAt wx sa L) ∧ Kp w1 wx)
  case first =>
    go_region_held3 (fun w' => Kp w1 w' ∧ w'.cell? ⟨w.heap.size, 0, none⟩ = some (.int .i64 ax) ∧ w'.cell? ⟨w.heap.size, 1, none⟩ = some (.int .i64 ay) ∧ w'.cell? ⟨w.heap.size + 1, 0, none⟩ = some (.int .i64 bx) ∧ w'.cell? ⟨w.heap.size + 1, 1, none⟩ = some (.int .i64 bY) ∧ w'.cell? ⟨w.heap.size + 1 + 1, 0, none⟩ = some (.int .i64 cx) ∧ w'.cell? ⟨w.heap.size + 1 + 1, 1, none⟩ = some (.int .i64 cy) ∧ w'.cell? ⟨w.heap.size + 1 + 1 + 1, 0, none⟩ = some (.int .i64 dx) ∧ w'.cell? ⟨w.heap.size + 1 + 1 + 1, 1, none⟩ = some (.int .i64 dy)) ((first | (with_reducible exact ⟨K, c0, c1, c2, c3, c4, c5, c6, c7⟩) | (with_reducible exact ⟨kp_drew K, cell_d c0, cell_d c1, cell_d c2, cell_d c3, cell_d c4, cell_d c5, cell_d c6, cell_d c7⟩) | (with_reducible exact ⟨kp_alloc K _, cell_a c0 _, cell_a c1 _, cell_a c2 _, cell_a c3 _, cell_a c4 _, cell_a c5 _, cell_a c6 _, cell_a c7 _⟩) | (with_reducible exact ⟨kp_alloc (kp_drew K) _, cell_a (cell_d c0) _, cell_a (cell_d c1) _, cell_a (cell_d c2) _, cell_a (cell_d c3) _, cell_a (cell_d c4) _, cell_a (cell_d c5) _, cell_a (cell_d c6) _, cell_a (cell_d c7) _⟩) | (with_reducible exact ⟨kp_drew (kp_alloc K _), cell_d (cell_a c0 _), cell_d (cell_a c1 _), cell_d (cell_a c2 _), cell_d (cell_a c3 _), cell_d (cell_a c4 _), cell_d (cell_a c5 _), cell_d (cell_a c6 _), cell_d (cell_a c7 _)⟩)))
      (first
        | (go_at_call 9; (with_reducible refine (M1.out _).mono ?_); rintro e w4 ⟨rfl, hk⟩; (try replace HES := Lib.hid (HES.out.kp (kp_trans (by repeat (first | (with_reducible exact kp_refl _) | (with_reducible apply kp_alloc) | (with_reducible apply kp_drew) | (with_reducible apply kp_drewN))) hk))); replace K : Kp w1 w4 := kp_trans (by repeat (first | (with_reducible exact K) | (with_reducible apply kp_alloc) | (with_reducible apply kp_drew) | (with_reducible apply kp_drewN))) hk; replace c0 := (BAS.out _ K).1; replace c1 := (BAS.out _ K).2.1; replace c2 := (BAS.out _ K).2.2.1; replace c3 := (BAS.out _ K).2.2.2.1; replace c4 := (BAS.out _ K).2.2.2.2.1; replace c5 := (BAS.out _ K).2.2.2.2.2.1; replace c6 := (BAS.out _ K).2.2.2.2.2.2.1; replace c7 := (BAS.out _ K).2.2.2.2.2.2.2; replace l0 : w.heap.size < w4.heap.size := cell_lt c0; replace l2 : w.heap.size + 1 < w4.heap.size := cell_lt c2; replace l4 : w.heap.size + 1 + 1 < w4.heap.size := cell_lt c4; replace l6 : w.heap.size + 1 + 1 + 1 < w4.heap.size := cell_lt c6; clear hk)
        | (go_at_call 12; (with_reducible refine (HE.out _).mono ?_); rintro e w5 ⟨v3, rfl, ho⟩; obtain ⟨sa, sc, rfl, hes⟩ := endsAt_of ho.1 (by rw [HN.out]; decide); rw [HN.out]; have HES := Lib.hid hes; have hk := ho.2; clear ho hes; replace K : Kp w1 w5 := kp_trans (by repeat (first | (with_reducible exact K) | (with_reducible apply kp_alloc) | (with_reducible apply kp_drew) | (with_reducible apply kp_drewN))) hk; replace c0 := (BAS.out _ K).1; replace c1 := (BAS.out _ K).2.1; replace c2 := (BAS.out _ K).2.2.1; replace c3 := (BAS.out _ K).2.2.2.1; replace c4 := (BAS.out _ K).2.2.2.2.1; replace c5 := (BAS.out _ K).2.2.2.2.2.1; replace c6 := (BAS.out _ K).2.2.2.2.2.2.1; replace c7 := (BAS.out _ K).2.2.2.2.2.2.2; replace l0 : w.heap.size < w5.heap.size := cell_lt c0; replace l2 : w.heap.size + 1 < w5.heap.size := cell_lt c2; replace l4 : w.heap.size + 1 + 1 < w5.heap.size := cell_lt c4; replace l6 : w.heap.size + 1 + 1 + 1 < w5.heap.size := cell_lt c6; clear hk))
    all_goals
      go_wp2_with fail
      go_meet
      exact ⟨rfl, ⟨_, _, rfl, HES.out.kp (by repeat (first | (with_reducible exact kp_refl _) | (with_reducible apply kp_alloc) | (with_reducible apply kp_drew) | (with_reducible apply kp_drewN)))⟩, (by repeat (first | (with_reducible exact K) | (with_reducible apply kp_alloc) | (with_reducible apply kp_drew) | (with_reducible apply kp_drewN)))⟩
  case rest =>
    clear K c0 c1 c2 c3 c4 c5 c6 c7 l0 l2 l4 l6
    obtain ⟨rfl, ⟨sa, sc, rfl, hes⟩, K⟩ := hcut
    have HES := Lib.hid hes; clear hes
    have c0 := (BAS.out _ K).1; have c1 := (BAS.out _ K).2.1; have c2 := (BAS.out _ K).2.2.1; have c3 := (BAS.out _ K).2.2.2.1; have c4 := (BAS.out _ K).2.2.2.2.1; have c5 := (BAS.out _ K).2.2.2.2.2.1; have c6 := (BAS.out _ K).2.2.2.2.2.2.1; have c7 := (BAS.out _ K).2.2.2.2.2.2.2; have l0 : w.heap.size < wc.heap.size := cell_lt c0; have l2 : w.heap.size + 1 < wc.heap.size := cell_lt c2; have l4 : w.heap.size + 1 + 1 < wc.heap.size := cell_lt c4; have l6 : w.heap.size + 1 + 1 + 1 < wc.heap.size := cell_lt c6
    go_wp2_with (first
      | (go_at_call 9; (with_reducible refine (M2.out _).mono ?_); rintro e w4 ⟨rfl, hk⟩; replace HES := Lib.hid (HES.out.kp (kp_trans (by repeat (first | (with_reducible exact kp_refl _) | (with_reducible apply kp_alloc) | (with_reducible apply kp_drew) | (with_reducible apply kp_drewN))) hk)); replace K : Kp w1 w4 := kp_trans (by repeat (first | (with_reducible exact K) | (with_reducible apply kp_alloc) | (with_reducible apply kp_drew) | (with_reducible apply kp_drewN))) hk; replace c0 := (BAS.out _ K).1; replace c1 := (BAS.out _ K).2.1; replace c2 := (BAS.out _ K).2.2.1; replace c3 := (BAS.out _ K).2.2.2.1; replace c4 := (BAS.out _ K).2.2.2.2.1; replace c5 := (BAS.out _ K).2.2.2.2.2.1; replace c6 := (BAS.out _ K).2.2.2.2.2.2.1; replace c7 := (BAS.out _ K).2.2.2.2.2.2.2; replace l0 : w.heap.size < w4.heap.size := cell_lt c0; replace l2 : w.heap.size + 1 < w4.heap.size := cell_lt c2; replace l4 : w.heap.size + 1 + 1 < w4.heap.size := cell_lt c4; replace l6 : w.heap.size + 1 + 1 + 1 < w4.heap.size := cell_lt c6; clear hk)
      | (go_at_call 9; (with_reducible refine (M3.out _).mono ?_); rintro e w4 ⟨rfl, hk⟩; replace HES := Lib.hid (HES.out.kp (kp_trans (by repeat (first | (with_reducible exact kp_refl _) | (with_reducible apply kp_alloc) | (with_reducible apply kp_drew) | (with_reducible apply kp_drewN))) hk)); replace K : Kp w1 w4 := kp_trans (by repeat (first | (with_reducible exact K) | (with_reducible apply kp_alloc) | (with_reducible apply kp_drew) | (with_reducible apply kp_drewN))) hk; replace c0 := (BAS.out _ K).1; replace c1 := (BAS.out _ K).2.1; replace c2 := (BAS.out _ K).2.2.1; replace c3 := (BAS.out _ K).2.2.2.1; replace c4 := (BAS.out _ K).2.2.2.2.1; replace c5 := (BAS.out _ K).2.2.2.2.2.1; replace c6 := (BAS.out _ K).2.2.2.2.2.2.1; replace c7 := (BAS.out _ K).2.2.2.2.2.2.2; replace l0 : w.heap.size < w4.heap.size := cell_lt c0; replace l2 : w.heap.size + 1 < w4.heap.size := cell_lt c2; replace l4 : w.heap.size + 1 + 1 < w4.heap.size := cell_lt c4; replace l6 : w.heap.size + 1 + 1 + 1 < w4.heap.size := cell_lt c6; clear hk))
    go_loopw [13] (fun i wr => ∃ k : Nat, k ≤ 0 ∧ i = .int .i64 k ∧ EndsAt wr sa L ∧ Kp w1 wr) (fun i _ => 0 - (intOf i).toNat)
    case atStart => exact ⟨0, by omega, rfl, HES.out, K⟩
    case round =>
      clear K HES c0 c1 c2 c3 c4 c5 c6 c7 l0 l2 l4 l6
      obtain ⟨k, hk, rfl, hes, K⟩ := hrel
      have HES := Lib.hid hes
      have c0 := (BAS.out _ K).1; have c1 := (BAS.out _ K).2.1; have c2 := (BAS.out _ K).2.2.1; have c3 := (BAS.out _ K).2.2.2.1; have c4 := (BAS.out _ K).2.2.2.2.1; have c5 := (BAS.out _ K).2.2.2.2.2.1; have c6 := (BAS.out _ K).2.2.2.2.2.2.1; have c7 := (BAS.out _ K).2.2.2.2.2.2.2; have l0 : w.heap.size < wr.heap.size := cell_lt c0; have l2 : w.heap.size + 1 < wr.heap.size := cell_lt c2; have l4 : w.heap.size + 1 + 1 < wr.heap.size := cell_lt c4; have l6 : w.heap.size + 1 + 1 + 1 < wr.heap.size := cell_lt c6
      by_cases hlt : k < 0
      · omega
      · clear hes
        go_upto_region 17 with fail
        go_region_held3 (fun w' => Kp w1 w' ∧ w'.cell? ⟨w.heap.size, 0, none⟩ = some (.int .i64 ax) ∧ w'.cell? ⟨w.heap.size, 1, none⟩ = some (.int .i64 ay) ∧ w'.cell? ⟨w.heap.size + 1, 0, none⟩ = some (.int .i64 bx) ∧ w'.cell? ⟨w.heap.size + 1, 1, none⟩ = some (.int .i64 bY) ∧ w'.cell? ⟨w.heap.size + 1 + 1, 0, none⟩ = some (.int .i64 cx) ∧ w'.cell? ⟨w.heap.size + 1 + 1, 1, none⟩ = some (.int .i64 cy) ∧ w'.cell? ⟨w.heap.size + 1 + 1 + 1, 0, none⟩ = some (.int .i64 dx) ∧ w'.cell? ⟨w.heap.size + 1 + 1 + 1, 1, none⟩ = some (.int .i64 dy)) ((first | (with_reducible exact ⟨K, c0, c1, c2, c3, c4, c5, c6, c7⟩) | (with_reducible exact ⟨kp_drew K, cell_d c0, cell_d c1, cell_d c2, cell_d c3, cell_d c4, cell_d c5, cell_d c6, cell_d c7⟩) | (with_reducible exact ⟨kp_alloc K _, cell_a c0 _, cell_a c1 _, cell_a c2 _, cell_a c3 _, cell_a c4 _, cell_a c5 _, cell_a c6 _, cell_a c7 _⟩) | (with_reducible exact ⟨kp_alloc (kp_drew K) _, cell_a (cell_d c0) _, cell_a (cell_d c1) _, cell_a (cell_d c2) _, cell_a (cell_d c3) _, cell_a (cell_d c4) _, cell_a (cell_d c5) _, cell_a (cell_d c6) _, cell_a (cell_d c7) _⟩) | (with_reducible exact ⟨kp_drew (kp_alloc K _), cell_d (cell_a c0 _), cell_d (cell_a c1 _), cell_d (cell_a c2 _), cell_d (cell_a c3 _), cell_d (cell_a c4 _), cell_d (cell_a c5 _), cell_d (cell_a c6 _), cell_d (cell_a c7 _)⟩)))
          (first
            | (go_at_call 12; (with_reducible refine (HS.out _).mono ?_); rintro e w5 ⟨v5, rfl, ho⟩; have hk := ho.2; have HO5 := Lib.hid (ho.1.rd (by simp)); (first | (have hpb := PtsAt.kp (ptsAt_two _ _ _ _ _ _ _ rfl) hk; have HPB := Lib.hid hpb; clear hpb) | (have hpb := PtsAt.kp (ptsAt_two _ _ _ _ _ _ _ rfl) (kp_trans (kp_drew (kp_refl _)) hk); have HPB := Lib.hid hpb; clear hpb) | skip); clear ho; replace K : Kp w1 w5 := kp_trans (by repeat (first | (with_reducible exact K) | (with_reducible apply kp_alloc) | (with_reducible apply kp_drew) | (with_reducible apply kp_drewN))) hk; replace c0 := (BAS.out _ K).1; replace c1 := (BAS.out _ K).2.1; replace c2 := (BAS.out _ K).2.2.1; replace c3 := (BAS.out _ K).2.2.2.1; replace c4 := (BAS.out _ K).2.2.2.2.1; replace c5 := (BAS.out _ K).2.2.2.2.2.1; replace c6 := (BAS.out _ K).2.2.2.2.2.2.1; replace c7 := (BAS.out _ K).2.2.2.2.2.2.2; replace l0 : w.heap.size < w5.heap.size := cell_lt c0; replace l2 : w.heap.size + 1 < w5.heap.size := cell_lt c2; replace l4 : w.heap.size + 1 + 1 < w5.heap.size := cell_lt c4; replace l6 : w.heap.size + 1 + 1 + 1 < w5.heap.size := cell_lt c6; clear hk)
            | (go_at_call 11; (with_reducible refine (same_two v5 _ _ (ax, ay) (bx, bY) _ (HO5.out.kp (by repeat (first | (with_reducible exact kp_refl _) | (with_reducible apply kp_alloc) | (with_reducible apply kp_drew) | (with_reducible apply kp_drewN)))) ?_).mono ?_); (focus (first | exact HPB.out | exact ptsAt_two _ _ _ _ _ _ _ rfl)); rintro e w6 ⟨rfl, hk⟩; replace K : Kp w1 w6 := kp_trans (by repeat (first | (with_reducible exact K) | (with_reducible apply kp_alloc) | (with_reducible apply kp_drew) | (with_reducible apply kp_drewN))) hk; replace c0 := (BAS.out _ K).1; replace c1 := (BAS.out _ K).2.1; replace c2 := (BAS.out _ K).2.2.1; replace c3 := (BAS.out _ K).2.2.2.1; replace c4 := (BAS.out _ K).2.2.2.2.1; replace c5 := (BAS.out _ K).2.2.2.2.2.1; replace c6 := (BAS.out _ K).2.2.2.2.2.2.1; replace c7 := (BAS.out _ K).2.2.2.2.2.2.2; replace l0 : w.heap.size < w6.heap.size := cell_lt c0; replace l2 : w.heap.size + 1 < w6.heap.size := cell_lt c2; replace l4 : w.heap.size + 1 + 1 < w6.heap.size := cell_lt c4; replace l6 : w.heap.size + 1 + 1 + 1 < w6.heap.size := cell_lt c6; clear hk))
        all_goals
          go_wp2_with fail
          go_ret
          exact ⟨rfl, kp_trans KW1.out (by repeat (first | (with_reducible exact K) | (with_reducible apply kp_alloc) | (with_reducible apply kp_drew) | (with_reducible apply kp_drewN)))⟩
set_option maxHeartbeats 8000000 in
set_option maxRecDepth 100000 in
theorem cends_3 (ax ay bx bY cx cy dx dy : Int) (h1 : may (ax, ay) (bx, bY) = true) (h2 : may (cx, cy) (dx, dy) = true) (L : List Pt) (hn : L.length = 2) (m1 : meets (ax, ay) (bx, bY) (cx, cy) (dx, dy) = 3) (hL : ends (ax, ay) (bx, bY) (cx, cy) (dx, dy) = L) (w : World) : Calls Try.prog 4 #[pv ax ay, pv bx bY, pv cx cy, pv dx dy] w fun e w' => e = .returned (.bool true) ∧ Kp w w' := by
  have m2 := meets_self h1
  have m3 := meets_self' h1
  have q1 := fun w => meets_any ax ay bx bY cx cy dx dy w
  have q2 := fun w => meets_any ax ay bx bY ax ay bx bY w
  have q3 := fun w => meets_any ax ay bx bY bx bY ax ay w
  rw [m1] at q1; rw [m2] at q2; rw [m3] at q3
  have q4 := fun w => ends_any ax ay bx bY cx cy dx dy w
  have q5 := fun w => ends_any ax ay bx bY ax ay bx bY w
  rw [hL] at q4; rw [ends_self h1] at q5
  have M1 := Lib.hid q1; have M2 := Lib.hid q2; have M3 := Lib.hid q3; have HE := Lib.hid q4; have HS := Lib.hid q5
  have HN := Lib.hid hn
  have HM : Hid (∀ i (hi : i < L.length), (L[i] = (ax, ay) ∨ L[i] = (bx, bY) ∨ L[i] = (cx, cy) ∨ L[i] = (dx, dy)) ∧ onS L[i] (ax, ay) (bx, bY) = true ∧ onS L[i] (cx, cy) (dx, dy) = true) := Lib.hid (fun i hi => (mem_ends h1 h2).1 (by rw [hL]; exact List.getElem_mem hi))
  have he := run_eqPt
  clear m1 m2 m3 q1 q2 q3 q4 q5 hn hL
  go_enter Try.func4, Try.ntmps4
  go_upto_region 2 with (go_at_call 14; refine (awake08_any _).mono ?_; rintro e w1 ⟨rfl, hk⟩; have c0 : w1.cell? ⟨w.heap.size, 0, none⟩ = some (.int .i64 ax) := kp_cell hk (by simp [go_sem]); have c1 : w1.cell? ⟨w.heap.size, 1, none⟩ = some (.int .i64 ay) := kp_cell hk (by simp [go_sem]); have c2 : w1.cell? ⟨w.heap.size + 1, 0, none⟩ = some (.int .i64 bx) := kp_cell hk (by simp [go_sem]); have c3 : w1.cell? ⟨w.heap.size + 1, 1, none⟩ = some (.int .i64 bY) := kp_cell hk (by simp [go_sem]); have c4 : w1.cell? ⟨w.heap.size + 1 + 1, 0, none⟩ = some (.int .i64 cx) := kp_cell hk (by simp [go_sem]); have c5 : w1.cell? ⟨w.heap.size + 1 + 1, 1, none⟩ = some (.int .i64 cy) := kp_cell hk (by simp [go_sem]); have c6 : w1.cell? ⟨w.heap.size + 1 + 1 + 1, 0, none⟩ = some (.int .i64 dx) := kp_cell hk (by simp [go_sem]); have c7 : w1.cell? ⟨w.heap.size + 1 + 1 + 1, 1, none⟩ = some (.int .i64 dy) := kp_cell hk (by simp [go_sem]); have K : Kp w w1 := kp_trans (by repeat (first | exact kp_refl _ | apply kp_alloc | apply kp_drew)) hk; have l0 : w.heap.size < w1.heap.size := cell_lt c0; have l2 : w.heap.size + 1 < w1.heap.size := cell_lt c2; have l4 : w.heap.size + 1 + 1 < w1.heap.size := cell_lt c4; have l6 : w.heap.size + 1 + 1 + 1 < w1.heap.size := cell_lt c6; clear hk)
  have KW1 := Lib.hid K
  have BAS := Lib.hid (show ∀ W, Kp w1 W → (W.cell? ⟨w.heap.size, 0, none⟩ = some (.int .i64 ax) ∧ W.cell? ⟨w.heap.size, 1, none⟩ = some (.int .i64 ay) ∧ W.cell? ⟨w.heap.size + 1, 0, none⟩ = some (.int .i64 bx) ∧ W.cell? ⟨w.heap.size + 1, 1, none⟩ = some (.int .i64 bY) ∧ W.cell? ⟨w.heap.size + 1 + 1, 0, none⟩ = some (.int .i64 cx) ∧ W.cell? ⟨w.heap.size + 1 + 1, 1, none⟩ = some (.int .i64 cy) ∧ W.cell? ⟨w.heap.size + 1 + 1 + 1, 0, none⟩ = some (.int .i64 dx) ∧ W.cell? ⟨w.heap.size + 1 + 1 + 1, 1, none⟩ = some (.int .i64 dy)) from fun W k => ⟨kp_cell k c0, kp_cell k c1, kp_cell k c2, kp_cell k c3, kp_cell k c4, kp_cell k c5, kp_cell k c6, kp_cell k c7⟩); have K : Kp w1 w1 := kp_refl _
  go_upto_region 4 with (go_at_call 15; (with_reducible refine (may08_any _ _ _ _ _).mono ?_); rintro e w4 ⟨rfl, hk⟩; replace K : Kp w1 w4 := kp_trans (by repeat (first | (with_reducible exact K) | (with_reducible apply kp_alloc) | (with_reducible apply kp_drew) | (with_reducible apply kp_drewN))) hk; replace c0 := (BAS.out _ K).1; replace c1 := (BAS.out _ K).2.1; replace c2 := (BAS.out _ K).2.2.1; replace c3 := (BAS.out _ K).2.2.2.1; replace c4 := (BAS.out _ K).2.2.2.2.1; replace c5 := (BAS.out _ K).2.2.2.2.2.1; replace c6 := (BAS.out _ K).2.2.2.2.2.2.1; replace c7 := (BAS.out _ K).2.2.2.2.2.2.2; replace l0 : w.heap.size < w4.heap.size := cell_lt c0; replace l2 : w.heap.size + 1 < w4.heap.size := cell_lt c2; replace l4 : w.heap.size + 1 + 1 < w4.heap.size := cell_lt c4; replace l6 : w.heap.size + 1 + 1 + 1 < w4.heap.size := cell_lt c6; clear hk)
  go_cut [10, 11] (fun s t wx => s = .int .i64 3 ∧ (∃ sa sc, t = .slice sa 2 sc ∧ EndsAt wx sa L) ∧ Kp w1 wx)
  case first =>
    go_region_held3 (fun w' => Kp w1 w' ∧ w'.cell? ⟨w.heap.size, 0, none⟩ = some (.int .i64 ax) ∧ w'.cell? ⟨w.heap.size, 1, none⟩ = some (.int .i64 ay) ∧ w'.cell? ⟨w.heap.size + 1, 0, none⟩ = some (.int .i64 bx) ∧ w'.cell? ⟨w.heap.size + 1, 1, none⟩ = some (.int .i64 bY) ∧ w'.cell? ⟨w.heap.size + 1 + 1, 0, none⟩ = some (.int .i64 cx) ∧ w'.cell? ⟨w.heap.size + 1 + 1, 1, none⟩ = some (.int .i64 cy) ∧ w'.cell? ⟨w.heap.size + 1 + 1 + 1, 0, none⟩ = some (.int .i64 dx) ∧ w'.cell? ⟨w.heap.size + 1 + 1 + 1, 1, none⟩ = some (.int .i64 dy)) ((first | (with_reducible exact ⟨K, c0, c1, c2, c3, c4, c5, c6, c7⟩) | (with_reducible exact ⟨kp_drew K, cell_d c0, cell_d c1, cell_d c2, cell_d c3, cell_d c4, cell_d c5, cell_d c6, cell_d c7⟩) | (with_reducible exact ⟨kp_alloc K _, cell_a c0 _, cell_a c1 _, cell_a c2 _, cell_a c3 _, cell_a c4 _, cell_a c5 _, cell_a c6 _, cell_a c7 _⟩) | (with_reducible exact ⟨kp_alloc (kp_drew K) _, cell_a (cell_d c0) _, cell_a (cell_d c1) _, cell_a (cell_d c2) _, cell_a (cell_d c3) _, cell_a (cell_d c4) _, cell_a (cell_d c5) _, cell_a (cell_d c6) _, cell_a (cell_d c7) _⟩) | (with_reducible exact ⟨kp_drew (kp_alloc K _), cell_d (cell_a c0 _), cell_d (cell_a c1 _), cell_d (cell_a c2 _), cell_d (cell_a c3 _), cell_d (cell_a c4 _), cell_d (cell_a c5 _), cell_d (cell_a c6 _), cell_d (cell_a c7 _)⟩)))
      (first
        | (go_at_call 9; (with_reducible refine (M1.out _).mono ?_); rintro e w4 ⟨rfl, hk⟩; (try replace HES := Lib.hid (HES.out.kp (kp_trans (by repeat (first | (with_reducible exact kp_refl _) | (with_reducible apply kp_alloc) | (with_reducible apply kp_drew) | (with_reducible apply kp_drewN))) hk))); replace K : Kp w1 w4 := kp_trans (by repeat (first | (with_reducible exact K) | (with_reducible apply kp_alloc) | (with_reducible apply kp_drew) | (with_reducible apply kp_drewN))) hk; replace c0 := (BAS.out _ K).1; replace c1 := (BAS.out _ K).2.1; replace c2 := (BAS.out _ K).2.2.1; replace c3 := (BAS.out _ K).2.2.2.1; replace c4 := (BAS.out _ K).2.2.2.2.1; replace c5 := (BAS.out _ K).2.2.2.2.2.1; replace c6 := (BAS.out _ K).2.2.2.2.2.2.1; replace c7 := (BAS.out _ K).2.2.2.2.2.2.2; replace l0 : w.heap.size < w4.heap.size := cell_lt c0; replace l2 : w.heap.size + 1 < w4.heap.size := cell_lt c2; replace l4 : w.heap.size + 1 + 1 < w4.heap.size := cell_lt c4; replace l6 : w.heap.size + 1 + 1 + 1 < w4.heap.size := cell_lt c6; clear hk)
        | (go_at_call 12; (with_reducible refine (HE.out _).mono ?_); rintro e w5 ⟨v3, rfl, ho⟩; obtain ⟨sa, sc, rfl, hes⟩ := endsAt_of ho.1 (by rw [HN.out]; decide); rw [HN.out]; have HES := Lib.hid hes; have hk := ho.2; clear ho hes; replace K : Kp w1 w5 := kp_trans (by repeat (first | (with_reducible exact K) | (with_reducible apply kp_alloc) | (with_reducible apply kp_drew) | (with_reducible apply kp_drewN))) hk; replace c0 := (BAS.out _ K).1; replace c1 := (BAS.out _ K).2.1; replace c2 := (BAS.out _ K).2.2.1; replace c3 := (BAS.out _ K).2.2.2.1; replace c4 := (BAS.out _ K).2.2.2.2.1; replace c5 := (BAS.out _ K).2.2.2.2.2.1; replace c6 := (BAS.out _ K).2.2.2.2.2.2.1; replace c7 := (BAS.out _ K).2.2.2.2.2.2.2; replace l0 : w.heap.size < w5.heap.size := cell_lt c0; replace l2 : w.heap.size + 1 < w5.heap.size := cell_lt c2; replace l4 : w.heap.size + 1 + 1 < w5.heap.size := cell_lt c4; replace l6 : w.heap.size + 1 + 1 + 1 < w5.heap.size := cell_lt c6; clear hk))
    all_goals
      go_wp2_with fail
      go_meet
      exact ⟨rfl, ⟨_, _, rfl, HES.out.kp (by repeat (first | (with_reducible exact kp_refl _) | (with_reducible apply kp_alloc) | (with_reducible apply kp_drew) | (with_reducible apply kp_drewN)))⟩, (by repeat (first | (with_reducible exact K) | (with_reducible apply kp_alloc) | (with_reducible apply kp_drew) | (with_reducible apply kp_drewN)))⟩
  case rest =>
    clear K c0 c1 c2 c3 c4 c5 c6 c7 l0 l2 l4 l6
    obtain ⟨rfl, ⟨sa, sc, rfl, hes⟩, K⟩ := hcut
    have HES := Lib.hid hes; clear hes
    have c0 := (BAS.out _ K).1; have c1 := (BAS.out _ K).2.1; have c2 := (BAS.out _ K).2.2.1; have c3 := (BAS.out _ K).2.2.2.1; have c4 := (BAS.out _ K).2.2.2.2.1; have c5 := (BAS.out _ K).2.2.2.2.2.1; have c6 := (BAS.out _ K).2.2.2.2.2.2.1; have c7 := (BAS.out _ K).2.2.2.2.2.2.2; have l0 : w.heap.size < wc.heap.size := cell_lt c0; have l2 : w.heap.size + 1 < wc.heap.size := cell_lt c2; have l4 : w.heap.size + 1 + 1 < wc.heap.size := cell_lt c4; have l6 : w.heap.size + 1 + 1 + 1 < wc.heap.size := cell_lt c6
    go_wp2_with (first
      | (go_at_call 9; (with_reducible refine (M2.out _).mono ?_); rintro e w4 ⟨rfl, hk⟩; replace HES := Lib.hid (HES.out.kp (kp_trans (by repeat (first | (with_reducible exact kp_refl _) | (with_reducible apply kp_alloc) | (with_reducible apply kp_drew) | (with_reducible apply kp_drewN))) hk)); replace K : Kp w1 w4 := kp_trans (by repeat (first | (with_reducible exact K) | (with_reducible apply kp_alloc) | (with_reducible apply kp_drew) | (with_reducible apply kp_drewN))) hk; replace c0 := (BAS.out _ K).1; replace c1 := (BAS.out _ K).2.1; replace c2 := (BAS.out _ K).2.2.1; replace c3 := (BAS.out _ K).2.2.2.1; replace c4 := (BAS.out _ K).2.2.2.2.1; replace c5 := (BAS.out _ K).2.2.2.2.2.1; replace c6 := (BAS.out _ K).2.2.2.2.2.2.1; replace c7 := (BAS.out _ K).2.2.2.2.2.2.2; replace l0 : w.heap.size < w4.heap.size := cell_lt c0; replace l2 : w.heap.size + 1 < w4.heap.size := cell_lt c2; replace l4 : w.heap.size + 1 + 1 < w4.heap.size := cell_lt c4; replace l6 : w.heap.size + 1 + 1 + 1 < w4.heap.size := cell_lt c6; clear hk)
      | (go_at_call 9; (with_reducible refine (M3.out _).mono ?_); rintro e w4 ⟨rfl, hk⟩; replace HES := Lib.hid (HES.out.kp (kp_trans (by repeat (first | (with_reducible exact kp_refl _) | (with_reducible apply kp_alloc) | (with_reducible apply kp_drew) | (with_reducible apply kp_drewN))) hk)); replace K : Kp w1 w4 := kp_trans (by repeat (first | (with_reducible exact K) | (with_reducible apply kp_alloc) | (with_reducible apply kp_drew) | (with_reducible apply kp_drewN))) hk; replace c0 := (BAS.out _ K).1; replace c1 := (BAS.out _ K).2.1; replace c2 := (BAS.out _ K).2.2.1; replace c3 := (BAS.out _ K).2.2.2.1; replace c4 := (BAS.out _ K).2.2.2.2.1; replace c5 := (BAS.out _ K).2.2.2.2.2.1; replace c6 := (BAS.out _ K).2.2.2.2.2.2.1; replace c7 := (BAS.out _ K).2.2.2.2.2.2.2; replace l0 : w.heap.size < w4.heap.size := cell_lt c0; replace l2 : w.heap.size + 1 < w4.heap.size := cell_lt c2; replace l4 : w.heap.size + 1 + 1 < w4.heap.size := cell_lt c4; replace l6 : w.heap.size + 1 + 1 + 1 < w4.heap.size := cell_lt c6; clear hk))
    go_loopw [13] (fun i wr => ∃ k : Nat, k ≤ 2 ∧ i = .int .i64 k ∧ EndsAt wr sa L ∧ Kp w1 wr) (fun i _ => 2 - (intOf i).toNat)
    case atStart => exact ⟨0, by omega, rfl, HES.out, K⟩
    case round =>
      clear K HES c0 c1 c2 c3 c4 c5 c6 c7 l0 l2 l4 l6
      obtain ⟨k, hk, rfl, hes, K⟩ := hrel
      have HES := Lib.hid hes
      have c0 := (BAS.out _ K).1; have c1 := (BAS.out _ K).2.1; have c2 := (BAS.out _ K).2.2.1; have c3 := (BAS.out _ K).2.2.2.1; have c4 := (BAS.out _ K).2.2.2.2.1; have c5 := (BAS.out _ K).2.2.2.2.2.1; have c6 := (BAS.out _ K).2.2.2.2.2.2.1; have c7 := (BAS.out _ K).2.2.2.2.2.2.2; have l0 : w.heap.size < wr.heap.size := cell_lt c0; have l2 : w.heap.size + 1 < wr.heap.size := cell_lt c2; have l4 : w.heap.size + 1 + 1 < wr.heap.size := cell_lt c4; have l6 : w.heap.size + 1 + 1 + 1 < wr.heap.size := cell_lt c6
      by_cases hlt : k < 2
      · have hlt2 : k < L.length := by rw [HN.out]; exact hlt
        obtain ⟨gb, goff, rfl, q0, q1⟩ := hes k hlt2
        obtain ⟨hm, o1, o2⟩ := HM.out k hlt2
        obtain ⟨x, hx⟩ : ∃ x, (L[k]'hlt2).1 = x := ⟨_, rfl⟩
        obtain ⟨y, hy⟩ : ∃ x, (L[k]'hlt2).2 = x := ⟨_, rfl⟩
        have hxy : L[k]'hlt2 = (x, y) := by rw [← hx, ← hy]
        rw [hx] at q0; rw [hy] at q1
        rw [hxy] at hm o1 o2
        have p1 := fun w => on_any x y ax ay bx bY w
        have p2 := fun w => on_any x y cx cy dx dy w
        rw [o1] at p1; rw [o2] at p2
        have O1 := Lib.hid p1; have O2 := Lib.hid p2
        have hmid : ∃ g0 g1 g2 g3 : Bool, (x == ax && y == ay) = g0 ∧ (x == bx && y == bY) = g1 ∧ (x == cx && y == cy) = g2 ∧ (x == dx && y == dy) = g3 ∧ (g0 = true ∨ (g0 = false ∧ g1 = true) ∨ (g0 = false ∧ g1 = false ∧ g2 = true) ∨ (g0 = false ∧ g1 = false ∧ g2 = false ∧ g3 = true)) := by
          refine ⟨_, _, _, _, rfl, rfl, rfl, rfl, ?_⟩
          have f1 : (x == ax && y == ay) = true ↔ (x, y) = (ax, ay) := by simp
          have f2 : (x == bx && y == bY) = true ↔ (x, y) = (bx, bY) := by simp
          have f3 : (x == cx && y == cy) = true ↔ (x, y) = (cx, cy) := by simp
          have f4 : (x == dx && y == dy) = true ↔ (x, y) = (dx, dy) := by simp
          rw [← f1, ← f2, ← f3, ← f4] at hm
          generalize (x == ax && y == ay) = u0 at *
          generalize (x == bx && y == bY) = u1 at *
          generalize (x == cx && y == cy) = u2 at *
          generalize (x == dx && y == dy) = u3 at *
          revert hm
          cases u0 <;> cases u1 <;> cases u2 <;> cases u3 <;> simp
        have z1 : (0 : Int) ≤ (k : Int) := by omega
        have z2 : (k : Int) < 2 := by omega
        have wk : IntKind.i64.wrap ((k : Int) + 1) = (k : Int) + 1 := IntWalk.i64_in _ (by omega)
        have lg : gb < wr.heap.size := cell_lt q0
        clear hx hy hxy hm o1 o2 p1 p2 hlt2 hes
        obtain ⟨g0, g1, g2, g3, e0, e1, e2, e3, hg⟩ := hmid
        have HKR := Lib.hid K
        clear K
        have K : Kp wr wr := kp_refl _
        have BAR := Lib.hid (show ∀ W, Kp wr W → (W.cell? ⟨w.heap.size, 0, none⟩ = some (.int .i64 ax) ∧ W.cell? ⟨w.heap.size, 1, none⟩ = some (.int .i64 ay) ∧ W.cell? ⟨w.heap.size + 1, 0, none⟩ = some (.int .i64 bx) ∧ W.cell? ⟨w.heap.size + 1, 1, none⟩ = some (.int .i64 bY) ∧ W.cell? ⟨w.heap.size + 1 + 1, 0, none⟩ = some (.int .i64 cx) ∧ W.cell? ⟨w.heap.size + 1 + 1, 1, none⟩ = some (.int .i64 cy) ∧ W.cell? ⟨w.heap.size + 1 + 1 + 1, 0, none⟩ = some (.int .i64 dx) ∧ W.cell? ⟨w.heap.size + 1 + 1 + 1, 1, none⟩ = some (.int .i64 dy) ∧ W.cell? ⟨gb, goff + k * 2, none⟩ = some (.int .i64 x) ∧ W.cell? ⟨gb, goff + k * 2 + 1, none⟩ = some (.int .i64 y)) from fun W k => ⟨kp_cell k c0, kp_cell k c1, kp_cell k c2, kp_cell k c3, kp_cell k c4, kp_cell k c5, kp_cell k c6, kp_cell k c7, kp_cell k q0, kp_cell k q1⟩)
        rcases hg with rfl | ⟨rfl, rfl⟩ | ⟨rfl, rfl, rfl⟩ | ⟨rfl, rfl, rfl, rfl⟩
        · go_upto_region 15 with fail
          refine wp_region_noPanic ?_
          refine wp_region_held_drew (S := fun w' => Kp wr w' ∧ w'.cell? ⟨w.heap.size, 0, none⟩ = some (.int .i64 ax) ∧ w'.cell? ⟨w.heap.size, 1, none⟩ = some (.int .i64 ay) ∧ w'.cell? ⟨w.heap.size + 1, 0, none⟩ = some (.int .i64 bx) ∧ w'.cell? ⟨w.heap.size + 1, 1, none⟩ = some (.int .i64 bY) ∧ w'.cell? ⟨w.heap.size + 1 + 1, 0, none⟩ = some (.int .i64 cx) ∧ w'.cell? ⟨w.heap.size + 1 + 1, 1, none⟩ = some (.int .i64 cy) ∧ w'.cell? ⟨w.heap.size + 1 + 1 + 1, 0, none⟩ = some (.int .i64 dx) ∧ w'.cell? ⟨w.heap.size + 1 + 1 + 1, 1, none⟩ = some (.int .i64 dy) ∧ w'.cell? ⟨gb, goff + k * 2, none⟩ = some (.int .i64 x) ∧ w'.cell? ⟨gb, goff + k * 2 + 1, none⟩ = some (.int .i64 y)) (by kernel_rfl) ?_ (fun hHeld => ?_)
          · exact ⟨kp_drew K, cell_d c0, cell_d c1, cell_d c2, cell_d c3, cell_d c4, cell_d c5, cell_d c6, cell_d c7, cell_d q0, cell_d q1⟩
          refine take_yes (i := 0) (d := 66) (v := ?_) rfl rfl (by kernel_rfl) (by kernel_rfl) (by kernel_rfl) (fun _ _ _ h => h) (by rfl) ?_ hHeld ?_
          rotate_left
          · intro wq hSw; (try dsimp only at hSw); go_simp; (try with_reducible rfl)
          (try simp only [Act.put, List.setIfInBounds_toArray, List.set_cons_zero, List.set_cons_succ])
          refine take_yes (i := 1) (d := 67) (v := ?_) rfl rfl (by kernel_rfl) (by kernel_rfl) (by kernel_rfl) (fun _ _ _ h => h) (by rfl) ?_ hHeld ?_
          rotate_left
          · intro wq hSw; (try dsimp only at hSw); go_simp; (try with_reducible rfl)
          (try simp only [Act.put, List.setIfInBounds_toArray, List.set_cons_zero, List.set_cons_succ])
          refine take_yes (i := 2) (d := 68) (v := ?_) rfl rfl (by kernel_rfl) (by kernel_rfl) (by kernel_rfl) (fun _ _ _ h => h) (by rfl) ?_ hHeld ?_
          rotate_left
          · intro wq hSw; (try dsimp only at hSw); go_simp; (try with_reducible rfl)
          (try simp only [Act.put, List.setIfInBounds_toArray, List.set_cons_zero, List.set_cons_succ])
          refine take_yes (i := 3) (d := 69) (v := ?_) rfl rfl (by kernel_rfl) (by kernel_rfl) (by kernel_rfl) (fun _ _ _ h => h) (by rfl) ?_ hHeld ?_
          rotate_left
          · intro wq hSw; (try dsimp only at hSw); go_simp; (try with_reducible rfl)
          (try simp only [Act.put, List.setIfInBounds_toArray, List.set_cons_zero, List.set_cons_succ])
          refine take_yes (i := 4) (d := 70) (v := ?_) rfl rfl (by kernel_rfl) (by kernel_rfl) (by kernel_rfl) (fun _ _ _ h => h) (by rfl) ?_ hHeld ?_
          rotate_left
          · intro wq hSw; (try dsimp only at hSw); go_simp; (try with_reducible rfl)
          (try simp only [Act.put, List.setIfInBounds_toArray, List.set_cons_zero, List.set_cons_succ])
          refine take_yes (i := 5) (d := 71) (v := ?_) rfl rfl (by kernel_rfl) (by kernel_rfl) (by kernel_rfl) (fun _ _ _ h => h) (by rfl) ?_ hHeld ?_
          rotate_left
          · intro wq hSw; (try dsimp only at hSw); go_simp; (try with_reducible rfl)
          (try simp only [Act.put, List.setIfInBounds_toArray, List.set_cons_zero, List.set_cons_succ])
          refine wpAnyH_ready (rs := [6]) (by kernel_rfl) (by simp) ?_
          refine AllReadyH.cons rfl (fun K' hK => ?_) AllReadyH.nil
          go_simp
          go_at_call 16
          refine (O1.out _).mono ?_
          rintro e w4 ⟨rfl, hk⟩
          replace K : Kp wr w4 := kp_trans (by repeat (first | (with_reducible exact K) | (with_reducible apply kp_alloc) | (with_reducible apply kp_drew) | (with_reducible apply kp_drewN))) hk
          replace c0 := (BAR.out _ K).1; replace c1 := (BAR.out _ K).2.1; replace c2 := (BAR.out _ K).2.2.1; replace c3 := (BAR.out _ K).2.2.2.1; replace c4 := (BAR.out _ K).2.2.2.2.1; replace c5 := (BAR.out _ K).2.2.2.2.2.1; replace c6 := (BAR.out _ K).2.2.2.2.2.2.1; replace c7 := (BAR.out _ K).2.2.2.2.2.2.2.1; replace q0 := (BAR.out _ K).2.2.2.2.2.2.2.2.1; replace q1 := (BAR.out _ K).2.2.2.2.2.2.2.2.2
          replace l0 : w.heap.size < w4.heap.size := cell_lt c0; replace l2 : w.heap.size + 1 < w4.heap.size := cell_lt c2; replace l4 : w.heap.size + 1 + 1 < w4.heap.size := cell_lt c4; replace l6 : w.heap.size + 1 + 1 + 1 < w4.heap.size := cell_lt c6
          clear hk hHeld
          refine hK.out _ _ ?_ (fun hHeld => ?_)
          · exact ⟨K, c0, c1, c2, c3, c4, c5, c6, c7, q0, q1⟩
          clear hK K'
          (try simp only [Act.put, List.setIfInBounds_toArray, List.set_cons_zero, List.set_cons_succ])
          refine take_yes (i := 7) (d := 73) (v := ?_) rfl rfl (by kernel_rfl) (by kernel_rfl) (by kernel_rfl) (fun _ _ _ h => h) (by rfl) ?_ hHeld ?_
          rotate_left
          · intro wq hSw; (try dsimp only at hSw); go_simp; (try with_reducible rfl)
          (try simp only [Act.put, List.setIfInBounds_toArray, List.set_cons_zero, List.set_cons_succ])
          refine take_yes (i := 8) (d := 74) (v := ?_) rfl rfl (by kernel_rfl) (by kernel_rfl) (by kernel_rfl) (fun _ _ _ h => h) (by rfl) ?_ hHeld ?_
          rotate_left
          · intro wq hSw; (try dsimp only at hSw); go_simp; (try with_reducible rfl)
          (try simp only [Act.put, List.setIfInBounds_toArray, List.set_cons_zero, List.set_cons_succ])
          refine take_yes (i := 9) (d := 75) (v := ?_) rfl rfl (by kernel_rfl) (by kernel_rfl) (by kernel_rfl) (fun _ _ _ h => h) (by rfl) ?_ hHeld ?_
          rotate_left
          · intro wq hSw; (try dsimp only at hSw); go_simp; (try with_reducible rfl)
          (try simp only [Act.put, List.setIfInBounds_toArray, List.set_cons_zero, List.set_cons_succ])
          refine take_yes (i := 10) (d := 76) (v := ?_) rfl rfl (by kernel_rfl) (by kernel_rfl) (by kernel_rfl) (fun _ _ _ h => h) (by rfl) ?_ hHeld ?_
          rotate_left
          · intro wq hSw; (try dsimp only at hSw); go_simp; (try with_reducible rfl)
          (try simp only [Act.put, List.setIfInBounds_toArray, List.set_cons_zero, List.set_cons_succ])
          refine take_yes (i := 11) (d := 77) (v := ?_) rfl rfl (by kernel_rfl) (by kernel_rfl) (by kernel_rfl) (fun _ _ _ h => h) (by rfl) ?_ hHeld ?_
          rotate_left
          · intro wq hSw; (try dsimp only at hSw); go_simp; (try with_reducible rfl)
          (try simp only [Act.put, List.setIfInBounds_toArray, List.set_cons_zero, List.set_cons_succ])
          refine take_yes (i := 12) (d := 78) (v := ?_) rfl rfl (by kernel_rfl) (by kernel_rfl) (by kernel_rfl) (fun _ _ _ h => h) (by rfl) ?_ hHeld ?_
          rotate_left
          · intro wq hSw; (try dsimp only at hSw); go_simp; (try with_reducible rfl)
          (try simp only [Act.put, List.setIfInBounds_toArray, List.set_cons_zero, List.set_cons_succ])
          refine take_yes (i := 13) (d := 79) (v := ?_) rfl rfl (by kernel_rfl) (by kernel_rfl) (by kernel_rfl) (fun _ _ _ h => h) (by rfl) ?_ hHeld ?_
          rotate_left
          · intro wq hSw; (try dsimp only at hSw); go_simp; (try with_reducible rfl)
          (try simp only [Act.put, List.setIfInBounds_toArray, List.set_cons_zero, List.set_cons_succ])
          refine take_yes (i := 14) (d := 80) (v := ?_) rfl rfl (by kernel_rfl) (by kernel_rfl) (by kernel_rfl) (fun _ _ _ h => h) (by rfl) ?_ hHeld ?_
          rotate_left
          · intro wq hSw; (try dsimp only at hSw); go_simp; (try with_reducible rfl)
          (try simp only [Act.put, List.setIfInBounds_toArray, List.set_cons_zero, List.set_cons_succ])
          refine wpAnyH_ready (rs := [15]) (by kernel_rfl) (by simp) ?_
          refine AllReadyH.cons rfl (fun K' hK => ?_) AllReadyH.nil
          go_simp
          go_at_call 16
          refine (O2.out _).mono ?_
          rintro e w5 ⟨rfl, hk⟩
          replace K : Kp wr w5 := kp_trans (by repeat (first | (with_reducible exact K) | (with_reducible apply kp_alloc) | (with_reducible apply kp_drew) | (with_reducible apply kp_drewN))) hk
          replace c0 := (BAR.out _ K).1; replace c1 := (BAR.out _ K).2.1; replace c2 := (BAR.out _ K).2.2.1; replace c3 := (BAR.out _ K).2.2.2.1; replace c4 := (BAR.out _ K).2.2.2.2.1; replace c5 := (BAR.out _ K).2.2.2.2.2.1; replace c6 := (BAR.out _ K).2.2.2.2.2.2.1; replace c7 := (BAR.out _ K).2.2.2.2.2.2.2.1; replace q0 := (BAR.out _ K).2.2.2.2.2.2.2.2.1; replace q1 := (BAR.out _ K).2.2.2.2.2.2.2.2.2
          replace l0 : w.heap.size < w5.heap.size := cell_lt c0; replace l2 : w.heap.size + 1 < w5.heap.size := cell_lt c2; replace l4 : w.heap.size + 1 + 1 < w5.heap.size := cell_lt c4; replace l6 : w.heap.size + 1 + 1 + 1 < w5.heap.size := cell_lt c6
          clear hk hHeld
          refine hK.out _ _ ?_ (fun hHeld => ?_)
          · exact ⟨K, c0, c1, c2, c3, c4, c5, c6, c7, q0, q1⟩
          clear hK K'
          (try simp only [Act.put, List.setIfInBounds_toArray, List.set_cons_zero, List.set_cons_succ])
          refine take_yes (i := 16) (d := 82) (v := ?_) rfl rfl (by kernel_rfl) (by kernel_rfl) (by kernel_rfl) (fun _ _ _ h => h) (by rfl) ?_ hHeld ?_
          rotate_left
          · intro wq hSw; (try dsimp only at hSw); go_simp; (try with_reducible rfl)
          (try simp only [Act.put, List.setIfInBounds_toArray, List.set_cons_zero, List.set_cons_succ])
          refine take_yes (i := 17) (d := 83) (v := ?_) rfl rfl (by kernel_rfl) (by kernel_rfl) (by kernel_rfl) (fun _ _ _ h => h) (by rfl) ?_ hHeld ?_
          rotate_left
          · intro wq hSw; (try dsimp only at hSw); go_simp; (try with_reducible rfl)
          (try simp only [Act.put, List.setIfInBounds_toArray, List.set_cons_zero, List.set_cons_succ])
          refine take_yes (i := 18) (d := 84) (v := ?_) rfl rfl (by kernel_rfl) (by kernel_rfl) (by kernel_rfl) (fun _ _ _ h => h) (by rfl) ?_ hHeld ?_
          rotate_left
          · intro wq hSw; (try dsimp only at hSw); go_simp; (try with_reducible rfl)
          (try simp only [Act.put, List.setIfInBounds_toArray, List.set_cons_zero, List.set_cons_succ])
          refine take_yes (i := 19) (d := 85) (v := ?_) rfl rfl (by kernel_rfl) (by kernel_rfl) (by kernel_rfl) (fun _ _ _ h => h) (by rfl) ?_ hHeld ?_
          rotate_left
          · intro wq hSw; (try dsimp only at hSw); go_simp; (try with_reducible rfl)
          (try simp only [Act.put, List.setIfInBounds_toArray, List.set_cons_zero, List.set_cons_succ])
          refine take_yes (i := 20) (d := 86) (v := ?_) rfl rfl (by kernel_rfl) (by kernel_rfl) (by kernel_rfl) (fun _ _ _ h => h) (by rfl) ?_ hHeld ?_
          rotate_left
          · intro wq hSw; (try dsimp only at hSw); go_simp; (try with_reducible rfl)
          (try simp only [Act.put, List.setIfInBounds_toArray, List.set_cons_zero, List.set_cons_succ])
          refine take_yes (i := 21) (d := 87) (v := ?_) rfl rfl (by kernel_rfl) (by kernel_rfl) (by kernel_rfl) (fun _ _ _ h => h) (by rfl) ?_ hHeld ?_
          rotate_left
          · intro wq hSw; (try dsimp only at hSw); go_simp; (try with_reducible rfl)
          (try simp only [Act.put, List.setIfInBounds_toArray, List.set_cons_zero, List.set_cons_succ])
          refine take_yes (i := 22) (d := 88) (v := ?_) rfl rfl (by kernel_rfl) (by kernel_rfl) (by kernel_rfl) (fun _ _ _ h => h) (by rfl) ?_ hHeld ?_
          rotate_left
          · intro wq hSw; (try dsimp only at hSw); go_simp; (try with_reducible rfl)
          (try simp only [Act.put, List.setIfInBounds_toArray, List.set_cons_zero, List.set_cons_succ])
          refine take_yes (i := 23) (d := 89) (v := ?_) rfl rfl (by kernel_rfl) (by kernel_rfl) (by kernel_rfl) (fun _ _ _ h => h) (by rfl) ?_ hHeld ?_
          rotate_left
          · intro wq hSw; (try dsimp only at hSw); go_simp; (try with_reducible rfl)
          (try simp only [Act.put, List.setIfInBounds_toArray, List.set_cons_zero, List.set_cons_succ])
          refine take_yes (i := 24) (d := 90) (v := ?_) rfl rfl (by kernel_rfl) (by kernel_rfl) (by kernel_rfl) (fun _ _ _ h => h) (by rfl) ?_ hHeld ?_
          rotate_left
          · intro wq hSw; (try dsimp only at hSw); go_simp; (try with_reducible rfl)
          (try simp only [Act.put, List.setIfInBounds_toArray, List.set_cons_zero, List.set_cons_succ])
          refine take_yes (i := 25) (d := 91) (v := ?_) rfl rfl (by kernel_rfl) (by kernel_rfl) (by kernel_rfl) (fun _ _ _ h => h) (by rfl) ?_ hHeld ?_
          rotate_left
          · intro wq hSw; (try dsimp only at hSw); go_simp; (try with_reducible rfl)
          (try simp only [Act.put, List.setIfInBounds_toArray, List.set_cons_zero, List.set_cons_succ])
          refine take_no (i := 26) (d := 92) rfl rfl (by kernel_rfl) (by kernel_rfl) (by kernel_rfl) (fun _ _ _ h => h) (by rfl) hHeld ?_
          (try simp only [Act.put, List.setIfInBounds_toArray, List.set_cons_zero, List.set_cons_succ])
          refine take_no (i := 27) (d := 93) rfl rfl (by kernel_rfl) (by kernel_rfl) (by kernel_rfl) (fun _ _ _ h => h) (by rfl) hHeld ?_
          (try simp only [Act.put, List.setIfInBounds_toArray, List.set_cons_zero, List.set_cons_succ])
          refine take_no (i := 28) (d := 94) rfl rfl (by kernel_rfl) (by kernel_rfl) (by kernel_rfl) (fun _ _ _ h => h) (by rfl) hHeld ?_
          (try simp only [Act.put, List.setIfInBounds_toArray, List.set_cons_zero, List.set_cons_succ])
          refine take_no (i := 29) (d := 95) rfl rfl (by kernel_rfl) (by kernel_rfl) (by kernel_rfl) (fun _ _ _ h => h) (by rfl) hHeld ?_
          (try simp only [Act.put, List.setIfInBounds_toArray, List.set_cons_zero, List.set_cons_succ])
          refine take_no (i := 30) (d := 96) rfl rfl (by kernel_rfl) (by kernel_rfl) (by kernel_rfl) (fun _ _ _ h => h) (by rfl) hHeld ?_
          (try simp only [Act.put, List.setIfInBounds_toArray, List.set_cons_zero, List.set_cons_succ])
          refine take_no (i := 31) (d := 97) rfl rfl (by kernel_rfl) (by kernel_rfl) (by kernel_rfl) (fun _ _ _ h => h) (by rfl) hHeld ?_
          (try simp only [Act.put, List.setIfInBounds_toArray, List.set_cons_zero, List.set_cons_succ])
          refine take_yes (i := 32) (d := 98) (v := ?_) rfl rfl (by kernel_rfl) (by kernel_rfl) (by kernel_rfl) (fun _ _ _ h => h) (by rfl) ?_ hHeld ?_
          rotate_left
          · intro wq hSw; (try dsimp only at hSw); go_simp; (try with_reducible rfl)
          (try simp only [Act.put, List.setIfInBounds_toArray, List.set_cons_zero, List.set_cons_succ])
          refine take_yes (i := 33) (d := 99) (v := ?_) rfl rfl (by kernel_rfl) (by kernel_rfl) (by kernel_rfl) (fun _ _ _ h => h) (by rfl) ?_ hHeld ?_
          rotate_left
          · intro wq hSw; (try dsimp only at hSw); go_simp; (try with_reducible rfl)
          (try simp only [Act.put, List.setIfInBounds_toArray, List.set_cons_zero, List.set_cons_succ])
          refine take_no (i := 34) (d := 100) rfl rfl (by kernel_rfl) (by kernel_rfl) (by kernel_rfl) (fun _ _ _ h => h) (by rfl) hHeld ?_
          (try simp only [Act.put, List.setIfInBounds_toArray, List.set_cons_zero, List.set_cons_succ])
          refine take_no (i := 35) (d := 101) rfl rfl (by kernel_rfl) (by kernel_rfl) (by kernel_rfl) (fun _ _ _ h => h) (by rfl) hHeld ?_
          (try simp only [Act.put, List.setIfInBounds_toArray, List.set_cons_zero, List.set_cons_succ])
          refine take_no (i := 36) (d := 102) rfl rfl (by kernel_rfl) (by kernel_rfl) (by kernel_rfl) (fun _ _ _ h => h) (by rfl) hHeld ?_
          (try simp only [Act.put, List.setIfInBounds_toArray, List.set_cons_zero, List.set_cons_succ])
          refine take_no (i := 37) (d := 103) rfl rfl (by kernel_rfl) (by kernel_rfl) (by kernel_rfl) (fun _ _ _ h => h) (by rfl) hHeld ?_
          (try simp only [Act.put, List.setIfInBounds_toArray, List.set_cons_zero, List.set_cons_succ])
          refine take_no (i := 38) (d := 104) rfl rfl (by kernel_rfl) (by kernel_rfl) (by kernel_rfl) (fun _ _ _ h => h) (by rfl) hHeld ?_
          (try simp only [Act.put, List.setIfInBounds_toArray, List.set_cons_zero, List.set_cons_succ])
          refine take_no (i := 39) (d := 105) rfl rfl (by kernel_rfl) (by kernel_rfl) (by kernel_rfl) (fun _ _ _ h => h) (by rfl) hHeld ?_
          (try simp only [Act.put, List.setIfInBounds_toArray, List.set_cons_zero, List.set_cons_succ])
          refine take_yes (i := 40) (d := 106) (v := ?_) rfl rfl (by kernel_rfl) (by kernel_rfl) (by kernel_rfl) (fun _ _ _ h => h) (by rfl) ?_ hHeld ?_
          rotate_left
          · intro wq hSw; (try dsimp only at hSw); go_simp; (try with_reducible rfl)
          (try simp only [Act.put, List.setIfInBounds_toArray, List.set_cons_zero, List.set_cons_succ])
          refine take_yes (i := 41) (d := 107) (v := ?_) rfl rfl (by kernel_rfl) (by kernel_rfl) (by kernel_rfl) (fun _ _ _ h => h) (by rfl) ?_ hHeld ?_
          rotate_left
          · intro wq hSw; (try dsimp only at hSw); go_simp; (try with_reducible rfl)
          (try simp only [Act.put, List.setIfInBounds_toArray, List.set_cons_zero, List.set_cons_succ])
          refine take_no (i := 42) (d := 108) rfl rfl (by kernel_rfl) (by kernel_rfl) (by kernel_rfl) (fun _ _ _ h => h) (by rfl) hHeld ?_
          (try simp only [Act.put, List.setIfInBounds_toArray, List.set_cons_zero, List.set_cons_succ])
          refine take_no (i := 43) (d := 109) rfl rfl (by kernel_rfl) (by kernel_rfl) (by kernel_rfl) (fun _ _ _ h => h) (by rfl) hHeld ?_
          (try simp only [Act.put, List.setIfInBounds_toArray, List.set_cons_zero, List.set_cons_succ])
          refine take_no (i := 44) (d := 110) rfl rfl (by kernel_rfl) (by kernel_rfl) (by kernel_rfl) (fun _ _ _ h => h) (by rfl) hHeld ?_
          (try simp only [Act.put, List.setIfInBounds_toArray, List.set_cons_zero, List.set_cons_succ])
          refine take_no (i := 45) (d := 111) rfl rfl (by kernel_rfl) (by kernel_rfl) (by kernel_rfl) (fun _ _ _ h => h) (by rfl) hHeld ?_
          (try simp only [Act.put, List.setIfInBounds_toArray, List.set_cons_zero, List.set_cons_succ])
          refine take_no (i := 46) (d := 112) rfl rfl (by kernel_rfl) (by kernel_rfl) (by kernel_rfl) (fun _ _ _ h => h) (by rfl) hHeld ?_
          (try simp only [Act.put, List.setIfInBounds_toArray, List.set_cons_zero, List.set_cons_succ])
          refine take_no (i := 47) (d := 113) rfl rfl (by kernel_rfl) (by kernel_rfl) (by kernel_rfl) (fun _ _ _ h => h) (by rfl) hHeld ?_
          (try simp only [Act.put, List.setIfInBounds_toArray, List.set_cons_zero, List.set_cons_succ])
          refine take_yes (i := 48) (d := 114) (v := ?_) rfl rfl (by kernel_rfl) (by kernel_rfl) (by kernel_rfl) (fun _ _ _ h => h) (by rfl) ?_ hHeld ?_
          rotate_left
          · intro wq hSw; (try dsimp only at hSw); go_simp; (try with_reducible rfl)
          (try simp only [Act.put, List.setIfInBounds_toArray, List.set_cons_zero, List.set_cons_succ])
          refine take_yes (i := 49) (d := 115) (v := ?_) rfl rfl (by kernel_rfl) (by kernel_rfl) (by kernel_rfl) (fun _ _ _ h => h) (by rfl) ?_ hHeld ?_
          rotate_left
          · intro wq hSw; (try dsimp only at hSw); go_simp; (try with_reducible rfl)
          (try simp only [Act.put, List.setIfInBounds_toArray, List.set_cons_zero, List.set_cons_succ])
          refine wpAnyH_done (by kernel_rfl) ?_ _
          refine NoPanic.normal ?_
          go_wp2_with fail
          exact ⟨⟨k + 1, by omega, by go_num, HES.out.kp (by repeat (first | (with_reducible exact K) | (with_reducible apply kp_alloc) | (with_reducible apply kp_drew) | (with_reducible apply kp_drewN))), kp_trans HKR.out (by repeat (first | (with_reducible exact K) | (with_reducible apply kp_alloc) | (with_reducible apply kp_drew) | (with_reducible apply kp_drewN)))⟩, by simp [intOf]; omega⟩
        · go_upto_region 15 with fail
          refine wp_region_noPanic ?_
          refine wp_region_held_drew (S := fun w' => Kp wr w' ∧ w'.cell? ⟨w.heap.size, 0, none⟩ = some (.int .i64 ax) ∧ w'.cell? ⟨w.heap.size, 1, none⟩ = some (.int .i64 ay) ∧ w'.cell? ⟨w.heap.size + 1, 0, none⟩ = some (.int .i64 bx) ∧ w'.cell? ⟨w.heap.size + 1, 1, none⟩ = some (.int .i64 bY) ∧ w'.cell? ⟨w.heap.size + 1 + 1, 0, none⟩ = some (.int .i64 cx) ∧ w'.cell? ⟨w.heap.size + 1 + 1, 1, none⟩ = some (.int .i64 cy) ∧ w'.cell? ⟨w.heap.size + 1 + 1 + 1, 0, none⟩ = some (.int .i64 dx) ∧ w'.cell? ⟨w.heap.size + 1 + 1 + 1, 1, none⟩ = some (.int .i64 dy) ∧ w'.cell? ⟨gb, goff + k * 2, none⟩ = some (.int .i64 x) ∧ w'.cell? ⟨gb, goff + k * 2 + 1, none⟩ = some (.int .i64 y)) (by kernel_rfl) ?_ (fun hHeld => ?_)
          · exact ⟨kp_drew K, cell_d c0, cell_d c1, cell_d c2, cell_d c3, cell_d c4, cell_d c5, cell_d c6, cell_d c7, cell_d q0, cell_d q1⟩
          refine take_yes (i := 0) (d := 66) (v := ?_) rfl rfl (by kernel_rfl) (by kernel_rfl) (by kernel_rfl) (fun _ _ _ h => h) (by rfl) ?_ hHeld ?_
          rotate_left
          · intro wq hSw; (try dsimp only at hSw); go_simp; (try with_reducible rfl)
          (try simp only [Act.put, List.setIfInBounds_toArray, List.set_cons_zero, List.set_cons_succ])
          refine take_yes (i := 1) (d := 67) (v := ?_) rfl rfl (by kernel_rfl) (by kernel_rfl) (by kernel_rfl) (fun _ _ _ h => h) (by rfl) ?_ hHeld ?_
          rotate_left
          · intro wq hSw; (try dsimp only at hSw); go_simp; (try with_reducible rfl)
          (try simp only [Act.put, List.setIfInBounds_toArray, List.set_cons_zero, List.set_cons_succ])
          refine take_yes (i := 2) (d := 68) (v := ?_) rfl rfl (by kernel_rfl) (by kernel_rfl) (by kernel_rfl) (fun _ _ _ h => h) (by rfl) ?_ hHeld ?_
          rotate_left
          · intro wq hSw; (try dsimp only at hSw); go_simp; (try with_reducible rfl)
          (try simp only [Act.put, List.setIfInBounds_toArray, List.set_cons_zero, List.set_cons_succ])
          refine take_yes (i := 3) (d := 69) (v := ?_) rfl rfl (by kernel_rfl) (by kernel_rfl) (by kernel_rfl) (fun _ _ _ h => h) (by rfl) ?_ hHeld ?_
          rotate_left
          · intro wq hSw; (try dsimp only at hSw); go_simp; (try with_reducible rfl)
          (try simp only [Act.put, List.setIfInBounds_toArray, List.set_cons_zero, List.set_cons_succ])
          refine take_yes (i := 4) (d := 70) (v := ?_) rfl rfl (by kernel_rfl) (by kernel_rfl) (by kernel_rfl) (fun _ _ _ h => h) (by rfl) ?_ hHeld ?_
          rotate_left
          · intro wq hSw; (try dsimp only at hSw); go_simp; (try with_reducible rfl)
          (try simp only [Act.put, List.setIfInBounds_toArray, List.set_cons_zero, List.set_cons_succ])
          refine take_yes (i := 5) (d := 71) (v := ?_) rfl rfl (by kernel_rfl) (by kernel_rfl) (by kernel_rfl) (fun _ _ _ h => h) (by rfl) ?_ hHeld ?_
          rotate_left
          · intro wq hSw; (try dsimp only at hSw); go_simp; (try with_reducible rfl)
          (try simp only [Act.put, List.setIfInBounds_toArray, List.set_cons_zero, List.set_cons_succ])
          refine wpAnyH_ready (rs := [6]) (by kernel_rfl) (by simp) ?_
          refine AllReadyH.cons rfl (fun K' hK => ?_) AllReadyH.nil
          go_simp
          go_at_call 16
          refine (O1.out _).mono ?_
          rintro e w4 ⟨rfl, hk⟩
          replace K : Kp wr w4 := kp_trans (by repeat (first | (with_reducible exact K) | (with_reducible apply kp_alloc) | (with_reducible apply kp_drew) | (with_reducible apply kp_drewN))) hk
          replace c0 := (BAR.out _ K).1; replace c1 := (BAR.out _ K).2.1; replace c2 := (BAR.out _ K).2.2.1; replace c3 := (BAR.out _ K).2.2.2.1; replace c4 := (BAR.out _ K).2.2.2.2.1; replace c5 := (BAR.out _ K).2.2.2.2.2.1; replace c6 := (BAR.out _ K).2.2.2.2.2.2.1; replace c7 := (BAR.out _ K).2.2.2.2.2.2.2.1; replace q0 := (BAR.out _ K).2.2.2.2.2.2.2.2.1; replace q1 := (BAR.out _ K).2.2.2.2.2.2.2.2.2
          replace l0 : w.heap.size < w4.heap.size := cell_lt c0; replace l2 : w.heap.size + 1 < w4.heap.size := cell_lt c2; replace l4 : w.heap.size + 1 + 1 < w4.heap.size := cell_lt c4; replace l6 : w.heap.size + 1 + 1 + 1 < w4.heap.size := cell_lt c6
          clear hk hHeld
          refine hK.out _ _ ?_ (fun hHeld => ?_)
          · exact ⟨K, c0, c1, c2, c3, c4, c5, c6, c7, q0, q1⟩
          clear hK K'
          (try simp only [Act.put, List.setIfInBounds_toArray, List.set_cons_zero, List.set_cons_succ])
          refine take_yes (i := 7) (d := 73) (v := ?_) rfl rfl (by kernel_rfl) (by kernel_rfl) (by kernel_rfl) (fun _ _ _ h => h) (by rfl) ?_ hHeld ?_
          rotate_left
          · intro wq hSw; (try dsimp only at hSw); go_simp; (try with_reducible rfl)
          (try simp only [Act.put, List.setIfInBounds_toArray, List.set_cons_zero, List.set_cons_succ])
          refine take_yes (i := 8) (d := 74) (v := ?_) rfl rfl (by kernel_rfl) (by kernel_rfl) (by kernel_rfl) (fun _ _ _ h => h) (by rfl) ?_ hHeld ?_
          rotate_left
          · intro wq hSw; (try dsimp only at hSw); go_simp; (try with_reducible rfl)
          (try simp only [Act.put, List.setIfInBounds_toArray, List.set_cons_zero, List.set_cons_succ])
          refine take_yes (i := 9) (d := 75) (v := ?_) rfl rfl (by kernel_rfl) (by kernel_rfl) (by kernel_rfl) (fun _ _ _ h => h) (by rfl) ?_ hHeld ?_
          rotate_left
          · intro wq hSw; (try dsimp only at hSw); go_simp; (try with_reducible rfl)
          (try simp only [Act.put, List.setIfInBounds_toArray, List.set_cons_zero, List.set_cons_succ])
          refine take_yes (i := 10) (d := 76) (v := ?_) rfl rfl (by kernel_rfl) (by kernel_rfl) (by kernel_rfl) (fun _ _ _ h => h) (by rfl) ?_ hHeld ?_
          rotate_left
          · intro wq hSw; (try dsimp only at hSw); go_simp; (try with_reducible rfl)
          (try simp only [Act.put, List.setIfInBounds_toArray, List.set_cons_zero, List.set_cons_succ])
          refine take_yes (i := 11) (d := 77) (v := ?_) rfl rfl (by kernel_rfl) (by kernel_rfl) (by kernel_rfl) (fun _ _ _ h => h) (by rfl) ?_ hHeld ?_
          rotate_left
          · intro wq hSw; (try dsimp only at hSw); go_simp; (try with_reducible rfl)
          (try simp only [Act.put, List.setIfInBounds_toArray, List.set_cons_zero, List.set_cons_succ])
          refine take_yes (i := 12) (d := 78) (v := ?_) rfl rfl (by kernel_rfl) (by kernel_rfl) (by kernel_rfl) (fun _ _ _ h => h) (by rfl) ?_ hHeld ?_
          rotate_left
          · intro wq hSw; (try dsimp only at hSw); go_simp; (try with_reducible rfl)
          (try simp only [Act.put, List.setIfInBounds_toArray, List.set_cons_zero, List.set_cons_succ])
          refine take_yes (i := 13) (d := 79) (v := ?_) rfl rfl (by kernel_rfl) (by kernel_rfl) (by kernel_rfl) (fun _ _ _ h => h) (by rfl) ?_ hHeld ?_
          rotate_left
          · intro wq hSw; (try dsimp only at hSw); go_simp; (try with_reducible rfl)
          (try simp only [Act.put, List.setIfInBounds_toArray, List.set_cons_zero, List.set_cons_succ])
          refine take_yes (i := 14) (d := 80) (v := ?_) rfl rfl (by kernel_rfl) (by kernel_rfl) (by kernel_rfl) (fun _ _ _ h => h) (by rfl) ?_ hHeld ?_
          rotate_left
          · intro wq hSw; (try dsimp only at hSw); go_simp; (try with_reducible rfl)
          (try simp only [Act.put, List.setIfInBounds_toArray, List.set_cons_zero, List.set_cons_succ])
          refine wpAnyH_ready (rs := [15]) (by kernel_rfl) (by simp) ?_
          refine AllReadyH.cons rfl (fun K' hK => ?_) AllReadyH.nil
          go_simp
          go_at_call 16
          refine (O2.out _).mono ?_
          rintro e w5 ⟨rfl, hk⟩
          replace K : Kp wr w5 := kp_trans (by repeat (first | (with_reducible exact K) | (with_reducible apply kp_alloc) | (with_reducible apply kp_drew) | (with_reducible apply kp_drewN))) hk
          replace c0 := (BAR.out _ K).1; replace c1 := (BAR.out _ K).2.1; replace c2 := (BAR.out _ K).2.2.1; replace c3 := (BAR.out _ K).2.2.2.1; replace c4 := (BAR.out _ K).2.2.2.2.1; replace c5 := (BAR.out _ K).2.2.2.2.2.1; replace c6 := (BAR.out _ K).2.2.2.2.2.2.1; replace c7 := (BAR.out _ K).2.2.2.2.2.2.2.1; replace q0 := (BAR.out _ K).2.2.2.2.2.2.2.2.1; replace q1 := (BAR.out _ K).2.2.2.2.2.2.2.2.2
          replace l0 : w.heap.size < w5.heap.size := cell_lt c0; replace l2 : w.heap.size + 1 < w5.heap.size := cell_lt c2; replace l4 : w.heap.size + 1 + 1 < w5.heap.size := cell_lt c4; replace l6 : w.heap.size + 1 + 1 + 1 < w5.heap.size := cell_lt c6
          clear hk hHeld
          refine hK.out _ _ ?_ (fun hHeld => ?_)
          · exact ⟨K, c0, c1, c2, c3, c4, c5, c6, c7, q0, q1⟩
          clear hK K'
          (try simp only [Act.put, List.setIfInBounds_toArray, List.set_cons_zero, List.set_cons_succ])
          refine take_yes (i := 16) (d := 82) (v := ?_) rfl rfl (by kernel_rfl) (by kernel_rfl) (by kernel_rfl) (fun _ _ _ h => h) (by rfl) ?_ hHeld ?_
          rotate_left
          · intro wq hSw; (try dsimp only at hSw); go_simp; (try with_reducible rfl)
          (try simp only [Act.put, List.setIfInBounds_toArray, List.set_cons_zero, List.set_cons_succ])
          refine take_yes (i := 17) (d := 83) (v := ?_) rfl rfl (by kernel_rfl) (by kernel_rfl) (by kernel_rfl) (fun _ _ _ h => h) (by rfl) ?_ hHeld ?_
          rotate_left
          · intro wq hSw; (try dsimp only at hSw); go_simp; (try with_reducible rfl)
          (try simp only [Act.put, List.setIfInBounds_toArray, List.set_cons_zero, List.set_cons_succ])
          refine take_yes (i := 18) (d := 84) (v := ?_) rfl rfl (by kernel_rfl) (by kernel_rfl) (by kernel_rfl) (fun _ _ _ h => h) (by rfl) ?_ hHeld ?_
          rotate_left
          · intro wq hSw; (try dsimp only at hSw); go_simp; (try with_reducible rfl)
          (try simp only [Act.put, List.setIfInBounds_toArray, List.set_cons_zero, List.set_cons_succ])
          refine take_yes (i := 19) (d := 85) (v := ?_) rfl rfl (by kernel_rfl) (by kernel_rfl) (by kernel_rfl) (fun _ _ _ h => h) (by rfl) ?_ hHeld ?_
          rotate_left
          · intro wq hSw; (try dsimp only at hSw); go_simp; (try with_reducible rfl)
          (try simp only [Act.put, List.setIfInBounds_toArray, List.set_cons_zero, List.set_cons_succ])
          refine take_yes (i := 20) (d := 86) (v := ?_) rfl rfl (by kernel_rfl) (by kernel_rfl) (by kernel_rfl) (fun _ _ _ h => h) (by rfl) ?_ hHeld ?_
          rotate_left
          · intro wq hSw; (try dsimp only at hSw); go_simp; (try with_reducible rfl)
          (try simp only [Act.put, List.setIfInBounds_toArray, List.set_cons_zero, List.set_cons_succ])
          refine take_yes (i := 21) (d := 87) (v := ?_) rfl rfl (by kernel_rfl) (by kernel_rfl) (by kernel_rfl) (fun _ _ _ h => h) (by rfl) ?_ hHeld ?_
          rotate_left
          · intro wq hSw; (try dsimp only at hSw); go_simp; (try with_reducible rfl)
          (try simp only [Act.put, List.setIfInBounds_toArray, List.set_cons_zero, List.set_cons_succ])
          refine take_yes (i := 22) (d := 88) (v := ?_) rfl rfl (by kernel_rfl) (by kernel_rfl) (by kernel_rfl) (fun _ _ _ h => h) (by rfl) ?_ hHeld ?_
          rotate_left
          · intro wq hSw; (try dsimp only at hSw); go_simp; (try with_reducible rfl)
          (try simp only [Act.put, List.setIfInBounds_toArray, List.set_cons_zero, List.set_cons_succ])
          refine take_yes (i := 23) (d := 89) (v := ?_) rfl rfl (by kernel_rfl) (by kernel_rfl) (by kernel_rfl) (fun _ _ _ h => h) (by rfl) ?_ hHeld ?_
          rotate_left
          · intro wq hSw; (try dsimp only at hSw); go_simp; (try with_reducible rfl)
          (try simp only [Act.put, List.setIfInBounds_toArray, List.set_cons_zero, List.set_cons_succ])
          refine take_yes (i := 24) (d := 90) (v := ?_) rfl rfl (by kernel_rfl) (by kernel_rfl) (by kernel_rfl) (fun _ _ _ h => h) (by rfl) ?_ hHeld ?_
          rotate_left
          · intro wq hSw; (try dsimp only at hSw); go_simp; (try with_reducible rfl)
          (try simp only [Act.put, List.setIfInBounds_toArray, List.set_cons_zero, List.set_cons_succ])
          refine take_yes (i := 25) (d := 91) (v := ?_) rfl rfl (by kernel_rfl) (by kernel_rfl) (by kernel_rfl) (fun _ _ _ h => h) (by rfl) ?_ hHeld ?_
          rotate_left
          · intro wq hSw; (try dsimp only at hSw); go_simp; (try with_reducible rfl)
          (try simp only [Act.put, List.setIfInBounds_toArray, List.set_cons_zero, List.set_cons_succ])
          refine take_yes (i := 26) (d := 92) (v := ?_) rfl rfl (by kernel_rfl) (by kernel_rfl) (by kernel_rfl) (fun _ _ _ h => h) (by rfl) ?_ hHeld ?_
          rotate_left
          · intro wq hSw; (try dsimp only at hSw); go_simp; (try with_reducible rfl)
          (try simp only [Act.put, List.setIfInBounds_toArray, List.set_cons_zero, List.set_cons_succ])
          refine take_yes (i := 27) (d := 93) (v := ?_) rfl rfl (by kernel_rfl) (by kernel_rfl) (by kernel_rfl) (fun _ _ _ h => h) (by rfl) ?_ hHeld ?_
          rotate_left
          · intro wq hSw; (try dsimp only at hSw); go_simp; (try with_reducible rfl)
          (try simp only [Act.put, List.setIfInBounds_toArray, List.set_cons_zero, List.set_cons_succ])
          refine take_yes (i := 28) (d := 94) (v := ?_) rfl rfl (by kernel_rfl) (by kernel_rfl) (by kernel_rfl) (fun _ _ _ h => h) (by rfl) ?_ hHeld ?_
          rotate_left
          · intro wq hSw; (try dsimp only at hSw); go_simp; (try with_reducible rfl)
          (try simp only [Act.put, List.setIfInBounds_toArray, List.set_cons_zero, List.set_cons_succ])
          refine take_yes (i := 29) (d := 95) (v := ?_) rfl rfl (by kernel_rfl) (by kernel_rfl) (by kernel_rfl) (fun _ _ _ h => h) (by rfl) ?_ hHeld ?_
          rotate_left
          · intro wq hSw; (try dsimp only at hSw); go_simp; (try with_reducible rfl)
          (try simp only [Act.put, List.setIfInBounds_toArray, List.set_cons_zero, List.set_cons_succ])
          refine take_yes (i := 30) (d := 96) (v := ?_) rfl rfl (by kernel_rfl) (by kernel_rfl) (by kernel_rfl) (fun _ _ _ h => h) (by rfl) ?_ hHeld ?_
          rotate_left
          · intro wq hSw; (try dsimp only at hSw); go_simp; (try with_reducible rfl)
          (try simp only [Act.put, List.setIfInBounds_toArray, List.set_cons_zero, List.set_cons_succ])
          refine take_yes (i := 31) (d := 97) (v := ?_) rfl rfl (by kernel_rfl) (by kernel_rfl) (by kernel_rfl) (fun _ _ _ h => h) (by rfl) ?_ hHeld ?_
          rotate_left
          · intro wq hSw; (try dsimp only at hSw); go_simp; (try with_reducible rfl)
          (try simp only [Act.put, List.setIfInBounds_toArray, List.set_cons_zero, List.set_cons_succ])
          refine take_yes (i := 32) (d := 98) (v := ?_) rfl rfl (by kernel_rfl) (by kernel_rfl) (by kernel_rfl) (fun _ _ _ h => h) (by rfl) ?_ hHeld ?_
          rotate_left
          · intro wq hSw; (try dsimp only at hSw); go_simp; (try with_reducible rfl)
          (try simp only [Act.put, List.setIfInBounds_toArray, List.set_cons_zero, List.set_cons_succ])
          refine take_yes (i := 33) (d := 99) (v := ?_) rfl rfl (by kernel_rfl) (by kernel_rfl) (by kernel_rfl) (fun _ _ _ h => h) (by rfl) ?_ hHeld ?_
          rotate_left
          · intro wq hSw; (try dsimp only at hSw); go_simp; (try with_reducible rfl)
          (try simp only [Act.put, List.setIfInBounds_toArray, List.set_cons_zero, List.set_cons_succ])
          refine take_no (i := 34) (d := 100) rfl rfl (by kernel_rfl) (by kernel_rfl) (by kernel_rfl) (fun _ _ _ h => h) (by rfl) hHeld ?_
          (try simp only [Act.put, List.setIfInBounds_toArray, List.set_cons_zero, List.set_cons_succ])
          refine take_no (i := 35) (d := 101) rfl rfl (by kernel_rfl) (by kernel_rfl) (by kernel_rfl) (fun _ _ _ h => h) (by rfl) hHeld ?_
          (try simp only [Act.put, List.setIfInBounds_toArray, List.set_cons_zero, List.set_cons_succ])
          refine take_no (i := 36) (d := 102) rfl rfl (by kernel_rfl) (by kernel_rfl) (by kernel_rfl) (fun _ _ _ h => h) (by rfl) hHeld ?_
          (try simp only [Act.put, List.setIfInBounds_toArray, List.set_cons_zero, List.set_cons_succ])
          refine take_no (i := 37) (d := 103) rfl rfl (by kernel_rfl) (by kernel_rfl) (by kernel_rfl) (fun _ _ _ h => h) (by rfl) hHeld ?_
          (try simp only [Act.put, List.setIfInBounds_toArray, List.set_cons_zero, List.set_cons_succ])
          refine take_no (i := 38) (d := 104) rfl rfl (by kernel_rfl) (by kernel_rfl) (by kernel_rfl) (fun _ _ _ h => h) (by rfl) hHeld ?_
          (try simp only [Act.put, List.setIfInBounds_toArray, List.set_cons_zero, List.set_cons_succ])
          refine take_no (i := 39) (d := 105) rfl rfl (by kernel_rfl) (by kernel_rfl) (by kernel_rfl) (fun _ _ _ h => h) (by rfl) hHeld ?_
          (try simp only [Act.put, List.setIfInBounds_toArray, List.set_cons_zero, List.set_cons_succ])
          refine take_yes (i := 40) (d := 106) (v := ?_) rfl rfl (by kernel_rfl) (by kernel_rfl) (by kernel_rfl) (fun _ _ _ h => h) (by rfl) ?_ hHeld ?_
          rotate_left
          · intro wq hSw; (try dsimp only at hSw); go_simp; (try with_reducible rfl)
          (try simp only [Act.put, List.setIfInBounds_toArray, List.set_cons_zero, List.set_cons_succ])
          refine take_yes (i := 41) (d := 107) (v := ?_) rfl rfl (by kernel_rfl) (by kernel_rfl) (by kernel_rfl) (fun _ _ _ h => h) (by rfl) ?_ hHeld ?_
          rotate_left
          · intro wq hSw; (try dsimp only at hSw); go_simp; (try with_reducible rfl)
          (try simp only [Act.put, List.setIfInBounds_toArray, List.set_cons_zero, List.set_cons_succ])
          refine take_no (i := 42) (d := 108) rfl rfl (by kernel_rfl) (by kernel_rfl) (by kernel_rfl) (fun _ _ _ h => h) (by rfl) hHeld ?_
          (try simp only [Act.put, List.setIfInBounds_toArray, List.set_cons_zero, List.set_cons_succ])
          refine take_no (i := 43) (d := 109) rfl rfl (by kernel_rfl) (by kernel_rfl) (by kernel_rfl) (fun _ _ _ h => h) (by rfl) hHeld ?_
          (try simp only [Act.put, List.setIfInBounds_toArray, List.set_cons_zero, List.set_cons_succ])
          refine take_no (i := 44) (d := 110) rfl rfl (by kernel_rfl) (by kernel_rfl) (by kernel_rfl) (fun _ _ _ h => h) (by rfl) hHeld ?_
          (try simp only [Act.put, List.setIfInBounds_toArray, List.set_cons_zero, List.set_cons_succ])
          refine take_no (i := 45) (d := 111) rfl rfl (by kernel_rfl) (by kernel_rfl) (by kernel_rfl) (fun _ _ _ h => h) (by rfl) hHeld ?_
          (try simp only [Act.put, List.setIfInBounds_toArray, List.set_cons_zero, List.set_cons_succ])
          refine take_no (i := 46) (d := 112) rfl rfl (by kernel_rfl) (by kernel_rfl) (by kernel_rfl) (fun _ _ _ h => h) (by rfl) hHeld ?_
          (try simp only [Act.put, List.setIfInBounds_toArray, List.set_cons_zero, List.set_cons_succ])
          refine take_no (i := 47) (d := 113) rfl rfl (by kernel_rfl) (by kernel_rfl) (by kernel_rfl) (fun _ _ _ h => h) (by rfl) hHeld ?_
          (try simp only [Act.put, List.setIfInBounds_toArray, List.set_cons_zero, List.set_cons_succ])
          refine take_yes (i := 48) (d := 114) (v := ?_) rfl rfl (by kernel_rfl) (by kernel_rfl) (by kernel_rfl) (fun _ _ _ h => h) (by rfl) ?_ hHeld ?_
          rotate_left
          · intro wq hSw; (try dsimp only at hSw); go_simp; (try with_reducible rfl)
          (try simp only [Act.put, List.setIfInBounds_toArray, List.set_cons_zero, List.set_cons_succ])
          refine take_yes (i := 49) (d := 115) (v := ?_) rfl rfl (by kernel_rfl) (by kernel_rfl) (by kernel_rfl) (fun _ _ _ h => h) (by rfl) ?_ hHeld ?_
          rotate_left
          · intro wq hSw; (try dsimp only at hSw); go_simp; (try with_reducible rfl)
          (try simp only [Act.put, List.setIfInBounds_toArray, List.set_cons_zero, List.set_cons_succ])
          refine wpAnyH_done (by kernel_rfl) ?_ _
          refine NoPanic.normal ?_
          go_wp2_with fail
          exact ⟨⟨k + 1, by omega, by go_num, HES.out.kp (by repeat (first | (with_reducible exact K) | (with_reducible apply kp_alloc) | (with_reducible apply kp_drew) | (with_reducible apply kp_drewN))), kp_trans HKR.out (by repeat (first | (with_reducible exact K) | (with_reducible apply kp_alloc) | (with_reducible apply kp_drew) | (with_reducible apply kp_drewN)))⟩, by simp [intOf]; omega⟩
        · go_upto_region 15 with fail
          refine wp_region_noPanic ?_
          refine wp_region_held_drew (S := fun w' => Kp wr w' ∧ w'.cell? ⟨w.heap.size, 0, none⟩ = some (.int .i64 ax) ∧ w'.cell? ⟨w.heap.size, 1, none⟩ = some (.int .i64 ay) ∧ w'.cell? ⟨w.heap.size + 1, 0, none⟩ = some (.int .i64 bx) ∧ w'.cell? ⟨w.heap.size + 1, 1, none⟩ = some (.int .i64 bY) ∧ w'.cell? ⟨w.heap.size + 1 + 1, 0, none⟩ = some (.int .i64 cx) ∧ w'.cell? ⟨w.heap.size + 1 + 1, 1, none⟩ = some (.int .i64 cy) ∧ w'.cell? ⟨w.heap.size + 1 + 1 + 1, 0, none⟩ = some (.int .i64 dx) ∧ w'.cell? ⟨w.heap.size + 1 + 1 + 1, 1, none⟩ = some (.int .i64 dy) ∧ w'.cell? ⟨gb, goff + k * 2, none⟩ = some (.int .i64 x) ∧ w'.cell? ⟨gb, goff + k * 2 + 1, none⟩ = some (.int .i64 y)) (by kernel_rfl) ?_ (fun hHeld => ?_)
          · exact ⟨kp_drew K, cell_d c0, cell_d c1, cell_d c2, cell_d c3, cell_d c4, cell_d c5, cell_d c6, cell_d c7, cell_d q0, cell_d q1⟩
          refine take_yes (i := 0) (d := 66) (v := ?_) rfl rfl (by kernel_rfl) (by kernel_rfl) (by kernel_rfl) (fun _ _ _ h => h) (by rfl) ?_ hHeld ?_
          rotate_left
          · intro wq hSw; (try dsimp only at hSw); go_simp; (try with_reducible rfl)
          (try simp only [Act.put, List.setIfInBounds_toArray, List.set_cons_zero, List.set_cons_succ])
          refine take_yes (i := 1) (d := 67) (v := ?_) rfl rfl (by kernel_rfl) (by kernel_rfl) (by kernel_rfl) (fun _ _ _ h => h) (by rfl) ?_ hHeld ?_
          rotate_left
          · intro wq hSw; (try dsimp only at hSw); go_simp; (try with_reducible rfl)
          (try simp only [Act.put, List.setIfInBounds_toArray, List.set_cons_zero, List.set_cons_succ])
          refine take_yes (i := 2) (d := 68) (v := ?_) rfl rfl (by kernel_rfl) (by kernel_rfl) (by kernel_rfl) (fun _ _ _ h => h) (by rfl) ?_ hHeld ?_
          rotate_left
          · intro wq hSw; (try dsimp only at hSw); go_simp; (try with_reducible rfl)
          (try simp only [Act.put, List.setIfInBounds_toArray, List.set_cons_zero, List.set_cons_succ])
          refine take_yes (i := 3) (d := 69) (v := ?_) rfl rfl (by kernel_rfl) (by kernel_rfl) (by kernel_rfl) (fun _ _ _ h => h) (by rfl) ?_ hHeld ?_
          rotate_left
          · intro wq hSw; (try dsimp only at hSw); go_simp; (try with_reducible rfl)
          (try simp only [Act.put, List.setIfInBounds_toArray, List.set_cons_zero, List.set_cons_succ])
          refine take_yes (i := 4) (d := 70) (v := ?_) rfl rfl (by kernel_rfl) (by kernel_rfl) (by kernel_rfl) (fun _ _ _ h => h) (by rfl) ?_ hHeld ?_
          rotate_left
          · intro wq hSw; (try dsimp only at hSw); go_simp; (try with_reducible rfl)
          (try simp only [Act.put, List.setIfInBounds_toArray, List.set_cons_zero, List.set_cons_succ])
          refine take_yes (i := 5) (d := 71) (v := ?_) rfl rfl (by kernel_rfl) (by kernel_rfl) (by kernel_rfl) (fun _ _ _ h => h) (by rfl) ?_ hHeld ?_
          rotate_left
          · intro wq hSw; (try dsimp only at hSw); go_simp; (try with_reducible rfl)
          (try simp only [Act.put, List.setIfInBounds_toArray, List.set_cons_zero, List.set_cons_succ])
          refine wpAnyH_ready (rs := [6]) (by kernel_rfl) (by simp) ?_
          refine AllReadyH.cons rfl (fun K' hK => ?_) AllReadyH.nil
          go_simp
          go_at_call 16
          refine (O1.out _).mono ?_
          rintro e w4 ⟨rfl, hk⟩
          replace K : Kp wr w4 := kp_trans (by repeat (first | (with_reducible exact K) | (with_reducible apply kp_alloc) | (with_reducible apply kp_drew) | (with_reducible apply kp_drewN))) hk
          replace c0 := (BAR.out _ K).1; replace c1 := (BAR.out _ K).2.1; replace c2 := (BAR.out _ K).2.2.1; replace c3 := (BAR.out _ K).2.2.2.1; replace c4 := (BAR.out _ K).2.2.2.2.1; replace c5 := (BAR.out _ K).2.2.2.2.2.1; replace c6 := (BAR.out _ K).2.2.2.2.2.2.1; replace c7 := (BAR.out _ K).2.2.2.2.2.2.2.1; replace q0 := (BAR.out _ K).2.2.2.2.2.2.2.2.1; replace q1 := (BAR.out _ K).2.2.2.2.2.2.2.2.2
          replace l0 : w.heap.size < w4.heap.size := cell_lt c0; replace l2 : w.heap.size + 1 < w4.heap.size := cell_lt c2; replace l4 : w.heap.size + 1 + 1 < w4.heap.size := cell_lt c4; replace l6 : w.heap.size + 1 + 1 + 1 < w4.heap.size := cell_lt c6
          clear hk hHeld
          refine hK.out _ _ ?_ (fun hHeld => ?_)
          · exact ⟨K, c0, c1, c2, c3, c4, c5, c6, c7, q0, q1⟩
          clear hK K'
          (try simp only [Act.put, List.setIfInBounds_toArray, List.set_cons_zero, List.set_cons_succ])
          refine take_yes (i := 7) (d := 73) (v := ?_) rfl rfl (by kernel_rfl) (by kernel_rfl) (by kernel_rfl) (fun _ _ _ h => h) (by rfl) ?_ hHeld ?_
          rotate_left
          · intro wq hSw; (try dsimp only at hSw); go_simp; (try with_reducible rfl)
          (try simp only [Act.put, List.setIfInBounds_toArray, List.set_cons_zero, List.set_cons_succ])
          refine take_yes (i := 8) (d := 74) (v := ?_) rfl rfl (by kernel_rfl) (by kernel_rfl) (by kernel_rfl) (fun _ _ _ h => h) (by rfl) ?_ hHeld ?_
          rotate_left
          · intro wq hSw; (try dsimp only at hSw); go_simp; (try with_reducible rfl)
          (try simp only [Act.put, List.setIfInBounds_toArray, List.set_cons_zero, List.set_cons_succ])
          refine take_yes (i := 9) (d := 75) (v := ?_) rfl rfl (by kernel_rfl) (by kernel_rfl) (by kernel_rfl) (fun _ _ _ h => h) (by rfl) ?_ hHeld ?_
          rotate_left
          · intro wq hSw; (try dsimp only at hSw); go_simp; (try with_reducible rfl)
          (try simp only [Act.put, List.setIfInBounds_toArray, List.set_cons_zero, List.set_cons_succ])
          refine take_yes (i := 10) (d := 76) (v := ?_) rfl rfl (by kernel_rfl) (by kernel_rfl) (by kernel_rfl) (fun _ _ _ h => h) (by rfl) ?_ hHeld ?_
          rotate_left
          · intro wq hSw; (try dsimp only at hSw); go_simp; (try with_reducible rfl)
          (try simp only [Act.put, List.setIfInBounds_toArray, List.set_cons_zero, List.set_cons_succ])
          refine take_yes (i := 11) (d := 77) (v := ?_) rfl rfl (by kernel_rfl) (by kernel_rfl) (by kernel_rfl) (fun _ _ _ h => h) (by rfl) ?_ hHeld ?_
          rotate_left
          · intro wq hSw; (try dsimp only at hSw); go_simp; (try with_reducible rfl)
          (try simp only [Act.put, List.setIfInBounds_toArray, List.set_cons_zero, List.set_cons_succ])
          refine take_yes (i := 12) (d := 78) (v := ?_) rfl rfl (by kernel_rfl) (by kernel_rfl) (by kernel_rfl) (fun _ _ _ h => h) (by rfl) ?_ hHeld ?_
          rotate_left
          · intro wq hSw; (try dsimp only at hSw); go_simp; (try with_reducible rfl)
          (try simp only [Act.put, List.setIfInBounds_toArray, List.set_cons_zero, List.set_cons_succ])
          refine take_yes (i := 13) (d := 79) (v := ?_) rfl rfl (by kernel_rfl) (by kernel_rfl) (by kernel_rfl) (fun _ _ _ h => h) (by rfl) ?_ hHeld ?_
          rotate_left
          · intro wq hSw; (try dsimp only at hSw); go_simp; (try with_reducible rfl)
          (try simp only [Act.put, List.setIfInBounds_toArray, List.set_cons_zero, List.set_cons_succ])
          refine take_yes (i := 14) (d := 80) (v := ?_) rfl rfl (by kernel_rfl) (by kernel_rfl) (by kernel_rfl) (fun _ _ _ h => h) (by rfl) ?_ hHeld ?_
          rotate_left
          · intro wq hSw; (try dsimp only at hSw); go_simp; (try with_reducible rfl)
          (try simp only [Act.put, List.setIfInBounds_toArray, List.set_cons_zero, List.set_cons_succ])
          refine wpAnyH_ready (rs := [15]) (by kernel_rfl) (by simp) ?_
          refine AllReadyH.cons rfl (fun K' hK => ?_) AllReadyH.nil
          go_simp
          go_at_call 16
          refine (O2.out _).mono ?_
          rintro e w5 ⟨rfl, hk⟩
          replace K : Kp wr w5 := kp_trans (by repeat (first | (with_reducible exact K) | (with_reducible apply kp_alloc) | (with_reducible apply kp_drew) | (with_reducible apply kp_drewN))) hk
          replace c0 := (BAR.out _ K).1; replace c1 := (BAR.out _ K).2.1; replace c2 := (BAR.out _ K).2.2.1; replace c3 := (BAR.out _ K).2.2.2.1; replace c4 := (BAR.out _ K).2.2.2.2.1; replace c5 := (BAR.out _ K).2.2.2.2.2.1; replace c6 := (BAR.out _ K).2.2.2.2.2.2.1; replace c7 := (BAR.out _ K).2.2.2.2.2.2.2.1; replace q0 := (BAR.out _ K).2.2.2.2.2.2.2.2.1; replace q1 := (BAR.out _ K).2.2.2.2.2.2.2.2.2
          replace l0 : w.heap.size < w5.heap.size := cell_lt c0; replace l2 : w.heap.size + 1 < w5.heap.size := cell_lt c2; replace l4 : w.heap.size + 1 + 1 < w5.heap.size := cell_lt c4; replace l6 : w.heap.size + 1 + 1 + 1 < w5.heap.size := cell_lt c6
          clear hk hHeld
          refine hK.out _ _ ?_ (fun hHeld => ?_)
          · exact ⟨K, c0, c1, c2, c3, c4, c5, c6, c7, q0, q1⟩
          clear hK K'
          (try simp only [Act.put, List.setIfInBounds_toArray, List.set_cons_zero, List.set_cons_succ])
          refine take_yes (i := 16) (d := 82) (v := ?_) rfl rfl (by kernel_rfl) (by kernel_rfl) (by kernel_rfl) (fun _ _ _ h => h) (by rfl) ?_ hHeld ?_
          rotate_left
          · intro wq hSw; (try dsimp only at hSw); go_simp; (try with_reducible rfl)
          (try simp only [Act.put, List.setIfInBounds_toArray, List.set_cons_zero, List.set_cons_succ])
          refine take_yes (i := 17) (d := 83) (v := ?_) rfl rfl (by kernel_rfl) (by kernel_rfl) (by kernel_rfl) (fun _ _ _ h => h) (by rfl) ?_ hHeld ?_
          rotate_left
          · intro wq hSw; (try dsimp only at hSw); go_simp; (try with_reducible rfl)
          (try simp only [Act.put, List.setIfInBounds_toArray, List.set_cons_zero, List.set_cons_succ])
          refine take_yes (i := 18) (d := 84) (v := ?_) rfl rfl (by kernel_rfl) (by kernel_rfl) (by kernel_rfl) (fun _ _ _ h => h) (by rfl) ?_ hHeld ?_
          rotate_left
          · intro wq hSw; (try dsimp only at hSw); go_simp; (try with_reducible rfl)
          (try simp only [Act.put, List.setIfInBounds_toArray, List.set_cons_zero, List.set_cons_succ])
          refine take_yes (i := 19) (d := 85) (v := ?_) rfl rfl (by kernel_rfl) (by kernel_rfl) (by kernel_rfl) (fun _ _ _ h => h) (by rfl) ?_ hHeld ?_
          rotate_left
          · intro wq hSw; (try dsimp only at hSw); go_simp; (try with_reducible rfl)
          (try simp only [Act.put, List.setIfInBounds_toArray, List.set_cons_zero, List.set_cons_succ])
          refine take_yes (i := 20) (d := 86) (v := ?_) rfl rfl (by kernel_rfl) (by kernel_rfl) (by kernel_rfl) (fun _ _ _ h => h) (by rfl) ?_ hHeld ?_
          rotate_left
          · intro wq hSw; (try dsimp only at hSw); go_simp; (try with_reducible rfl)
          (try simp only [Act.put, List.setIfInBounds_toArray, List.set_cons_zero, List.set_cons_succ])
          refine take_yes (i := 21) (d := 87) (v := ?_) rfl rfl (by kernel_rfl) (by kernel_rfl) (by kernel_rfl) (fun _ _ _ h => h) (by rfl) ?_ hHeld ?_
          rotate_left
          · intro wq hSw; (try dsimp only at hSw); go_simp; (try with_reducible rfl)
          (try simp only [Act.put, List.setIfInBounds_toArray, List.set_cons_zero, List.set_cons_succ])
          refine take_yes (i := 22) (d := 88) (v := ?_) rfl rfl (by kernel_rfl) (by kernel_rfl) (by kernel_rfl) (fun _ _ _ h => h) (by rfl) ?_ hHeld ?_
          rotate_left
          · intro wq hSw; (try dsimp only at hSw); go_simp; (try with_reducible rfl)
          (try simp only [Act.put, List.setIfInBounds_toArray, List.set_cons_zero, List.set_cons_succ])
          refine take_yes (i := 23) (d := 89) (v := ?_) rfl rfl (by kernel_rfl) (by kernel_rfl) (by kernel_rfl) (fun _ _ _ h => h) (by rfl) ?_ hHeld ?_
          rotate_left
          · intro wq hSw; (try dsimp only at hSw); go_simp; (try with_reducible rfl)
          (try simp only [Act.put, List.setIfInBounds_toArray, List.set_cons_zero, List.set_cons_succ])
          refine take_yes (i := 24) (d := 90) (v := ?_) rfl rfl (by kernel_rfl) (by kernel_rfl) (by kernel_rfl) (fun _ _ _ h => h) (by rfl) ?_ hHeld ?_
          rotate_left
          · intro wq hSw; (try dsimp only at hSw); go_simp; (try with_reducible rfl)
          (try simp only [Act.put, List.setIfInBounds_toArray, List.set_cons_zero, List.set_cons_succ])
          refine take_yes (i := 25) (d := 91) (v := ?_) rfl rfl (by kernel_rfl) (by kernel_rfl) (by kernel_rfl) (fun _ _ _ h => h) (by rfl) ?_ hHeld ?_
          rotate_left
          · intro wq hSw; (try dsimp only at hSw); go_simp; (try with_reducible rfl)
          (try simp only [Act.put, List.setIfInBounds_toArray, List.set_cons_zero, List.set_cons_succ])
          refine take_yes (i := 26) (d := 92) (v := ?_) rfl rfl (by kernel_rfl) (by kernel_rfl) (by kernel_rfl) (fun _ _ _ h => h) (by rfl) ?_ hHeld ?_
          rotate_left
          · intro wq hSw; (try dsimp only at hSw); go_simp; (try with_reducible rfl)
          (try simp only [Act.put, List.setIfInBounds_toArray, List.set_cons_zero, List.set_cons_succ])
          refine take_yes (i := 27) (d := 93) (v := ?_) rfl rfl (by kernel_rfl) (by kernel_rfl) (by kernel_rfl) (fun _ _ _ h => h) (by rfl) ?_ hHeld ?_
          rotate_left
          · intro wq hSw; (try dsimp only at hSw); go_simp; (try with_reducible rfl)
          (try simp only [Act.put, List.setIfInBounds_toArray, List.set_cons_zero, List.set_cons_succ])
          refine take_yes (i := 28) (d := 94) (v := ?_) rfl rfl (by kernel_rfl) (by kernel_rfl) (by kernel_rfl) (fun _ _ _ h => h) (by rfl) ?_ hHeld ?_
          rotate_left
          · intro wq hSw; (try dsimp only at hSw); go_simp; (try with_reducible rfl)
          (try simp only [Act.put, List.setIfInBounds_toArray, List.set_cons_zero, List.set_cons_succ])
          refine take_yes (i := 29) (d := 95) (v := ?_) rfl rfl (by kernel_rfl) (by kernel_rfl) (by kernel_rfl) (fun _ _ _ h => h) (by rfl) ?_ hHeld ?_
          rotate_left
          · intro wq hSw; (try dsimp only at hSw); go_simp; (try with_reducible rfl)
          (try simp only [Act.put, List.setIfInBounds_toArray, List.set_cons_zero, List.set_cons_succ])
          refine take_yes (i := 30) (d := 96) (v := ?_) rfl rfl (by kernel_rfl) (by kernel_rfl) (by kernel_rfl) (fun _ _ _ h => h) (by rfl) ?_ hHeld ?_
          rotate_left
          · intro wq hSw; (try dsimp only at hSw); go_simp; (try with_reducible rfl)
          (try simp only [Act.put, List.setIfInBounds_toArray, List.set_cons_zero, List.set_cons_succ])
          refine take_yes (i := 31) (d := 97) (v := ?_) rfl rfl (by kernel_rfl) (by kernel_rfl) (by kernel_rfl) (fun _ _ _ h => h) (by rfl) ?_ hHeld ?_
          rotate_left
          · intro wq hSw; (try dsimp only at hSw); go_simp; (try with_reducible rfl)
          (try simp only [Act.put, List.setIfInBounds_toArray, List.set_cons_zero, List.set_cons_succ])
          refine take_yes (i := 32) (d := 98) (v := ?_) rfl rfl (by kernel_rfl) (by kernel_rfl) (by kernel_rfl) (fun _ _ _ h => h) (by rfl) ?_ hHeld ?_
          rotate_left
          · intro wq hSw; (try dsimp only at hSw); go_simp; (try with_reducible rfl)
          (try simp only [Act.put, List.setIfInBounds_toArray, List.set_cons_zero, List.set_cons_succ])
          refine take_yes (i := 33) (d := 99) (v := ?_) rfl rfl (by kernel_rfl) (by kernel_rfl) (by kernel_rfl) (fun _ _ _ h => h) (by rfl) ?_ hHeld ?_
          rotate_left
          · intro wq hSw; (try dsimp only at hSw); go_simp; (try with_reducible rfl)
          (try simp only [Act.put, List.setIfInBounds_toArray, List.set_cons_zero, List.set_cons_succ])
          refine take_yes (i := 34) (d := 100) (v := ?_) rfl rfl (by kernel_rfl) (by kernel_rfl) (by kernel_rfl) (fun _ _ _ h => h) (by rfl) ?_ hHeld ?_
          rotate_left
          · intro wq hSw; (try dsimp only at hSw); go_simp; (try with_reducible rfl)
          (try simp only [Act.put, List.setIfInBounds_toArray, List.set_cons_zero, List.set_cons_succ])
          refine take_yes (i := 35) (d := 101) (v := ?_) rfl rfl (by kernel_rfl) (by kernel_rfl) (by kernel_rfl) (fun _ _ _ h => h) (by rfl) ?_ hHeld ?_
          rotate_left
          · intro wq hSw; (try dsimp only at hSw); go_simp; (try with_reducible rfl)
          (try simp only [Act.put, List.setIfInBounds_toArray, List.set_cons_zero, List.set_cons_succ])
          refine take_yes (i := 36) (d := 102) (v := ?_) rfl rfl (by kernel_rfl) (by kernel_rfl) (by kernel_rfl) (fun _ _ _ h => h) (by rfl) ?_ hHeld ?_
          rotate_left
          · intro wq hSw; (try dsimp only at hSw); go_simp; (try with_reducible rfl)
          (try simp only [Act.put, List.setIfInBounds_toArray, List.set_cons_zero, List.set_cons_succ])
          refine take_yes (i := 37) (d := 103) (v := ?_) rfl rfl (by kernel_rfl) (by kernel_rfl) (by kernel_rfl) (fun _ _ _ h => h) (by rfl) ?_ hHeld ?_
          rotate_left
          · intro wq hSw; (try dsimp only at hSw); go_simp; (try with_reducible rfl)
          (try simp only [Act.put, List.setIfInBounds_toArray, List.set_cons_zero, List.set_cons_succ])
          refine take_yes (i := 38) (d := 104) (v := ?_) rfl rfl (by kernel_rfl) (by kernel_rfl) (by kernel_rfl) (fun _ _ _ h => h) (by rfl) ?_ hHeld ?_
          rotate_left
          · intro wq hSw; (try dsimp only at hSw); go_simp; (try with_reducible rfl)
          (try simp only [Act.put, List.setIfInBounds_toArray, List.set_cons_zero, List.set_cons_succ])
          refine take_yes (i := 39) (d := 105) (v := ?_) rfl rfl (by kernel_rfl) (by kernel_rfl) (by kernel_rfl) (fun _ _ _ h => h) (by rfl) ?_ hHeld ?_
          rotate_left
          · intro wq hSw; (try dsimp only at hSw); go_simp; (try with_reducible rfl)
          (try simp only [Act.put, List.setIfInBounds_toArray, List.set_cons_zero, List.set_cons_succ])
          refine take_yes (i := 40) (d := 106) (v := ?_) rfl rfl (by kernel_rfl) (by kernel_rfl) (by kernel_rfl) (fun _ _ _ h => h) (by rfl) ?_ hHeld ?_
          rotate_left
          · intro wq hSw; (try dsimp only at hSw); go_simp; (try with_reducible rfl)
          (try simp only [Act.put, List.setIfInBounds_toArray, List.set_cons_zero, List.set_cons_succ])
          refine take_yes (i := 41) (d := 107) (v := ?_) rfl rfl (by kernel_rfl) (by kernel_rfl) (by kernel_rfl) (fun _ _ _ h => h) (by rfl) ?_ hHeld ?_
          rotate_left
          · intro wq hSw; (try dsimp only at hSw); go_simp; (try with_reducible rfl)
          (try simp only [Act.put, List.setIfInBounds_toArray, List.set_cons_zero, List.set_cons_succ])
          refine take_no (i := 42) (d := 108) rfl rfl (by kernel_rfl) (by kernel_rfl) (by kernel_rfl) (fun _ _ _ h => h) (by rfl) hHeld ?_
          (try simp only [Act.put, List.setIfInBounds_toArray, List.set_cons_zero, List.set_cons_succ])
          refine take_no (i := 43) (d := 109) rfl rfl (by kernel_rfl) (by kernel_rfl) (by kernel_rfl) (fun _ _ _ h => h) (by rfl) hHeld ?_
          (try simp only [Act.put, List.setIfInBounds_toArray, List.set_cons_zero, List.set_cons_succ])
          refine take_no (i := 44) (d := 110) rfl rfl (by kernel_rfl) (by kernel_rfl) (by kernel_rfl) (fun _ _ _ h => h) (by rfl) hHeld ?_
          (try simp only [Act.put, List.setIfInBounds_toArray, List.set_cons_zero, List.set_cons_succ])
          refine take_no (i := 45) (d := 111) rfl rfl (by kernel_rfl) (by kernel_rfl) (by kernel_rfl) (fun _ _ _ h => h) (by rfl) hHeld ?_
          (try simp only [Act.put, List.setIfInBounds_toArray, List.set_cons_zero, List.set_cons_succ])
          refine take_no (i := 46) (d := 112) rfl rfl (by kernel_rfl) (by kernel_rfl) (by kernel_rfl) (fun _ _ _ h => h) (by rfl) hHeld ?_
          (try simp only [Act.put, List.setIfInBounds_toArray, List.set_cons_zero, List.set_cons_succ])
          refine take_no (i := 47) (d := 113) rfl rfl (by kernel_rfl) (by kernel_rfl) (by kernel_rfl) (fun _ _ _ h => h) (by rfl) hHeld ?_
          (try simp only [Act.put, List.setIfInBounds_toArray, List.set_cons_zero, List.set_cons_succ])
          refine take_yes (i := 48) (d := 114) (v := ?_) rfl rfl (by kernel_rfl) (by kernel_rfl) (by kernel_rfl) (fun _ _ _ h => h) (by rfl) ?_ hHeld ?_
          rotate_left
          · intro wq hSw; (try dsimp only at hSw); go_simp; (try with_reducible rfl)
          (try simp only [Act.put, List.setIfInBounds_toArray, List.set_cons_zero, List.set_cons_succ])
          refine take_yes (i := 49) (d := 115) (v := ?_) rfl rfl (by kernel_rfl) (by kernel_rfl) (by kernel_rfl) (fun _ _ _ h => h) (by rfl) ?_ hHeld ?_
          rotate_left
          · intro wq hSw; (try dsimp only at hSw); go_simp; (try with_reducible rfl)
          (try simp only [Act.put, List.setIfInBounds_toArray, List.set_cons_zero, List.set_cons_succ])
          refine wpAnyH_done (by kernel_rfl) ?_ _
          refine NoPanic.normal ?_
          go_wp2_with fail
          exact ⟨⟨k + 1, by omega, by go_num, HES.out.kp (by repeat (first | (with_reducible exact K) | (with_reducible apply kp_alloc) | (with_reducible apply kp_drew) | (with_reducible apply kp_drewN))), kp_trans HKR.out (by repeat (first | (with_reducible exact K) | (with_reducible apply kp_alloc) | (with_reducible apply kp_drew) | (with_reducible apply kp_drewN)))⟩, by simp [intOf]; omega⟩
        · go_upto_region 15 with fail
          refine wp_region_noPanic ?_
          refine wp_region_held_drew (S := fun w' => Kp wr w' ∧ w'.cell? ⟨w.heap.size, 0, none⟩ = some (.int .i64 ax) ∧ w'.cell? ⟨w.heap.size, 1, none⟩ = some (.int .i64 ay) ∧ w'.cell? ⟨w.heap.size + 1, 0, none⟩ = some (.int .i64 bx) ∧ w'.cell? ⟨w.heap.size + 1, 1, none⟩ = some (.int .i64 bY) ∧ w'.cell? ⟨w.heap.size + 1 + 1, 0, none⟩ = some (.int .i64 cx) ∧ w'.cell? ⟨w.heap.size + 1 + 1, 1, none⟩ = some (.int .i64 cy) ∧ w'.cell? ⟨w.heap.size + 1 + 1 + 1, 0, none⟩ = some (.int .i64 dx) ∧ w'.cell? ⟨w.heap.size + 1 + 1 + 1, 1, none⟩ = some (.int .i64 dy) ∧ w'.cell? ⟨gb, goff + k * 2, none⟩ = some (.int .i64 x) ∧ w'.cell? ⟨gb, goff + k * 2 + 1, none⟩ = some (.int .i64 y)) (by kernel_rfl) ?_ (fun hHeld => ?_)
          · exact ⟨kp_drew K, cell_d c0, cell_d c1, cell_d c2, cell_d c3, cell_d c4, cell_d c5, cell_d c6, cell_d c7, cell_d q0, cell_d q1⟩
          refine take_yes (i := 0) (d := 66) (v := ?_) rfl rfl (by kernel_rfl) (by kernel_rfl) (by kernel_rfl) (fun _ _ _ h => h) (by rfl) ?_ hHeld ?_
          rotate_left
          · intro wq hSw; (try dsimp only at hSw); go_simp; (try with_reducible rfl)
          (try simp only [Act.put, List.setIfInBounds_toArray, List.set_cons_zero, List.set_cons_succ])
          refine take_yes (i := 1) (d := 67) (v := ?_) rfl rfl (by kernel_rfl) (by kernel_rfl) (by kernel_rfl) (fun _ _ _ h => h) (by rfl) ?_ hHeld ?_
          rotate_left
          · intro wq hSw; (try dsimp only at hSw); go_simp; (try with_reducible rfl)
          (try simp only [Act.put, List.setIfInBounds_toArray, List.set_cons_zero, List.set_cons_succ])
          refine take_yes (i := 2) (d := 68) (v := ?_) rfl rfl (by kernel_rfl) (by kernel_rfl) (by kernel_rfl) (fun _ _ _ h => h) (by rfl) ?_ hHeld ?_
          rotate_left
          · intro wq hSw; (try dsimp only at hSw); go_simp; (try with_reducible rfl)
          (try simp only [Act.put, List.setIfInBounds_toArray, List.set_cons_zero, List.set_cons_succ])
          refine take_yes (i := 3) (d := 69) (v := ?_) rfl rfl (by kernel_rfl) (by kernel_rfl) (by kernel_rfl) (fun _ _ _ h => h) (by rfl) ?_ hHeld ?_
          rotate_left
          · intro wq hSw; (try dsimp only at hSw); go_simp; (try with_reducible rfl)
          (try simp only [Act.put, List.setIfInBounds_toArray, List.set_cons_zero, List.set_cons_succ])
          refine take_yes (i := 4) (d := 70) (v := ?_) rfl rfl (by kernel_rfl) (by kernel_rfl) (by kernel_rfl) (fun _ _ _ h => h) (by rfl) ?_ hHeld ?_
          rotate_left
          · intro wq hSw; (try dsimp only at hSw); go_simp; (try with_reducible rfl)
          (try simp only [Act.put, List.setIfInBounds_toArray, List.set_cons_zero, List.set_cons_succ])
          refine take_yes (i := 5) (d := 71) (v := ?_) rfl rfl (by kernel_rfl) (by kernel_rfl) (by kernel_rfl) (fun _ _ _ h => h) (by rfl) ?_ hHeld ?_
          rotate_left
          · intro wq hSw; (try dsimp only at hSw); go_simp; (try with_reducible rfl)
          (try simp only [Act.put, List.setIfInBounds_toArray, List.set_cons_zero, List.set_cons_succ])
          refine wpAnyH_ready (rs := [6]) (by kernel_rfl) (by simp) ?_
          refine AllReadyH.cons rfl (fun K' hK => ?_) AllReadyH.nil
          go_simp
          go_at_call 16
          refine (O1.out _).mono ?_
          rintro e w4 ⟨rfl, hk⟩
          replace K : Kp wr w4 := kp_trans (by repeat (first | (with_reducible exact K) | (with_reducible apply kp_alloc) | (with_reducible apply kp_drew) | (with_reducible apply kp_drewN))) hk
          replace c0 := (BAR.out _ K).1; replace c1 := (BAR.out _ K).2.1; replace c2 := (BAR.out _ K).2.2.1; replace c3 := (BAR.out _ K).2.2.2.1; replace c4 := (BAR.out _ K).2.2.2.2.1; replace c5 := (BAR.out _ K).2.2.2.2.2.1; replace c6 := (BAR.out _ K).2.2.2.2.2.2.1; replace c7 := (BAR.out _ K).2.2.2.2.2.2.2.1; replace q0 := (BAR.out _ K).2.2.2.2.2.2.2.2.1; replace q1 := (BAR.out _ K).2.2.2.2.2.2.2.2.2
          replace l0 : w.heap.size < w4.heap.size := cell_lt c0; replace l2 : w.heap.size + 1 < w4.heap.size := cell_lt c2; replace l4 : w.heap.size + 1 + 1 < w4.heap.size := cell_lt c4; replace l6 : w.heap.size + 1 + 1 + 1 < w4.heap.size := cell_lt c6
          clear hk hHeld
          refine hK.out _ _ ?_ (fun hHeld => ?_)
          · exact ⟨K, c0, c1, c2, c3, c4, c5, c6, c7, q0, q1⟩
          clear hK K'
          (try simp only [Act.put, List.setIfInBounds_toArray, List.set_cons_zero, List.set_cons_succ])
          refine take_yes (i := 7) (d := 73) (v := ?_) rfl rfl (by kernel_rfl) (by kernel_rfl) (by kernel_rfl) (fun _ _ _ h => h) (by rfl) ?_ hHeld ?_
          rotate_left
          · intro wq hSw; (try dsimp only at hSw); go_simp; (try with_reducible rfl)
          (try simp only [Act.put, List.setIfInBounds_toArray, List.set_cons_zero, List.set_cons_succ])
          refine take_yes (i := 8) (d := 74) (v := ?_) rfl rfl (by kernel_rfl) (by kernel_rfl) (by kernel_rfl) (fun _ _ _ h => h) (by rfl) ?_ hHeld ?_
          rotate_left
          · intro wq hSw; (try dsimp only at hSw); go_simp; (try with_reducible rfl)
          (try simp only [Act.put, List.setIfInBounds_toArray, List.set_cons_zero, List.set_cons_succ])
          refine take_yes (i := 9) (d := 75) (v := ?_) rfl rfl (by kernel_rfl) (by kernel_rfl) (by kernel_rfl) (fun _ _ _ h => h) (by rfl) ?_ hHeld ?_
          rotate_left
          · intro wq hSw; (try dsimp only at hSw); go_simp; (try with_reducible rfl)
          (try simp only [Act.put, List.setIfInBounds_toArray, List.set_cons_zero, List.set_cons_succ])
          refine take_yes (i := 10) (d := 76) (v := ?_) rfl rfl (by kernel_rfl) (by kernel_rfl) (by kernel_rfl) (fun _ _ _ h => h) (by rfl) ?_ hHeld ?_
          rotate_left
          · intro wq hSw; (try dsimp only at hSw); go_simp; (try with_reducible rfl)
          (try simp only [Act.put, List.setIfInBounds_toArray, List.set_cons_zero, List.set_cons_succ])
          refine take_yes (i := 11) (d := 77) (v := ?_) rfl rfl (by kernel_rfl) (by kernel_rfl) (by kernel_rfl) (fun _ _ _ h => h) (by rfl) ?_ hHeld ?_
          rotate_left
          · intro wq hSw; (try dsimp only at hSw); go_simp; (try with_reducible rfl)
          (try simp only [Act.put, List.setIfInBounds_toArray, List.set_cons_zero, List.set_cons_succ])
          refine take_yes (i := 12) (d := 78) (v := ?_) rfl rfl (by kernel_rfl) (by kernel_rfl) (by kernel_rfl) (fun _ _ _ h => h) (by rfl) ?_ hHeld ?_
          rotate_left
          · intro wq hSw; (try dsimp only at hSw); go_simp; (try with_reducible rfl)
          (try simp only [Act.put, List.setIfInBounds_toArray, List.set_cons_zero, List.set_cons_succ])
          refine take_yes (i := 13) (d := 79) (v := ?_) rfl rfl (by kernel_rfl) (by kernel_rfl) (by kernel_rfl) (fun _ _ _ h => h) (by rfl) ?_ hHeld ?_
          rotate_left
          · intro wq hSw; (try dsimp only at hSw); go_simp; (try with_reducible rfl)
          (try simp only [Act.put, List.setIfInBounds_toArray, List.set_cons_zero, List.set_cons_succ])
          refine take_yes (i := 14) (d := 80) (v := ?_) rfl rfl (by kernel_rfl) (by kernel_rfl) (by kernel_rfl) (fun _ _ _ h => h) (by rfl) ?_ hHeld ?_
          rotate_left
          · intro wq hSw; (try dsimp only at hSw); go_simp; (try with_reducible rfl)
          (try simp only [Act.put, List.setIfInBounds_toArray, List.set_cons_zero, List.set_cons_succ])
          refine wpAnyH_ready (rs := [15]) (by kernel_rfl) (by simp) ?_
          refine AllReadyH.cons rfl (fun K' hK => ?_) AllReadyH.nil
          go_simp
          go_at_call 16
          refine (O2.out _).mono ?_
          rintro e w5 ⟨rfl, hk⟩
          replace K : Kp wr w5 := kp_trans (by repeat (first | (with_reducible exact K) | (with_reducible apply kp_alloc) | (with_reducible apply kp_drew) | (with_reducible apply kp_drewN))) hk
          replace c0 := (BAR.out _ K).1; replace c1 := (BAR.out _ K).2.1; replace c2 := (BAR.out _ K).2.2.1; replace c3 := (BAR.out _ K).2.2.2.1; replace c4 := (BAR.out _ K).2.2.2.2.1; replace c5 := (BAR.out _ K).2.2.2.2.2.1; replace c6 := (BAR.out _ K).2.2.2.2.2.2.1; replace c7 := (BAR.out _ K).2.2.2.2.2.2.2.1; replace q0 := (BAR.out _ K).2.2.2.2.2.2.2.2.1; replace q1 := (BAR.out _ K).2.2.2.2.2.2.2.2.2
          replace l0 : w.heap.size < w5.heap.size := cell_lt c0; replace l2 : w.heap.size + 1 < w5.heap.size := cell_lt c2; replace l4 : w.heap.size + 1 + 1 < w5.heap.size := cell_lt c4; replace l6 : w.heap.size + 1 + 1 + 1 < w5.heap.size := cell_lt c6
          clear hk hHeld
          refine hK.out _ _ ?_ (fun hHeld => ?_)
          · exact ⟨K, c0, c1, c2, c3, c4, c5, c6, c7, q0, q1⟩
          clear hK K'
          (try simp only [Act.put, List.setIfInBounds_toArray, List.set_cons_zero, List.set_cons_succ])
          refine take_yes (i := 16) (d := 82) (v := ?_) rfl rfl (by kernel_rfl) (by kernel_rfl) (by kernel_rfl) (fun _ _ _ h => h) (by rfl) ?_ hHeld ?_
          rotate_left
          · intro wq hSw; (try dsimp only at hSw); go_simp; (try with_reducible rfl)
          (try simp only [Act.put, List.setIfInBounds_toArray, List.set_cons_zero, List.set_cons_succ])
          refine take_yes (i := 17) (d := 83) (v := ?_) rfl rfl (by kernel_rfl) (by kernel_rfl) (by kernel_rfl) (fun _ _ _ h => h) (by rfl) ?_ hHeld ?_
          rotate_left
          · intro wq hSw; (try dsimp only at hSw); go_simp; (try with_reducible rfl)
          (try simp only [Act.put, List.setIfInBounds_toArray, List.set_cons_zero, List.set_cons_succ])
          refine take_yes (i := 18) (d := 84) (v := ?_) rfl rfl (by kernel_rfl) (by kernel_rfl) (by kernel_rfl) (fun _ _ _ h => h) (by rfl) ?_ hHeld ?_
          rotate_left
          · intro wq hSw; (try dsimp only at hSw); go_simp; (try with_reducible rfl)
          (try simp only [Act.put, List.setIfInBounds_toArray, List.set_cons_zero, List.set_cons_succ])
          refine take_yes (i := 19) (d := 85) (v := ?_) rfl rfl (by kernel_rfl) (by kernel_rfl) (by kernel_rfl) (fun _ _ _ h => h) (by rfl) ?_ hHeld ?_
          rotate_left
          · intro wq hSw; (try dsimp only at hSw); go_simp; (try with_reducible rfl)
          (try simp only [Act.put, List.setIfInBounds_toArray, List.set_cons_zero, List.set_cons_succ])
          refine take_yes (i := 20) (d := 86) (v := ?_) rfl rfl (by kernel_rfl) (by kernel_rfl) (by kernel_rfl) (fun _ _ _ h => h) (by rfl) ?_ hHeld ?_
          rotate_left
          · intro wq hSw; (try dsimp only at hSw); go_simp; (try with_reducible rfl)
          (try simp only [Act.put, List.setIfInBounds_toArray, List.set_cons_zero, List.set_cons_succ])
          refine take_yes (i := 21) (d := 87) (v := ?_) rfl rfl (by kernel_rfl) (by kernel_rfl) (by kernel_rfl) (fun _ _ _ h => h) (by rfl) ?_ hHeld ?_
          rotate_left
          · intro wq hSw; (try dsimp only at hSw); go_simp; (try with_reducible rfl)
          (try simp only [Act.put, List.setIfInBounds_toArray, List.set_cons_zero, List.set_cons_succ])
          refine take_yes (i := 22) (d := 88) (v := ?_) rfl rfl (by kernel_rfl) (by kernel_rfl) (by kernel_rfl) (fun _ _ _ h => h) (by rfl) ?_ hHeld ?_
          rotate_left
          · intro wq hSw; (try dsimp only at hSw); go_simp; (try with_reducible rfl)
          (try simp only [Act.put, List.setIfInBounds_toArray, List.set_cons_zero, List.set_cons_succ])
          refine take_yes (i := 23) (d := 89) (v := ?_) rfl rfl (by kernel_rfl) (by kernel_rfl) (by kernel_rfl) (fun _ _ _ h => h) (by rfl) ?_ hHeld ?_
          rotate_left
          · intro wq hSw; (try dsimp only at hSw); go_simp; (try with_reducible rfl)
          (try simp only [Act.put, List.setIfInBounds_toArray, List.set_cons_zero, List.set_cons_succ])
          refine take_yes (i := 24) (d := 90) (v := ?_) rfl rfl (by kernel_rfl) (by kernel_rfl) (by kernel_rfl) (fun _ _ _ h => h) (by rfl) ?_ hHeld ?_
          rotate_left
          · intro wq hSw; (try dsimp only at hSw); go_simp; (try with_reducible rfl)
          (try simp only [Act.put, List.setIfInBounds_toArray, List.set_cons_zero, List.set_cons_succ])
          refine take_yes (i := 25) (d := 91) (v := ?_) rfl rfl (by kernel_rfl) (by kernel_rfl) (by kernel_rfl) (fun _ _ _ h => h) (by rfl) ?_ hHeld ?_
          rotate_left
          · intro wq hSw; (try dsimp only at hSw); go_simp; (try with_reducible rfl)
          (try simp only [Act.put, List.setIfInBounds_toArray, List.set_cons_zero, List.set_cons_succ])
          refine take_yes (i := 26) (d := 92) (v := ?_) rfl rfl (by kernel_rfl) (by kernel_rfl) (by kernel_rfl) (fun _ _ _ h => h) (by rfl) ?_ hHeld ?_
          rotate_left
          · intro wq hSw; (try dsimp only at hSw); go_simp; (try with_reducible rfl)
          (try simp only [Act.put, List.setIfInBounds_toArray, List.set_cons_zero, List.set_cons_succ])
          refine take_yes (i := 27) (d := 93) (v := ?_) rfl rfl (by kernel_rfl) (by kernel_rfl) (by kernel_rfl) (fun _ _ _ h => h) (by rfl) ?_ hHeld ?_
          rotate_left
          · intro wq hSw; (try dsimp only at hSw); go_simp; (try with_reducible rfl)
          (try simp only [Act.put, List.setIfInBounds_toArray, List.set_cons_zero, List.set_cons_succ])
          refine take_yes (i := 28) (d := 94) (v := ?_) rfl rfl (by kernel_rfl) (by kernel_rfl) (by kernel_rfl) (fun _ _ _ h => h) (by rfl) ?_ hHeld ?_
          rotate_left
          · intro wq hSw; (try dsimp only at hSw); go_simp; (try with_reducible rfl)
          (try simp only [Act.put, List.setIfInBounds_toArray, List.set_cons_zero, List.set_cons_succ])
          refine take_yes (i := 29) (d := 95) (v := ?_) rfl rfl (by kernel_rfl) (by kernel_rfl) (by kernel_rfl) (fun _ _ _ h => h) (by rfl) ?_ hHeld ?_
          rotate_left
          · intro wq hSw; (try dsimp only at hSw); go_simp; (try with_reducible rfl)
          (try simp only [Act.put, List.setIfInBounds_toArray, List.set_cons_zero, List.set_cons_succ])
          refine take_yes (i := 30) (d := 96) (v := ?_) rfl rfl (by kernel_rfl) (by kernel_rfl) (by kernel_rfl) (fun _ _ _ h => h) (by rfl) ?_ hHeld ?_
          rotate_left
          · intro wq hSw; (try dsimp only at hSw); go_simp; (try with_reducible rfl)
          (try simp only [Act.put, List.setIfInBounds_toArray, List.set_cons_zero, List.set_cons_succ])
          refine take_yes (i := 31) (d := 97) (v := ?_) rfl rfl (by kernel_rfl) (by kernel_rfl) (by kernel_rfl) (fun _ _ _ h => h) (by rfl) ?_ hHeld ?_
          rotate_left
          · intro wq hSw; (try dsimp only at hSw); go_simp; (try with_reducible rfl)
          (try simp only [Act.put, List.setIfInBounds_toArray, List.set_cons_zero, List.set_cons_succ])
          refine take_yes (i := 32) (d := 98) (v := ?_) rfl rfl (by kernel_rfl) (by kernel_rfl) (by kernel_rfl) (fun _ _ _ h => h) (by rfl) ?_ hHeld ?_
          rotate_left
          · intro wq hSw; (try dsimp only at hSw); go_simp; (try with_reducible rfl)
          (try simp only [Act.put, List.setIfInBounds_toArray, List.set_cons_zero, List.set_cons_succ])
          refine take_yes (i := 33) (d := 99) (v := ?_) rfl rfl (by kernel_rfl) (by kernel_rfl) (by kernel_rfl) (fun _ _ _ h => h) (by rfl) ?_ hHeld ?_
          rotate_left
          · intro wq hSw; (try dsimp only at hSw); go_simp; (try with_reducible rfl)
          (try simp only [Act.put, List.setIfInBounds_toArray, List.set_cons_zero, List.set_cons_succ])
          refine take_yes (i := 34) (d := 100) (v := ?_) rfl rfl (by kernel_rfl) (by kernel_rfl) (by kernel_rfl) (fun _ _ _ h => h) (by rfl) ?_ hHeld ?_
          rotate_left
          · intro wq hSw; (try dsimp only at hSw); go_simp; (try with_reducible rfl)
          (try simp only [Act.put, List.setIfInBounds_toArray, List.set_cons_zero, List.set_cons_succ])
          refine take_yes (i := 35) (d := 101) (v := ?_) rfl rfl (by kernel_rfl) (by kernel_rfl) (by kernel_rfl) (fun _ _ _ h => h) (by rfl) ?_ hHeld ?_
          rotate_left
          · intro wq hSw; (try dsimp only at hSw); go_simp; (try with_reducible rfl)
          (try simp only [Act.put, List.setIfInBounds_toArray, List.set_cons_zero, List.set_cons_succ])
          refine take_yes (i := 36) (d := 102) (v := ?_) rfl rfl (by kernel_rfl) (by kernel_rfl) (by kernel_rfl) (fun _ _ _ h => h) (by rfl) ?_ hHeld ?_
          rotate_left
          · intro wq hSw; (try dsimp only at hSw); go_simp; (try with_reducible rfl)
          (try simp only [Act.put, List.setIfInBounds_toArray, List.set_cons_zero, List.set_cons_succ])
          refine take_yes (i := 37) (d := 103) (v := ?_) rfl rfl (by kernel_rfl) (by kernel_rfl) (by kernel_rfl) (fun _ _ _ h => h) (by rfl) ?_ hHeld ?_
          rotate_left
          · intro wq hSw; (try dsimp only at hSw); go_simp; (try with_reducible rfl)
          (try simp only [Act.put, List.setIfInBounds_toArray, List.set_cons_zero, List.set_cons_succ])
          refine take_yes (i := 38) (d := 104) (v := ?_) rfl rfl (by kernel_rfl) (by kernel_rfl) (by kernel_rfl) (fun _ _ _ h => h) (by rfl) ?_ hHeld ?_
          rotate_left
          · intro wq hSw; (try dsimp only at hSw); go_simp; (try with_reducible rfl)
          (try simp only [Act.put, List.setIfInBounds_toArray, List.set_cons_zero, List.set_cons_succ])
          refine take_yes (i := 39) (d := 105) (v := ?_) rfl rfl (by kernel_rfl) (by kernel_rfl) (by kernel_rfl) (fun _ _ _ h => h) (by rfl) ?_ hHeld ?_
          rotate_left
          · intro wq hSw; (try dsimp only at hSw); go_simp; (try with_reducible rfl)
          (try simp only [Act.put, List.setIfInBounds_toArray, List.set_cons_zero, List.set_cons_succ])
          refine take_yes (i := 40) (d := 106) (v := ?_) rfl rfl (by kernel_rfl) (by kernel_rfl) (by kernel_rfl) (fun _ _ _ h => h) (by rfl) ?_ hHeld ?_
          rotate_left
          · intro wq hSw; (try dsimp only at hSw); go_simp; (try with_reducible rfl)
          (try simp only [Act.put, List.setIfInBounds_toArray, List.set_cons_zero, List.set_cons_succ])
          refine take_yes (i := 41) (d := 107) (v := ?_) rfl rfl (by kernel_rfl) (by kernel_rfl) (by kernel_rfl) (fun _ _ _ h => h) (by rfl) ?_ hHeld ?_
          rotate_left
          · intro wq hSw; (try dsimp only at hSw); go_simp; (try with_reducible rfl)
          (try simp only [Act.put, List.setIfInBounds_toArray, List.set_cons_zero, List.set_cons_succ])
          refine take_yes (i := 42) (d := 108) (v := ?_) rfl rfl (by kernel_rfl) (by kernel_rfl) (by kernel_rfl) (fun _ _ _ h => h) (by rfl) ?_ hHeld ?_
          rotate_left
          · intro wq hSw; (try dsimp only at hSw); go_simp; (try with_reducible rfl)
          (try simp only [Act.put, List.setIfInBounds_toArray, List.set_cons_zero, List.set_cons_succ])
          refine take_yes (i := 43) (d := 109) (v := ?_) rfl rfl (by kernel_rfl) (by kernel_rfl) (by kernel_rfl) (fun _ _ _ h => h) (by rfl) ?_ hHeld ?_
          rotate_left
          · intro wq hSw; (try dsimp only at hSw); go_simp; (try with_reducible rfl)
          (try simp only [Act.put, List.setIfInBounds_toArray, List.set_cons_zero, List.set_cons_succ])
          refine take_yes (i := 44) (d := 110) (v := ?_) rfl rfl (by kernel_rfl) (by kernel_rfl) (by kernel_rfl) (fun _ _ _ h => h) (by rfl) ?_ hHeld ?_
          rotate_left
          · intro wq hSw; (try dsimp only at hSw); go_simp; (try with_reducible rfl)
          (try simp only [Act.put, List.setIfInBounds_toArray, List.set_cons_zero, List.set_cons_succ])
          refine take_yes (i := 45) (d := 111) (v := ?_) rfl rfl (by kernel_rfl) (by kernel_rfl) (by kernel_rfl) (fun _ _ _ h => h) (by rfl) ?_ hHeld ?_
          rotate_left
          · intro wq hSw; (try dsimp only at hSw); go_simp; (try with_reducible rfl)
          (try simp only [Act.put, List.setIfInBounds_toArray, List.set_cons_zero, List.set_cons_succ])
          refine take_yes (i := 46) (d := 112) (v := ?_) rfl rfl (by kernel_rfl) (by kernel_rfl) (by kernel_rfl) (fun _ _ _ h => h) (by rfl) ?_ hHeld ?_
          rotate_left
          · intro wq hSw; (try dsimp only at hSw); go_simp; (try with_reducible rfl)
          (try simp only [Act.put, List.setIfInBounds_toArray, List.set_cons_zero, List.set_cons_succ])
          refine take_yes (i := 47) (d := 113) (v := ?_) rfl rfl (by kernel_rfl) (by kernel_rfl) (by kernel_rfl) (fun _ _ _ h => h) (by rfl) ?_ hHeld ?_
          rotate_left
          · intro wq hSw; (try dsimp only at hSw); go_simp; (try with_reducible rfl)
          (try simp only [Act.put, List.setIfInBounds_toArray, List.set_cons_zero, List.set_cons_succ])
          refine take_yes (i := 48) (d := 114) (v := ?_) rfl rfl (by kernel_rfl) (by kernel_rfl) (by kernel_rfl) (fun _ _ _ h => h) (by rfl) ?_ hHeld ?_
          rotate_left
          · intro wq hSw; (try dsimp only at hSw); go_simp; (try with_reducible rfl)
          (try simp only [Act.put, List.setIfInBounds_toArray, List.set_cons_zero, List.set_cons_succ])
          refine take_yes (i := 49) (d := 115) (v := ?_) rfl rfl (by kernel_rfl) (by kernel_rfl) (by kernel_rfl) (fun _ _ _ h => h) (by rfl) ?_ hHeld ?_
          rotate_left
          · intro wq hSw; (try dsimp only at hSw); go_simp; (try with_reducible rfl)
          (try simp only [Act.put, List.setIfInBounds_toArray, List.set_cons_zero, List.set_cons_succ])
          refine wpAnyH_done (by kernel_rfl) ?_ _
          refine NoPanic.normal ?_
          go_wp2_with fail
          exact ⟨⟨k + 1, by omega, by go_num, HES.out.kp (by repeat (first | (with_reducible exact K) | (with_reducible apply kp_alloc) | (with_reducible apply kp_drew) | (with_reducible apply kp_drewN))), kp_trans HKR.out (by repeat (first | (with_reducible exact K) | (with_reducible apply kp_alloc) | (with_reducible apply kp_drew) | (with_reducible apply kp_drewN)))⟩, by simp [intOf]; omega⟩
      · clear hes
        go_upto_region 17 with fail
        go_region_held3 (fun w' => Kp w1 w' ∧ w'.cell? ⟨w.heap.size, 0, none⟩ = some (.int .i64 ax) ∧ w'.cell? ⟨w.heap.size, 1, none⟩ = some (.int .i64 ay) ∧ w'.cell? ⟨w.heap.size + 1, 0, none⟩ = some (.int .i64 bx) ∧ w'.cell? ⟨w.heap.size + 1, 1, none⟩ = some (.int .i64 bY) ∧ w'.cell? ⟨w.heap.size + 1 + 1, 0, none⟩ = some (.int .i64 cx) ∧ w'.cell? ⟨w.heap.size + 1 + 1, 1, none⟩ = some (.int .i64 cy) ∧ w'.cell? ⟨w.heap.size + 1 + 1 + 1, 0, none⟩ = some (.int .i64 dx) ∧ w'.cell? ⟨w.heap.size + 1 + 1 + 1, 1, none⟩ = some (.int .i64 dy)) ((first | (with_reducible exact ⟨K, c0, c1, c2, c3, c4, c5, c6, c7⟩) | (with_reducible exact ⟨kp_drew K, cell_d c0, cell_d c1, cell_d c2, cell_d c3, cell_d c4, cell_d c5, cell_d c6, cell_d c7⟩) | (with_reducible exact ⟨kp_alloc K _, cell_a c0 _, cell_a c1 _, cell_a c2 _, cell_a c3 _, cell_a c4 _, cell_a c5 _, cell_a c6 _, cell_a c7 _⟩) | (with_reducible exact ⟨kp_alloc (kp_drew K) _, cell_a (cell_d c0) _, cell_a (cell_d c1) _, cell_a (cell_d c2) _, cell_a (cell_d c3) _, cell_a (cell_d c4) _, cell_a (cell_d c5) _, cell_a (cell_d c6) _, cell_a (cell_d c7) _⟩) | (with_reducible exact ⟨kp_drew (kp_alloc K _), cell_d (cell_a c0 _), cell_d (cell_a c1 _), cell_d (cell_a c2 _), cell_d (cell_a c3 _), cell_d (cell_a c4 _), cell_d (cell_a c5 _), cell_d (cell_a c6 _), cell_d (cell_a c7 _)⟩)))
          (first
            | (go_at_call 12; (with_reducible refine (HS.out _).mono ?_); rintro e w5 ⟨v5, rfl, ho⟩; have hk := ho.2; have HO5 := Lib.hid (ho.1.rd (by simp)); (first | (have hpb := PtsAt.kp (ptsAt_two _ _ _ _ _ _ _ rfl) hk; have HPB := Lib.hid hpb; clear hpb) | (have hpb := PtsAt.kp (ptsAt_two _ _ _ _ _ _ _ rfl) (kp_trans (kp_drew (kp_refl _)) hk); have HPB := Lib.hid hpb; clear hpb) | skip); clear ho; replace K : Kp w1 w5 := kp_trans (by repeat (first | (with_reducible exact K) | (with_reducible apply kp_alloc) | (with_reducible apply kp_drew) | (with_reducible apply kp_drewN))) hk; replace c0 := (BAS.out _ K).1; replace c1 := (BAS.out _ K).2.1; replace c2 := (BAS.out _ K).2.2.1; replace c3 := (BAS.out _ K).2.2.2.1; replace c4 := (BAS.out _ K).2.2.2.2.1; replace c5 := (BAS.out _ K).2.2.2.2.2.1; replace c6 := (BAS.out _ K).2.2.2.2.2.2.1; replace c7 := (BAS.out _ K).2.2.2.2.2.2.2; replace l0 : w.heap.size < w5.heap.size := cell_lt c0; replace l2 : w.heap.size + 1 < w5.heap.size := cell_lt c2; replace l4 : w.heap.size + 1 + 1 < w5.heap.size := cell_lt c4; replace l6 : w.heap.size + 1 + 1 + 1 < w5.heap.size := cell_lt c6; clear hk)
            | (go_at_call 11; (with_reducible refine (same_two v5 _ _ (ax, ay) (bx, bY) _ (HO5.out.kp (by repeat (first | (with_reducible exact kp_refl _) | (with_reducible apply kp_alloc) | (with_reducible apply kp_drew) | (with_reducible apply kp_drewN)))) ?_).mono ?_); (focus (first | exact HPB.out | exact ptsAt_two _ _ _ _ _ _ _ rfl)); rintro e w6 ⟨rfl, hk⟩; replace K : Kp w1 w6 := kp_trans (by repeat (first | (with_reducible exact K) | (with_reducible apply kp_alloc) | (with_reducible apply kp_drew) | (with_reducible apply kp_drewN))) hk; replace c0 := (BAS.out _ K).1; replace c1 := (BAS.out _ K).2.1; replace c2 := (BAS.out _ K).2.2.1; replace c3 := (BAS.out _ K).2.2.2.1; replace c4 := (BAS.out _ K).2.2.2.2.1; replace c5 := (BAS.out _ K).2.2.2.2.2.1; replace c6 := (BAS.out _ K).2.2.2.2.2.2.1; replace c7 := (BAS.out _ K).2.2.2.2.2.2.2; replace l0 : w.heap.size < w6.heap.size := cell_lt c0; replace l2 : w.heap.size + 1 < w6.heap.size := cell_lt c2; replace l4 : w.heap.size + 1 + 1 < w6.heap.size := cell_lt c4; replace l6 : w.heap.size + 1 + 1 + 1 < w6.heap.size := cell_lt c6; clear hk))
        all_goals
          go_wp2_with fail
          go_ret
          exact ⟨rfl, kp_trans KW1.out (by repeat (first | (with_reducible exact K) | (with_reducible apply kp_alloc) | (with_reducible apply kp_drew) | (with_reducible apply kp_drewN)))⟩
theorem crossEnds_walk (ax ay bx bY cx cy dx dy : Int) (w : World) : Calls Try.prog 4 #[pv ax ay, pv bx bY, pv cx cy, pv dx dy] w fun e w' => e = .returned (.bool true) ∧ Kp w w' := by
  cases h1 : may (ax, ay) (bx, bY)
  · exact cends_bad1 ax ay bx bY cx cy dx dy h1 w
  cases h2 : may (cx, cy) (dx, dy)
  · exact cends_bad2 ax ay bx bY cx cy dx dy h1 h2 w
  have hl := ends_len h1 h2
  have hb := meets_bd (ax, ay) (bx, bY) (cx, cy) (dx, dy)
  obtain ⟨L, hL⟩ : ∃ L, ends (ax, ay) (bx, bY) (cx, cy) (dx, dy) = L := ⟨_, rfl⟩
  rw [hL] at hl
  obtain ⟨N, hN⟩ : ∃ N, meets (ax, ay) (bx, bY) (cx, cy) (dx, dy) = N := ⟨_, rfl⟩
  rw [hN] at hl hb
  have hc : N = 0 ∨ N = 1 ∨ N = 2 ∨ N = 3 := by omega
  rcases hc with rfl | rfl | rfl | rfl
  · exact cends_0 ax ay bx bY cx cy dx dy h1 h2 L (by have e : (L.length : Int) = 0 := hl; omega) hN hL w
  · exact cends_1 ax ay bx bY cx cy dx dy h1 h2 L (by have e : (L.length : Int) = 1 := hl; omega) hN hL w
  · exact cends_2 ax ay bx bY cx cy dx dy h1 h2 L (by have e : (L.length : Int) = 0 := hl; omega) hN hL w
  · exact cends_3 ax ay bx bY cx cy dx dy h1 h2 L (by have e : (L.length : Int) = 2 := hl; omega) hN hL w
end Go.Proofs.Ytcelipgokpnmfaa
