/- Contracts of the reference's inside: Counts, Crossings, In. -/
import Derived.Test.YtmbfcneabpgcpaaV0
import Derived.Test.YtmbfcneabpgcpaaI5
import Derived.Test.YtmbfcneabpgcpaaCellD
import Derived.Deep.RegionHeld3
namespace Go.Proofs.Ytmbfcneabpgcpaa
open Go.RowKit Go.Proofs.Geo
set_option maxHeartbeats 8000000 in
set_option maxRecDepth 100000 in
theorem rcounts_any (px py ax ay bx bY : Int) (w : World) : Calls Try.prog 18 #[pv px py, pv ax ay, pv bx bY] w fun e w' =>
    e = .returned (.bool (cnt (px, py) (ax, ay) (bx, bY))) ∧ Kp w w' := by
  by_cases g : bY < ay
  · have H := Lib.hid (cnt_gt (p := (px, py)) (a := (ax, ay)) (b := (bx, bY)) g)
    by_cases k1 : bY ≤ py
    · by_cases k2 : py < ay
      · have e1 : decide (bY ≤ py) = true := decide_eq_true k1
        have e2 : decide (py < ay) = true := decide_eq_true k2
        have He := Lib.hid (And.intro e1 e2); clear e1 e2
        go_enter Try.func18, Try.ntmps18
        go_wp2_with (first
          | (go_at_call 33; refine (rturn_any _ _ _ _ _ _ _).mono ?_; rintro e w' ⟨rfl, hkt⟩))
        go_ret
        exact ⟨ret_bool (by rw [H.out]; simp only [He.out.1, He.out.2, Bool.true_and]), by repeat (first | assumption | exact kp_refl _ | apply kp_drew | apply kp_alloc | (refine kp_set ?_ (by (try simp); (try omega)) _) | refine kp_trans ?_ (by assumption))⟩
      · have e2 : decide (py < ay) = false := decide_eq_false k2
        have He := Lib.hid e2; clear e2
        go_enter Try.func18, Try.ntmps18
        go_wp2_with (first
          | (go_at_call 33; refine (rturn_any _ _ _ _ _ _ _).mono ?_; rintro e w' ⟨rfl, hkt⟩))
        go_ret
        exact ⟨ret_bool (by rw [H.out]; simp only [He.out, Bool.and_false, Bool.false_and]), by repeat (first | assumption | exact kp_refl _ | apply kp_drew | apply kp_alloc | (refine kp_set ?_ (by (try simp); (try omega)) _) | refine kp_trans ?_ (by assumption))⟩
    · have e1 : decide (bY ≤ py) = false := decide_eq_false k1
      have He := Lib.hid e1; clear e1
      go_enter Try.func18, Try.ntmps18
      go_wp2_with (first
        | (go_at_call 33; refine (rturn_any _ _ _ _ _ _ _).mono ?_; rintro e w' ⟨rfl, hkt⟩))
      go_ret
      exact ⟨ret_bool (by rw [H.out]; simp only [He.out, Bool.false_and]), by repeat (first | assumption | exact kp_refl _ | apply kp_drew | apply kp_alloc | (refine kp_set ?_ (by (try simp); (try omega)) _) | refine kp_trans ?_ (by assumption))⟩
  · have H := Lib.hid (cnt_le (p := (px, py)) (a := (ax, ay)) (b := (bx, bY)) g)
    by_cases k1 : ay ≤ py
    · by_cases k2 : py < bY
      · have e1 : decide (ay ≤ py) = true := decide_eq_true k1
        have e2 : decide (py < bY) = true := decide_eq_true k2
        have He := Lib.hid (And.intro e1 e2); clear e1 e2
        go_enter Try.func18, Try.ntmps18
        go_wp2_with (first
          | (go_at_call 33; refine (rturn_any _ _ _ _ _ _ _).mono ?_; rintro e w' ⟨rfl, hkt⟩))
        go_ret
        exact ⟨ret_bool (by rw [H.out]; simp only [He.out.1, He.out.2, Bool.true_and]), by repeat (first | assumption | exact kp_refl _ | apply kp_drew | apply kp_alloc | (refine kp_set ?_ (by (try simp); (try omega)) _) | refine kp_trans ?_ (by assumption))⟩
      · have e2 : decide (py < bY) = false := decide_eq_false k2
        have He := Lib.hid e2; clear e2
        go_enter Try.func18, Try.ntmps18
        go_wp2_with (first
          | (go_at_call 33; refine (rturn_any _ _ _ _ _ _ _).mono ?_; rintro e w' ⟨rfl, hkt⟩))
        go_ret
        exact ⟨ret_bool (by rw [H.out]; simp only [He.out, Bool.and_false, Bool.false_and]), by repeat (first | assumption | exact kp_refl _ | apply kp_drew | apply kp_alloc | (refine kp_set ?_ (by (try simp); (try omega)) _) | refine kp_trans ?_ (by assumption))⟩
    · have e1 : decide (ay ≤ py) = false := decide_eq_false k1
      have He := Lib.hid e1; clear e1
      go_enter Try.func18, Try.ntmps18
      go_wp2_with (first
        | (go_at_call 33; refine (rturn_any _ _ _ _ _ _ _).mono ?_; rintro e w' ⟨rfl, hkt⟩))
      go_ret
      exact ⟨ret_bool (by rw [H.out]; simp only [He.out, Bool.false_and]), by repeat (first | assumption | exact kp_refl _ | apply kp_drew | apply kp_alloc | (refine kp_set ?_ (by (try simp); (try omega)) _) | refine kp_trans ?_ (by assumption))⟩

/-- The edges one by one. -/
theorem lst_take (a : Pt) (l : List Pt) (k : Nat) (h : k < (a :: l).length) : lst a (l.take k) = (a :: l)[k] := by
  induction k generalizing a l with
  | zero => rfl
  | succ k ih =>
    cases l with
    | nil => simp at h
    | cons b l => exact ih b l (by simpa using h)
theorem pc_step (p a : Pt) (l : List Pt) (k : Nat) (h : k < l.length) : pc p a (l.take (k + 1)) = pc p a (l.take k) + (cnt p ((a :: l)[k]'(by simp; omega)) l[k]).toNat := by
  rw [List.take_succ_eq_append_getElem h, pc_append, lst_take a l k (by simp; omega)]
  rfl
theorem round_get (a : Pt) (m : List Pt) (k : Nat) (h : k < (a :: m).length) (hj : (k + 1) % (a :: m).length < (a :: m).length) : (m ++ [a])[k]'(by simp at *; omega) = (a :: m)[(k + 1) % (a :: m).length] := by
  by_cases e : k + 1 < (a :: m).length
  · have e2 : (k + 1) % (a :: m).length = k + 1 := Nat.mod_eq_of_lt e
    simp only [e2, List.getElem_cons_succ]
    rw [List.getElem_append_left (by simpa using e)]
  · have e3 : k + 1 = (a :: m).length := by omega
    have e2 : (k + 1) % (a :: m).length = 0 := by rw [e3]; exact Nat.mod_self _
    simp only [e2, List.getElem_cons_zero]
    rw [List.getElem_append_right (by simp at *; omega)]
    simp
theorem round_step (p a : Pt) (m : List Pt) (k : Nat) (h : k < (a :: m).length) (hj : (k + 1) % (a :: m).length < (a :: m).length) : pc p a ((m ++ [a]).take (k + 1)) = pc p a ((m ++ [a]).take k) + (cnt p (a :: m)[k] ((a :: m)[(k + 1) % (a :: m).length])).toNat := by
  rw [pc_step p a (m ++ [a]) k (by simp at *; omega), round_get a m k h hj]
  congr 3
  cases k with
  | zero => rfl
  | succ k => simp only [List.getElem_cons_succ]; rw [List.getElem_append_left (by simpa using h)]
theorem round_all (p a : Pt) (m : List Pt) : pc p a ((m ++ [a]).take (a :: m).length) = crossN p (a :: m) := by
  rw [crossN_cons]; unfold way; rw [List.take_of_length_le (by simp)]

set_option maxHeartbeats 8000000 in
set_option maxRecDepth 100000 in
theorem rcrossings_any (px py : Int) (a : Option Addr) (len cap : Nat) (l : List Pt) (w : World) (hp : PtsV w a len l) (hl : l.length ≤ 10000000000000) :
    Calls Try.prog 20 #[pv px py, .slice a len cap] w fun e w' => e = .returned (.int .i64 (crossN (px, py) l : Nat)) ∧ Kp w w' := by
  obtain ⟨rfl, hp⟩ := hp
  cases l with
  | nil =>
    clear hp
    go_enter Try.func20, Try.ntmps20
    go_wp2
    go_loop [5, 6] (fun u i => u = .int .i64 0 ∧ i = .int .i64 0) (fun _ _ => 0)
    case atStart => exact ⟨rfl, rfl⟩
    case round =>
      obtain ⟨rfl, rfl⟩ := hrel
      go_wp2
      go_ret
      exact ⟨rfl, kp_alloc (kp_refl _) _⟩
  | cons q m =>
    obtain ⟨b, off, rfl, hq⟩ : ∃ b off, a = some ⟨b, off, none⟩ ∧ PtsAt w b off (q :: m) := by
      rcases hp with h | h
      · cases h
      · exact h
    have hn0 : 0 < (q :: m).length := by simp
    obtain ⟨n, hn⟩ : ∃ n, (q :: m).length = n := ⟨_, rfl⟩
    have HA := Lib.hid (round_all (px, py) q m)
    have HP := Lib.hid hq
    have HN := Lib.hid hn
    rw [hn] at hl hn0 ⊢
    clear hp hn hq
    go_enter Try.func20, Try.ntmps20
    go_upto_region 1 with fail
    obtain ⟨W, hW⟩ : ∃ W, (w.alloc (.cells #[.int .i64 px, .int .i64 py] 23)) = W := ⟨_, rfl⟩
    have c0 : W.cell? ⟨w.heap.size, 0, none⟩ = some (.int .i64 px) := by rw [← hW]; simp [go_sem]
    have c1 : W.cell? ⟨w.heap.size, 1, none⟩ = some (.int .i64 py) := by rw [← hW]; simp [go_sem]
    have K : Kp w W := by rw [← hW]; exact kp_alloc (kp_refl _) _
    have l0 : w.heap.size < W.heap.size := cell_lt c0
    rw [hW]; clear hW
    have HK := Lib.hid K
    have C0 := Lib.hid c0
    have C1 := Lib.hid c1
    clear K c0 c1 l0
    go_wp2_with fail
    go_loopw [5, 6] (fun u i wr => ∃ k N : Nat, k ≤ n ∧ N ≤ k ∧ i = .int .i64 k ∧ u = .int .i64 N ∧ pc (px, py) q ((m ++ [q]).take k) = N ∧ Kp W wr) (fun _ i _ => n - (intOf i).toNat)
    case atStart => exact ⟨0, 0, by omega, by omega, rfl, rfl, rfl, kp_refl _⟩
    case round =>
      obtain ⟨k, N, hk, hNk, rfl, rfl, hpc, hkp⟩ := hrel
      by_cases hlt : k < n
      · have hlt' : k < (q :: m).length := by rw [HN.out]; exact hlt
        have hj' : (k + 1) % (q :: m).length < (q :: m).length := Nat.mod_lt _ (by simp)
        have hs := round_step (px, py) q m k hlt' hj'
        rw [hpc] at hs
        obtain ⟨p0, p1⟩ := (HP.out.kp (kp_trans HK.out hkp)) k hlt'
        obtain ⟨q0, q1⟩ := (HP.out.kp (kp_trans HK.out hkp)) _ hj'
        have hj : (k + 1) % n < n := Nat.mod_lt _ hn0
        generalize (q :: m)[k]'hlt' = P at *
        generalize (q :: m)[(k + 1) % (q :: m).length]'hj' = Q at *
        rw [HN.out] at q0 q1
        obtain ⟨ax, ay⟩ := P
        obtain ⟨bx, bY⟩ := Q
        simp only at p0 p1 q0 q1
        clear hlt' hj'
        have wk : IntKind.i64.wrap ((k : Int) + 1) = (k : Int) + 1 := IntWalk.i64_in _ (by omega)
        have wt : ((k : Int) + 1).tmod (n : Int) = (((k + 1) % n : Nat) : Int) := by
          rw [Int.tmod_eq_emod_of_nonneg (by omega), Int.natCast_emod]; rfl
        have hz : ¬ n = 0 := by omega
        obtain ⟨j, hje⟩ : ∃ j, (k + 1) % n = j := ⟨_, rfl⟩
        rw [hje] at q0 q1 wt hj
        clear hje
        have c0 : wr.cell? ⟨w.heap.size, 0, none⟩ = some (.int .i64 px) := kp_cell hkp C0.out
        have c1 : wr.cell? ⟨w.heap.size, 1, none⟩ = some (.int .i64 py) := kp_cell hkp C1.out
        have K : Kp W wr := hkp
        have b1 : 0 ≤ (k : Int) := by omega
        have b2 : (k : Int) < (n : Int) := by omega
        have b3 : 0 ≤ (j : Int) := by omega
        have b4 : (j : Int) < (n : Int) := by omega
        have bN : 0 ≤ (N : Int) ∧ (N : Int) ≤ 10000000000000 := by omega
        have l0 : w.heap.size < wr.heap.size := cell_lt c0
        have HS := Lib.hid hs
        clear hs hpc hkp
        cases hc : cnt (px, py) (ax, ay) (bx, bY)
        · have HC := Lib.hid hc; clear hc
          go_upto_region 5 with fail
          go_region_held3 (fun w' => Kp W w' ∧ w'.cell? ⟨w.heap.size, 0, none⟩ = some (.int .i64 px) ∧ w'.cell? ⟨w.heap.size, 1, none⟩ = some (.int .i64 py) ∧ w'.cell? ⟨b, off + k * 2, none⟩ = some (.int .i64 ax) ∧ w'.cell? ⟨b, off + k * 2 + 1, none⟩ = some (.int .i64 ay) ∧ w'.cell? ⟨b, off + j * 2, none⟩ = some (.int .i64 bx) ∧ w'.cell? ⟨b, off + j * 2 + 1, none⟩ = some (.int .i64 bY)) ((first | (with_reducible exact ⟨K, c0, c1, p0, p1, q0, q1⟩) | (with_reducible exact ⟨kp_drew K, cell_d c0, cell_d c1, cell_d p0, cell_d p1, cell_d q0, cell_d q1⟩) | (with_reducible exact ⟨kp_alloc K _, cell_a c0 _, cell_a c1 _, cell_a p0 _, cell_a p1 _, cell_a q0 _, cell_a q1 _⟩) | (with_reducible exact ⟨kp_alloc (kp_drew K) _, cell_a (cell_d c0) _, cell_a (cell_d c1) _, cell_a (cell_d p0) _, cell_a (cell_d p1) _, cell_a (cell_d q0) _, cell_a (cell_d q1) _⟩) | (with_reducible exact ⟨kp_alloc (kp_alloc K _) _, cell_a (cell_a c0 _) _, cell_a (cell_a c1 _) _, cell_a (cell_a p0 _) _, cell_a (cell_a p1 _) _, cell_a (cell_a q0 _) _, cell_a (cell_a q1 _) _⟩) | (with_reducible exact ⟨kp_alloc (kp_alloc (kp_drew K) _) _, cell_a (cell_a (cell_d c0) _) _, cell_a (cell_a (cell_d c1) _) _, cell_a (cell_a (cell_d p0) _) _, cell_a (cell_a (cell_d p1) _) _, cell_a (cell_a (cell_d q0) _) _, cell_a (cell_a (cell_d q1) _) _⟩)))
            (first
              | (go_at_call 18; refine (rcounts_any _ _ _ _ _ _ _).mono ?_; rintro e w2 ⟨rfl, hk⟩; replace c0 : w2.cell? ⟨w.heap.size, 0, none⟩ = some (.int .i64 px) := kp_cell hk (by first | exact c0 | exact cell_a c0 _ | exact cell_a (cell_a c0 _) _ | exact cell_a (cell_a (cell_a c0 _) _) _); replace c1 : w2.cell? ⟨w.heap.size, 1, none⟩ = some (.int .i64 py) := kp_cell hk (by first | exact c1 | exact cell_a c1 _ | exact cell_a (cell_a c1 _) _ | exact cell_a (cell_a (cell_a c1 _) _) _); replace p0 : w2.cell? ⟨b, off + k * 2, none⟩ = some (.int .i64 ax) := kp_cell hk (by first | exact p0 | exact cell_a p0 _ | exact cell_a (cell_a p0 _) _ | exact cell_a (cell_a (cell_a p0 _) _) _); replace p1 : w2.cell? ⟨b, off + k * 2 + 1, none⟩ = some (.int .i64 ay) := kp_cell hk (by first | exact p1 | exact cell_a p1 _ | exact cell_a (cell_a p1 _) _ | exact cell_a (cell_a (cell_a p1 _) _) _); replace q0 : w2.cell? ⟨b, off + j * 2, none⟩ = some (.int .i64 bx) := kp_cell hk (by first | exact q0 | exact cell_a q0 _ | exact cell_a (cell_a q0 _) _ | exact cell_a (cell_a (cell_a q0 _) _) _); replace q1 : w2.cell? ⟨b, off + j * 2 + 1, none⟩ = some (.int .i64 bY) := kp_cell hk (by first | exact q1 | exact cell_a q1 _ | exact cell_a (cell_a q1 _) _ | exact cell_a (cell_a (cell_a q1 _) _) _); replace K : Kp W w2 := kp_trans (by repeat (first | exact K | apply kp_alloc | apply kp_drew | apply kp_drewN)) hk; replace l0 : w.heap.size < w2.heap.size := cell_lt c0; clear hk; rw [HC.out]))
          all_goals go_wp2_with fail
          all_goals exact ⟨⟨k + 1, N, by omega, by omega, by go_num, by go_num, by rw [HS.out, HC.out]; rfl, K⟩, by simp [intOf]; omega⟩
        · have HC := Lib.hid hc; clear hc
          go_upto_region 5 with fail
          go_region_held3 (fun w' => Kp W w' ∧ w'.cell? ⟨w.heap.size, 0, none⟩ = some (.int .i64 px) ∧ w'.cell? ⟨w.heap.size, 1, none⟩ = some (.int .i64 py) ∧ w'.cell? ⟨b, off + k * 2, none⟩ = some (.int .i64 ax) ∧ w'.cell? ⟨b, off + k * 2 + 1, none⟩ = some (.int .i64 ay) ∧ w'.cell? ⟨b, off + j * 2, none⟩ = some (.int .i64 bx) ∧ w'.cell? ⟨b, off + j * 2 + 1, none⟩ = some (.int .i64 bY)) ((first | (with_reducible exact ⟨K, c0, c1, p0, p1, q0, q1⟩) | (with_reducible exact ⟨kp_drew K, cell_d c0, cell_d c1, cell_d p0, cell_d p1, cell_d q0, cell_d q1⟩) | (with_reducible exact ⟨kp_alloc K _, cell_a c0 _, cell_a c1 _, cell_a p0 _, cell_a p1 _, cell_a q0 _, cell_a q1 _⟩) | (with_reducible exact ⟨kp_alloc (kp_drew K) _, cell_a (cell_d c0) _, cell_a (cell_d c1) _, cell_a (cell_d p0) _, cell_a (cell_d p1) _, cell_a (cell_d q0) _, cell_a (cell_d q1) _⟩) | (with_reducible exact ⟨kp_alloc (kp_alloc K _) _, cell_a (cell_a c0 _) _, cell_a (cell_a c1 _) _, cell_a (cell_a p0 _) _, cell_a (cell_a p1 _) _, cell_a (cell_a q0 _) _, cell_a (cell_a q1 _) _⟩) | (with_reducible exact ⟨kp_alloc (kp_alloc (kp_drew K) _) _, cell_a (cell_a (cell_d c0) _) _, cell_a (cell_a (cell_d c1) _) _, cell_a (cell_a (cell_d p0) _) _, cell_a (cell_a (cell_d p1) _) _, cell_a (cell_a (cell_d q0) _) _, cell_a (cell_a (cell_d q1) _) _⟩)))
            (first
              | (go_at_call 18; refine (rcounts_any _ _ _ _ _ _ _).mono ?_; rintro e w2 ⟨rfl, hk⟩; replace c0 : w2.cell? ⟨w.heap.size, 0, none⟩ = some (.int .i64 px) := kp_cell hk (by first | exact c0 | exact cell_a c0 _ | exact cell_a (cell_a c0 _) _ | exact cell_a (cell_a (cell_a c0 _) _) _); replace c1 : w2.cell? ⟨w.heap.size, 1, none⟩ = some (.int .i64 py) := kp_cell hk (by first | exact c1 | exact cell_a c1 _ | exact cell_a (cell_a c1 _) _ | exact cell_a (cell_a (cell_a c1 _) _) _); replace p0 : w2.cell? ⟨b, off + k * 2, none⟩ = some (.int .i64 ax) := kp_cell hk (by first | exact p0 | exact cell_a p0 _ | exact cell_a (cell_a p0 _) _ | exact cell_a (cell_a (cell_a p0 _) _) _); replace p1 : w2.cell? ⟨b, off + k * 2 + 1, none⟩ = some (.int .i64 ay) := kp_cell hk (by first | exact p1 | exact cell_a p1 _ | exact cell_a (cell_a p1 _) _ | exact cell_a (cell_a (cell_a p1 _) _) _); replace q0 : w2.cell? ⟨b, off + j * 2, none⟩ = some (.int .i64 bx) := kp_cell hk (by first | exact q0 | exact cell_a q0 _ | exact cell_a (cell_a q0 _) _ | exact cell_a (cell_a (cell_a q0 _) _) _); replace q1 : w2.cell? ⟨b, off + j * 2 + 1, none⟩ = some (.int .i64 bY) := kp_cell hk (by first | exact q1 | exact cell_a q1 _ | exact cell_a (cell_a q1 _) _ | exact cell_a (cell_a (cell_a q1 _) _) _); replace K : Kp W w2 := kp_trans (by repeat (first | exact K | apply kp_alloc | apply kp_drew | apply kp_drewN)) hk; replace l0 : w.heap.size < w2.heap.size := cell_lt c0; clear hk; rw [HC.out]))
          all_goals go_wp2_with fail
          all_goals exact ⟨⟨k + 1, N + 1, by omega, by omega, by go_num, by go_num, by rw [HS.out, HC.out]; rfl, K⟩, by simp [intOf]; omega⟩
      · obtain rfl : k = n := by omega
        have he : Hid (N = crossN (px, py) (q :: m)) := Lib.hid (by rw [← hpc, ← HN.out]; exact HA.out)
        have hK := Lib.hid hkp
        clear hpc hkp
        go_wp2_with fail
        go_ret
        exact ⟨ret_int (by rw [he.out]), kp_trans HK.out hK.out⟩
theorem rcrossings_rdC (px py : Int) (v : Value) (l : List Pt) (w : World) (h : RdC w v l) :
    Calls Try.prog 20 #[pv px py, v] w fun e w' => e = .returned (.int .i64 (crossN (px, py) l : Nat)) ∧ Kp w w' := by
  obtain ⟨a, len, cap, rfl, hp⟩ := rd_ptsV h
  exact rcrossings_any px py a len cap l w hp h.1
theorem rin_rdC (px py : Int) (v : Value) (l : List Pt) (w : World) (h : RdC w v l) :
    Calls Try.prog 21 #[pv px py, v] w fun e w' => e = .returned (.bool (inB (px, py) l)) ∧ Kp w w' := by
  have hx := fun w2 (k : Kp w w2) => rcrossings_rdC px py v l w2 (h.kp k)
  have hb := crossN_le (px, py) l
  have hl := h.1
  have he : inB (px, py) l = ((((crossN (px, py) l : Nat) : Int) % 2) == 1) := by
    unfold inB; rw [Bool.eq_iff_iff]; simp; omega
  obtain ⟨N, hN⟩ : ∃ N, crossN (px, py) l = N := ⟨_, rfl⟩
  rw [hN] at hx hb he
  have HX := Lib.hid hx
  have HE := Lib.hid he
  have b1 : 0 ≤ (N : Int) ∧ (N : Int) ≤ 10000000000000 := by omega
  have wt : ((N : Int)).tmod 2 = (N : Int) % 2 := Int.tmod_eq_emod_of_nonneg (by omega)
  clear hx he hN hb hl h
  obtain ⟨a, ha⟩ : ∃ a, a = v := ⟨_, rfl⟩
  go_enter Try.func21, Try.ntmps21
  go_wp2_with (go_at_call 20; refine (HX.out _ (kp_alloc (kp_refl _) _)).mono ?_; rintro e w2 ⟨rfl, hk⟩)
  go_ret
  exact ⟨ret_bool (by rw [HE.out]), kp_trans (kp_alloc (kp_refl _) _) hk⟩
end Go.Proofs.Ytmbfcneabpgcpaa
