/- Contracts of the reference's points: fits, Valid, In, Meet, Bounds. -/
import Derived.Test.YtjgphjhanoakkaaPM
import Derived.Test.YtjgphjhanoakkaaPin
import Derived.Test.YtjgphjhanoakkaaB2
namespace Go.Proofs.Ytjgphjhanoakkaa
open Go.RowKit Go.Proofs.Geo
theorem rfits_any (a : Int) (w : World) : Calls Try.prog 36 #[.int .i64 a] w fun e w' => e = .returned (.bool (okB a)) ∧ w = w' := by
  by_cases h : -1099511627775 ≤ a
  · by_cases h2 : a ≤ 1099511627775
    · have H := Lib.hid (okB_t h h2)
      go_enter Try.func36, Try.ntmps36
      go_wp2
      go_ret
      exact ⟨ret_bool H.out.symm, rfl⟩
    · have H := Lib.hid (okB_f (a := a) (by omega))
      go_enter Try.func36, Try.ntmps36
      go_wp2
      go_ret
      exact ⟨ret_bool H.out.symm, rfl⟩
  · have H := Lib.hid (okB_f (a := a) (by omega))
    go_enter Try.func36, Try.ntmps36
    go_wp2
    go_ret
    exact ⟨ret_bool H.out.symm, rfl⟩

theorem rvalid_any (x y : Int) (w : World) : Calls Try.prog 19 #[.agg #[.int .i64 x, .int .i64 y]] w fun e w' => e = .returned (.bool (okP (x, y))) ∧ Kp w w' := by
  cases h : okB x
  · have H := Lib.hid (okP_mk h (rfl : okB y = _))
    go_enter Try.func19, Try.ntmps19
    go_wp2_with (go_at_call 36; refine (rfits_any _ _).mono ?_; rintro e w' ⟨rfl, rfl⟩)
    go_ret
    exact ⟨ret_bool H.out.symm, kp_alloc (kp_refl _) _⟩
  · have H := Lib.hid (okP_mk h (rfl : okB y = _))
    go_enter Try.func19, Try.ntmps19
    go_wp2_with (go_at_call 36; refine (rfits_any _ _).mono ?_; rintro e w' ⟨rfl, rfl⟩)
    go_ret
    exact ⟨ret_bool (by rw [H.out]; rfl), kp_alloc (kp_refl _) _⟩


set_option maxHeartbeats 1000000 in
theorem rin_any (px py lx ly hx hy : Int) (w : World) : Calls Try.prog 27 #[pv px py, .agg #[.int .i64 lx, .int .i64 ly, .int .i64 hx, .int .i64 hy]] w fun e w' =>
    e = .returned (.bool (inBox (px, py) lx ly hx hy)) ∧ Kp w w' := by
  have H : Hid (inBox (px, py) lx ly hx hy = (decide (lx ≤ px) && decide (px < hx) && decide (ly ≤ py) && decide (py < hy))) := rfl
  go_enter Try.func27, Try.ntmps27
  go_wp2
  all_goals
    go_ret
    exact ⟨ret_bool (by rw [H.out]; simp [*] <;> omega), kp_alloc (kp_alloc (kp_refl _) _) _⟩

set_option maxHeartbeats 4000000 in
theorem rmeet_any (a b c d e g h k : Int) (w : World) : Calls Try.prog 29 #[.agg #[.int .i64 a, .int .i64 b, .int .i64 c, .int .i64 d], .agg #[.int .i64 e, .int .i64 g, .int .i64 h, .int .i64 k]] w fun r w' =>
    r = .returned (.bool (meetB (a, b, c, d) (e, g, h, k))) ∧ Kp w w' := by
  go_enter Try.func29, Try.ntmps29
  go_wp2
  all_goals
    go_ret
    exact ⟨ret_bool (by rw [Bool.eq_iff_iff, meetB_iff]; simp [*] <;> omega), kp_alloc (kp_alloc (kp_refl _) _) _⟩



/-- The reference's box while it is made, and the block of the result. -/
structure RB (w wr : World) (v0 v1 v2 v3 : Int) : Prop where
  kp : Kp w wr
  x0 : wr.cell? ⟨w.heap.size + 1, 0, none⟩ = some (.int .i64 v0)
  f0 : wr.frozen? ⟨w.heap.size + 1, 0, none⟩ = false
  r0 : wr.cell? ⟨w.heap.size, 0, none⟩ = some (.int .i64 0)
  g0 : wr.frozen? ⟨w.heap.size, 0, none⟩ = false
  x1 : wr.cell? ⟨w.heap.size + 1, 1, none⟩ = some (.int .i64 v1)
  f1 : wr.frozen? ⟨w.heap.size + 1, 1, none⟩ = false
  r1 : wr.cell? ⟨w.heap.size, 1, none⟩ = some (.int .i64 0)
  g1 : wr.frozen? ⟨w.heap.size, 1, none⟩ = false
  x2 : wr.cell? ⟨w.heap.size + 1, 2, none⟩ = some (.int .i64 v2)
  f2 : wr.frozen? ⟨w.heap.size + 1, 2, none⟩ = false
  r2 : wr.cell? ⟨w.heap.size, 2, none⟩ = some (.int .i64 0)
  g2 : wr.frozen? ⟨w.heap.size, 2, none⟩ = false
  x3 : wr.cell? ⟨w.heap.size + 1, 3, none⟩ = some (.int .i64 v3)
  f3 : wr.frozen? ⟨w.heap.size + 1, 3, none⟩ = false
  r3 : wr.cell? ⟨w.heap.size, 3, none⟩ = some (.int .i64 0)
  g3 : wr.frozen? ⟨w.heap.size, 3, none⟩ = false
theorem RB.alloc {w wr : World} {v0 v1 v2 v3 : Int} (h : RB w wr v0 v1 v2 v3) (o : Obj) : RB w (wr.alloc o) v0 v1 v2 v3 :=
  { kp := kp_alloc h.kp o, x0 := cell_a h.x0 o, f0 := froz_a h.x0 h.f0 o, r0 := cell_a h.r0 o, g0 := froz_a h.r0 h.g0 o, x1 := cell_a h.x1 o, f1 := froz_a h.x1 h.f1 o, r1 := cell_a h.r1 o, g1 := froz_a h.r1 h.g1 o, x2 := cell_a h.x2 o, f2 := froz_a h.x2 h.f2 o, r2 := cell_a h.r2 o, g2 := froz_a h.r2 h.g2 o, x3 := cell_a h.x3 o, f3 := froz_a h.x3 h.f3 o, r3 := cell_a h.r3 o, g3 := froz_a h.r3 h.g3 o }
theorem RB.drew {w wr : World} {v0 v1 v2 v3 : Int} (h : RB w wr v0 v1 v2 v3) : RB w wr.drew v0 v1 v2 v3 :=
  { kp := kp_drew h.kp, x0 := h.x0, f0 := h.f0, r0 := h.r0, g0 := h.g0, x1 := h.x1, f1 := h.f1, r1 := h.r1, g1 := h.g1, x2 := h.x2, f2 := h.f2, r2 := h.r2, g2 := h.g2, x3 := h.x3, f3 := h.f3, r3 := h.r3, g3 := h.g3 }
theorem RB.on {w wr w2 : World} {v0 v1 v2 v3 : Int} (h : RB w wr v0 v1 v2 v3) (k : Kp wr w2) : RB w w2 v0 v1 v2 v3 :=
  { kp := kp_trans h.kp k, x0 := kp_cell k h.x0, f0 := kp_froz k h.x0 h.f0, r0 := kp_cell k h.r0, g0 := kp_froz k h.r0 h.g0, x1 := kp_cell k h.x1, f1 := kp_froz k h.x1 h.f1, r1 := kp_cell k h.r1, g1 := kp_froz k h.r1 h.g1, x2 := kp_cell k h.x2, f2 := kp_froz k h.x2 h.f2, r2 := kp_cell k h.r2, g2 := kp_froz k h.r2 h.g2, x3 := kp_cell k h.x3, f3 := kp_froz k h.x3 h.f3, r3 := kp_cell k h.r3, g3 := kp_froz k h.r3 h.g3 }
theorem RB.set0 {w wr : World} {v0 v1 v2 v3 : Int} (h : RB w wr v0 v1 v2 v3) (u : Int) : RB w (wr.setCell ⟨w.heap.size + 1, 0, none⟩ (.int .i64 u)) u v1 v2 v3 := by
  obtain ⟨k, x0, f0, r0, g0, x1, f1, r1, g1, x2, f2, r2, g2, x3, f3, r3, g3⟩ := h
  exact ⟨kp_set k (Nat.le_add_right _ 1) _, by simp [go_sem, x0], by simp [f0], by simp [go_sem, r0], by simp [g0], by simp [go_sem, x1], by simp [f1], by simp [go_sem, r1], by simp [g1], by simp [go_sem, x2], by simp [f2], by simp [go_sem, r2], by simp [g2], by simp [go_sem, x3], by simp [f3], by simp [go_sem, r3], by simp [g3]⟩
theorem RB.set1 {w wr : World} {v0 v1 v2 v3 : Int} (h : RB w wr v0 v1 v2 v3) (u : Int) : RB w (wr.setCell ⟨w.heap.size + 1, 1, none⟩ (.int .i64 u)) v0 u v2 v3 := by
  obtain ⟨k, x0, f0, r0, g0, x1, f1, r1, g1, x2, f2, r2, g2, x3, f3, r3, g3⟩ := h
  exact ⟨kp_set k (Nat.le_add_right _ 1) _, by simp [go_sem, x0], by simp [f0], by simp [go_sem, r0], by simp [g0], by simp [go_sem, x1], by simp [f1], by simp [go_sem, r1], by simp [g1], by simp [go_sem, x2], by simp [f2], by simp [go_sem, r2], by simp [g2], by simp [go_sem, x3], by simp [f3], by simp [go_sem, r3], by simp [g3]⟩
theorem RB.set2 {w wr : World} {v0 v1 v2 v3 : Int} (h : RB w wr v0 v1 v2 v3) (u : Int) : RB w (wr.setCell ⟨w.heap.size + 1, 2, none⟩ (.int .i64 u)) v0 v1 u v3 := by
  obtain ⟨k, x0, f0, r0, g0, x1, f1, r1, g1, x2, f2, r2, g2, x3, f3, r3, g3⟩ := h
  exact ⟨kp_set k (Nat.le_add_right _ 1) _, by simp [go_sem, x0], by simp [f0], by simp [go_sem, r0], by simp [g0], by simp [go_sem, x1], by simp [f1], by simp [go_sem, r1], by simp [g1], by simp [go_sem, x2], by simp [f2], by simp [go_sem, r2], by simp [g2], by simp [go_sem, x3], by simp [f3], by simp [go_sem, r3], by simp [g3]⟩
theorem RB.set3 {w wr : World} {v0 v1 v2 v3 : Int} (h : RB w wr v0 v1 v2 v3) (u : Int) : RB w (wr.setCell ⟨w.heap.size + 1, 3, none⟩ (.int .i64 u)) v0 v1 v2 u := by
  obtain ⟨k, x0, f0, r0, g0, x1, f1, r1, g1, x2, f2, r2, g2, x3, f3, r3, g3⟩ := h
  exact ⟨kp_set k (Nat.le_add_right _ 1) _, by simp [go_sem, x0], by simp [f0], by simp [go_sem, r0], by simp [g0], by simp [go_sem, x1], by simp [f1], by simp [go_sem, r1], by simp [g1], by simp [go_sem, x2], by simp [f2], by simp [go_sem, r2], by simp [g2], by simp [go_sem, x3], by simp [f3], by simp [go_sem, r3], by simp [g3]⟩
theorem RB.to {w wr : World} {v0 v1 v2 v3 u0 u1 u2 u3 : Int} (h : RB w wr v0 v1 v2 v3) (e0 : v0 = u0) (e1 : v1 = u1) (e2 : v2 = u2) (e3 : v3 = u3) : RB w wr u0 u1 u2 u3 := by subst e0 e1 e2 e3; exact h
theorem bnd_end {w w' : World} {l : List Pt} {x0 x1 x2 x3 : Int} (hb : bndOk l = true) (h0 : (bndB l).1 = x0) (h1 : (bndB l).2.1 = x1) (h2 : (bndB l).2.2.1 = x2) (h3 : (bndB l).2.2.2 = x3) (k : Kp w w') : BndEnd w l (.returned (.tuple #[.agg #[.int .i64 x0, .int .i64 x1, .int .i64 x2, .int .i64 x3], .bool true])) w' := by
  subst h0 h1 h2 h3; unfold BndEnd; rw [hb]; exact ⟨rfl, k⟩
set_option maxHeartbeats 4000000 in
theorem rb_none (a : Option Addr) (cap : Nat) (w : World) : Calls Try.prog 24 #[.slice a 0 cap] w (BndEnd w []) := by
  go_enter Try.func24, Try.ntmps24
  go_wp2
  exact bodyPost_ret (v := .tuple #[.agg #[.int .i64 0, .int .i64 0, .int .i64 0, .int .i64 0], .bool false]) (by simp [results, Try.results24, go_sem]) rfl (bnd_no rfl (by repeat (first | exact kp_refl _ | apply kp_alloc | (refine kp_set ?_ (by simp) _))))
set_option maxHeartbeats 8000000 in
set_option maxRecDepth 100000 in
theorem rb_some (b off cap : Nat) (a : Pt) (m : List Pt) (w : World) (hl : (a :: m).length ≤ 10000000000000) (h : PtsAt w b off (a :: m)) :
    Calls Try.prog 24 #[.slice (some ⟨b, off, none⟩) (a :: m).length cap] w (BndEnd w (a :: m)) := by
  obtain ⟨len, hlen⟩ : ∃ len, (a :: m).length = len := ⟨_, rfl⟩
  have HP := Lib.hid h
  have hpos : 0 < len := by rw [← hlen]; simp
  rw [hlen] at hl ⊢
  have HL := Lib.hid hlen
  have h0 := h 0 (by simp)
  simp only [List.getElem_cons_zero, Nat.zero_mul, Nat.add_zero] at h0
  obtain ⟨q0, q1⟩ := h0
  have lB : b < w.heap.size := cell_lt q0
  clear hlen h
  have e1 : (len == 0) = false := beq_eq_false_iff_ne.2 (by omega)
  have e2 : ((len : Int) == 0) = false := beq_eq_false_iff_ne.2 (by omega)
  go_enter Try.func24, Try.ntmps24
  go_upto_region 3 with fail
  go_region
  have hx : RB w ((w.alloc (.cells #[.int .i64 0, .int .i64 0, .int .i64 0, .int .i64 0] 38)).alloc (.cells #[.int .i64 a.1, .int .i64 a.2, .int .i64 a.1, .int .i64 a.2] 38)).drew a.1 a.2 a.1 a.2 := by
    constructor <;> first | exact kp_drew (kp_alloc (kp_alloc (kp_refl _) _) _) | simp [go_sem] | simp
  have HX := Lib.hid hx
  clear hx q0 q1 lB
  go_wp2_with fail
  go_loopw [5] (fun i wx => ∃ k : Nat, k ≤ len ∧ i = .int .i64 k ∧ ((a :: m).take k).all okP = true ∧ RB w wx (mnC Prod.fst a.1 ((a :: m).take k)) (mnC Prod.snd a.2 ((a :: m).take k)) (mxC Prod.fst a.1 ((a :: m).take k)) (mxC Prod.snd a.2 ((a :: m).take k))) (fun i _ => len - (intOf i).toNat)
  case atStart => exact ⟨0, by omega, rfl, rfl, HX.out⟩
  case round =>
    obtain ⟨k, hk, rfl, hall, hx⟩ := hrel
    have HALL := Lib.hid hall
    by_cases hlt : k < len
    · have hkl : k < (a :: m).length := by rw [HL.out]; exact hlt
      obtain ⟨p0, p1⟩ := (HP.out.kp hx.kp) k hkl
      have hsn : ((a :: m).take (k + 1)).all okP = (((a :: m).take k).all okP && okP (a :: m)[k]) := by rw [List.take_succ_eq_append_getElem hkl, List.all_append]; simp
      have hbad : okP (a :: m)[k] = false → bndOk (a :: m) = false := fun e => by
        rw [← Bool.not_eq_true]; intro hh
        have := List.all_eq_true.1 (show (a :: m).all okP = true by simpa [bndOk] using hh) _ (List.getElem_mem hkl)
        rw [e] at this; cases this
      have s0 := mnC_snoc Prod.fst a.1 ((a :: m).take k) (a :: m)[k]
      have s1 := mnC_snoc Prod.snd a.2 ((a :: m).take k) (a :: m)[k]
      have s2 := mxC_snoc Prod.fst a.1 ((a :: m).take k) (a :: m)[k]
      have s3 := mxC_snoc Prod.snd a.2 ((a :: m).take k) (a :: m)[k]
      rw [← List.take_succ_eq_append_getElem hkl] at s0 s1 s2 s3
      generalize (a :: m)[k] = p at p0 p1 s0 s1 s2 s3 hsn hbad
      obtain ⟨px, py⟩ := p
      dsimp only at p0 p1 s0 s1 s2 s3
      have S0 := Lib.hid s0; have S1 := Lib.hid s1; have S2 := Lib.hid s2; have S3 := Lib.hid s3
      have HS := Lib.hid hsn; have HBAD := Lib.hid hbad
      clear s0 s1 s2 s3 hsn hbad hall hkl
      generalize mnC Prod.fst a.1 ((a :: m).take k) = n0 at *
      generalize mnC Prod.snd a.2 ((a :: m).take k) = n1 at *
      generalize mxC Prod.fst a.1 ((a :: m).take k) = n2 at *
      generalize mxC Prod.snd a.2 ((a :: m).take k) = n3 at *
      have HX2 := Lib.hid hx
      have lB : b < wr.heap.size := cell_lt p0
      have l0 : w.heap.size + 1 < wr.heap.size := cell_lt hx.x0
      clear hx HX
      have wk : IntKind.i64.wrap ((k : Int) + 1) = (k : Int) + 1 := IntWalk.i64_in _ (by omega)
      cases hv : okP (px, py)
      · have HN := Lib.hid (HBAD.out hv)
        go_wp2_with (go_at_call 19; refine (rvalid_any _ _ _).mono ?_; rintro e w2 ⟨rfl, hk2⟩; have HX3 := (HX2.out.alloc _).on hk2; obtain ⟨kx, x0, f0, r0, g0, x1, f1, r1, g1, x2, f2, r2, g2, x3, f3, r3, g3⟩ := HX3; clear hk2)
        refine bodyPost_ret (v := .tuple #[.agg #[.int .i64 0, .int .i64 0, .int .i64 0, .int .i64 0], .bool false]) (by simp [results, Try.results24, go_sem, r0, r1, r2, r3]) rfl (bnd_no HN.out ?_)
        repeat (first | exact kx | apply kp_alloc | (refine kp_set ?_ (Nat.le_refl _) _))
      · have HV := Lib.hid hv
        go_wp2_with (go_at_call 19; refine (rvalid_any _ _ _).mono ?_; rintro e w2 ⟨rfl, hk2⟩; have d0 : w2.cell? ⟨wr.heap.size, 0, none⟩ = some (.int .i64 px) := kp_cell hk2 (by simp [go_sem]); have d1 : w2.cell? ⟨wr.heap.size, 1, none⟩ = some (.int .i64 py) := kp_cell hk2 (by simp [go_sem]); have HX3 := Lib.hid ((HX2.out.alloc _).on hk2); obtain ⟨kx, x0, f0, r0, g0, x1, f1, r1, g1, x2, f2, r2, g2, x3, f3, r3, g3⟩ := HX3.out; have l1 : w.heap.size + 1 < w2.heap.size := cell_lt x0; have l2 : wr.heap.size < w2.heap.size := cell_lt d0; clear hk2 kx)
        all_goals
          go_roundw
          case rel => exact ⟨k + 1, by omega, by go_num, (by rw [HS.out, HALL.out, HV.out]; rfl), ((((HX3.out.set0 _).set1 _).set2 _).set3 _).to (by rw [S0.out]; omega) (by rw [S1.out]; omega) (by rw [S2.out]; omega) (by rw [S3.out]; omega)⟩
          case measure => simp [intOf]; omega
    · have hke : (a :: m).take k = a :: m := by rw [show k = (a :: m).length by rw [HL.out]; omega]; exact List.take_length
      rw [hke] at hx hall
      have e := bndB_ok hall
      have hr := fun p (hp : p ∈ a :: m) => bnd_ok_range hall hp
      have b0 := mxC_range (c := Prod.fst) (hr a (by simp)).1 (fun p hp => (hr p hp).1)
      have b1 := mxC_range (c := Prod.snd) (hr a (by simp)).2 (fun p hp => (hr p hp).2)
      have hok : bndOk (a :: m) = true := by simpa [bndOk] using hall
      generalize mnC Prod.fst a.1 (a :: m) = n0 at *
      generalize mnC Prod.snd a.2 (a :: m) = n1 at *
      generalize mxC Prod.fst a.1 (a :: m) = n2 at *
      generalize mxC Prod.snd a.2 (a :: m) = n3 at *
      have HOK := Lib.hid hok
      have HE := Lib.hid e
      obtain ⟨kx, x0, f0, r0, g0, x1, f1, r1, g1, x2, f2, r2, g2, x3, f3, r3, g3⟩ := hx
      have l1 : w.heap.size + 1 < wr.heap.size := cell_lt x0
      clear HX HALL hall hok e hr hke
      go_wp2_with fail
      refine bodyPost_ret (v := .tuple #[.agg #[.int .i64 n0, .int .i64 n1, .int .i64 (n2 + 1), .int .i64 (n3 + 1)], .bool true]) (by simp [results, Try.results24, go_sem, r0, r1, r2, r3]) rfl (bnd_end HOK.out (by rw [HE.out]) (by rw [HE.out]) (by rw [HE.out]) (by rw [HE.out]) ?_)
      repeat (first | exact kx | apply kp_alloc | (refine kp_set ?_ (Nat.le_refl _) _) | (refine kp_set ?_ (Nat.le_add_right _ 1) _))
theorem rb_any (v : Value) (l : List Pt) (w : World) (h : RdC w v l) : Calls Try.prog 24 #[v] w (BndEnd w l) := by
  by_cases hl : l = []
  · subst hl
    obtain ⟨_, ⟨rfl, _⟩ | ⟨ad, cap, rfl, _⟩⟩ := h
    · exact rb_none _ _ w
    · exact rb_none _ _ w
  · obtain ⟨hb, ⟨_, g⟩ | ⟨b, off, cap, rfl, hp⟩⟩ := h.rd hl
    · exact absurd g hl
    · cases l with
      | nil => exact absurd rfl hl
      | cons a m => exact rb_some b off cap a m w hb hp
end Go.Proofs.Ytjgphjhanoakkaa
