/- Contract of Split. -/
import Derived.Test.YtcmijedhjebpkaaMS3
import Derived.Test.YtcmijedhjebpkaaM1
import Derived.Test.YtcmijedhjebpkaaM2
import Derived.Test.YtcmijedhjebpkaaMR
import Derived.Test.YtcmijedhjebpkaaMG
import Derived.Deep.OwnRows
import Derived.Deep.DeepCutAuto
import Derived.RegionTactic
import Derived.BigRegion
namespace Go.Proofs.Ytcmijedhjebpkaa
open Go.RowKit Go.Proofs.Geo Go.Proofs.Mon
theorem madeCells_row (k : IntKind) (n : Nat) : madeCells #[.int k 0] n = rowV k (List.replicate n 0) := by
  rw [rowV_zero]
  apply Array.ext
  · simp [madeCells]
  · intro i h1 h2; simp [madeCells, Nat.mod_one]
/-- A made row of zeros. -/
structure Zr (W : World) (k : IntKind) (t : TypeId) (g n : Nat) (w : World) : Prop where
  lo : W.heap.size ≤ g
  row : RowB k t g (List.replicate n 0) w
theorem Zr.lt {W w : World} {k : IntKind} {t : TypeId} {g n : Nat} (h : Zr W k t g n w) : g < w.heap.size := h.row.lt
theorem Zr.kp {W w w' : World} {k : IntKind} {t : TypeId} {g n : Nat} (h : Zr W k t g n w) (hk : Kp w w') : Zr W k t g n w' := ⟨h.lo, h.row.kp hk⟩
theorem Zr.new {W w : World} {k : IntKind} {t : TypeId} {n : Nat} (h : Kp W w) : Zr W k t w.heap.size n (w.alloc (.cells (madeCells #[.int k 0] n) t)) := ⟨Below.size h, by rw [madeCells_row]; exact RowB.new w⟩
theorem Zr.off {W w : World} {k : IntKind} {t : TypeId} {g n c o : Nat} (h : Zr W k t g n w) (hne : g ≠ c) (u : Value) : Zr W k t g n (w.setCell ⟨c, o, none⟩ u) := ⟨h.lo, h.row.off hne u⟩
/-- A variable that holds a slice. -/
structure Hd (W : World) (g : Nat) (v : Value) (w : World) : Prop where
  lo : W.heap.size ≤ g
  c : w.cell? ⟨g, 0, none⟩ = some v
  f : w.frozen? ⟨g, 0, none⟩ = false
theorem Hd.lt {W w : World} {g : Nat} {v : Value} (h : Hd W g v w) : g < w.heap.size := cell_lt h.c
theorem Hd.kp {W w w' : World} {g : Nat} {v : Value} (h : Hd W g v w) (hk : Kp w w') : Hd W g v w' := ⟨h.lo, kp_cell hk h.c, kp_froz hk h.c h.f⟩
theorem Hd.new {W w : World} (h : Kp W w) (v : Value) (t : TypeId) : Hd W w.heap.size v (w.alloc (.cells #[v] t)) := ⟨Below.size h, by simp [go_sem], by simp [go_sem]⟩
theorem Hd.set {W w : World} {g : Nat} {v u : Value} (lo : W.heap.size ≤ g) (c : w.cell? ⟨g, 0, none⟩ = some v) (f : w.frozen? ⟨g, 0, none⟩ = false) : Hd W g u (w.setCell ⟨g, 0, none⟩ u) := ⟨lo, by simp [go_sem, c], by simp [go_sem, f]⟩
theorem Hd.off {W w : World} {g : Nat} {v : Value} {c o : Nat} (h : Hd W g v w) (hne : g ≠ c) (u : Value) : Hd W g v (w.setCell ⟨c, o, none⟩ u) :=
  ⟨h.lo, by rw [World.cell?_setCell_far _ _ _ _ (fun e => hne e.symm)]; exact h.c, by have := h.f; simp [go_sem, this]⟩
theorem infoI : (Try.prog.info? 3).map (fun i => (i.zero, i.size, i.bytes)) = some (some (.int .i64 0), 1, 8) := by kernel_rfl
theorem infoU : (Try.prog.info? 40).map (fun i => (i.zero, i.size, i.bytes)) = some (some (.int .u64 0), 1, 8) := by kernel_rfl
/-- What Split's first statement makes: three rows of zeros, two of them held by variables. -/
structure Made (W : World) (len gA gB gC gX gY : Nat) (w : World) : Prop where
  k : Kp W w
  a : Zr W .i64 3 gA len w
  b : Zr W .u64 40 gB len w
  c : Zr W .i64 3 gC len w
  x : Hd W gX (.slice (some ⟨gB, 0, none⟩) len len) w
  y : Hd W gY (.slice (some ⟨gC, 0, none⟩) len len) w
  ab : gA ≠ gB
  ac : gA ≠ gC
  ax : gA ≠ gX
  ay : gA ≠ gY
  bc : gB ≠ gC
  bx : gB ≠ gX
  by' : gB ≠ gY
  cx : gC ≠ gX
  cy : gC ≠ gY
  xy : gX ≠ gY
/-- The three rows, and the two variables, as they stand. -/
structure Mem (W : World) (len gA gB gC gX gY : Nat) (PA PB PC : List Int) (w : World) : Prop where
  k : Kp W w
  a : RowB .i64 3 gA PA w
  b : RowB .u64 40 gB PB w
  c : RowB .i64 3 gC PC w
  x : Hd W gX (.slice (some ⟨gB, 0, none⟩) len len) w
  y : Hd W gY (.slice (some ⟨gC, 0, none⟩) len len) w
/-- The five blocks lie apart, and are the call's own. -/
structure Dis (W : World) (gA gB gC gX gY : Nat) : Prop where
  la : W.heap.size ≤ gA
  lb : W.heap.size ≤ gB
  lc : W.heap.size ≤ gC
  ab : gA ≠ gB
  ac : gA ≠ gC
  ax : gA ≠ gX
  ay : gA ≠ gY
  bc : gB ≠ gC
  bx : gB ≠ gX
  by' : gB ≠ gY
  cx : gC ≠ gX
  cy : gC ≠ gY
  xy : gX ≠ gY
theorem heap_sorted {w : World} {g k n : Nat} {d : Array Int} {os : Array Obj} (hk : k < w.heap.size) (hne : k ≠ g) : (Sort.grow (Sort.putRow (Value.int .i64) (Sort.ahead w n) g 0 d) os).heap[k]? = w.heap[k]? := by
  rw [Sort.heap_grow_old _ _ (by unfold Sort.putRow Sort.mapBlock Sort.ahead; simpa using hk)]
  unfold Sort.putRow Sort.mapBlock Sort.ahead
  simp [Array.getElem?_modify, Ne.symm hne]
theorem kp_sorted {W w : World} (h : Kp W w) {g n : Nat} (hg : W.heap.size ≤ g) (d : Array Int) (os : Array Obj) : Kp W (Sort.grow (Sort.putRow (Value.int .i64) (Sort.ahead w n) g 0 d) os) :=
  ⟨h.os, h.tape, h.output, by have := h.size; unfold Sort.grow Sort.putRow Sort.mapBlock Sort.ahead; simp; omega, fun k hk => (heap_sorted (Nat.lt_of_lt_of_le hk h.size) (by omega)).trans (h.block k hk)⟩
theorem Mem.of {W w : World} {len gA gB gC gX gY : Nat} (h : Made W len gA gB gC gX gY w) : Mem W len gA gB gC gX gY (List.replicate len 0) (List.replicate len 0) (List.replicate len 0) w := ⟨h.k, h.a.row, h.b.row, h.c.row, h.x, h.y⟩
theorem Dis.of {W w : World} {len gA gB gC gX gY : Nat} (h : Made W len gA gB gC gX gY w) : Dis W gA gB gC gX gY := ⟨h.a.lo, h.b.lo, h.c.lo, h.ab, h.ac, h.ax, h.ay, h.bc, h.bx, h.by', h.cx, h.cy, h.xy⟩
theorem Mem.kp {W w w' : World} {len gA gB gC gX gY : Nat} {PA PB PC : List Int} (h : Mem W len gA gB gC gX gY PA PB PC w) (k : Kp w w') : Mem W len gA gB gC gX gY PA PB PC w' := ⟨kp_trans h.k k, h.a.kp k, h.b.kp k, h.c.kp k, h.x.kp k, h.y.kp k⟩
theorem RowB.else' {k : IntKind} {t : TypeId} {g c n : Nat} {L : List Int} {w : World} (h : RowB k t g L w) (hne : g ≠ c) (d : Array Int) (os : Array Obj) : RowB k t g L (Sort.grow (Sort.putRow (Value.int .i64) (Sort.ahead w n) c 0 d) os) := (heap_sorted h.lt hne).trans h
theorem Hd.else' {W w : World} {g c n : Nat} {v : Value} (h : Hd W g v w) (hne : g ≠ c) (d : Array Int) (os : Array Obj) : Hd W g v (Sort.grow (Sort.putRow (Value.int .i64) (Sort.ahead w n) c 0 d) os) :=
  ⟨h.lo, (World.cell?_of_block (a := ⟨g, 0, none⟩) (heap_sorted h.lt hne)).trans h.c, (World.frozen?_of_block (a := ⟨g, 0, none⟩) (heap_sorted h.lt hne)).trans h.f⟩
theorem Mem.sorted {W w : World} {len gA gB gC gX gY : Nat} {PA PB PC : List Int} (h : Mem W len gA gB gC gX gY PA PB PC w) (D : Dis W gA gB gC gX gY) (n : Nat) (d : Array Int) (hd : d.size = PC.length) (os : Array Obj) :
    Mem W len gA gB gC gX gY PA PB d.toList (Sort.grow (Sort.putRow (Value.int .i64) (Sort.ahead w n) gC 0 d) os) :=
  ⟨kp_sorted h.k D.lc d os, h.a.else' D.ac d os, h.b.else' D.bc d os, h.c.sorted n d hd os, h.x.else' D.cx.symm d os, h.y.else' D.cy.symm d os⟩
/-- What sort.SliceStable does to the places. -/
def SortC (len : Nat) (PB : List Int) : Prop := ∀ (w : World) (gB gC gX gY : Nat), RowB .u64 40 gB PB w → RowB .i64 3 gC (idxL len) w → w.cell? ⟨gX, 0, none⟩ = some (.slice (some ⟨gB, 0, none⟩) len len) → w.cell? ⟨gY, 0, none⟩ = some (.slice (some ⟨gC, 0, none⟩) len len) → gB ≠ gC → gX ≠ gC → gY ≠ gC →
  Calls Try.prog 25 #[.iface 22 (.slice (some ⟨gC, 0, none⟩) len len), .func (.func 26) #[] #[.pointer (some ⟨gX, 0, none⟩), .pointer (some ⟨gY, 0, none⟩)]] w fun e w' => e = .returned (.tuple #[]) ∧ ∃ n d os, d.size = len ∧ SrtBy PB d.toList ∧ w' = Sort.grow (Sort.putRow (Value.int .i64) (Sort.ahead w n) gC 0 d) os
theorem Mem.seta {W w : World} {len gA gB gC gX gY : Nat} {PA PB PC : List Int} (h : Mem W len gA gB gC gX gY PA PB PC w) (d : Dis W gA gB gC gX gY) (i : Nat) (v : Int) : Mem W len gA gB gC gX gY (PA.set i v) PB PC (w.setCell ⟨gA, i, none⟩ (.int .i64 v)) :=
  ⟨kp_set h.k d.la _, h.a.set i v, h.b.off d.ab.symm _, h.c.off d.ac.symm _, h.x.off d.ax.symm _, h.y.off d.ay.symm _⟩
theorem Mem.setb {W w : World} {len gA gB gC gX gY : Nat} {PA PB PC : List Int} (h : Mem W len gA gB gC gX gY PA PB PC w) (d : Dis W gA gB gC gX gY) (i : Nat) (v : Int) : Mem W len gA gB gC gX gY PA (PB.set i v) PC (w.setCell ⟨gB, i, none⟩ (.int .u64 v)) :=
  ⟨kp_set h.k d.lb _, h.a.off d.ab _, h.b.set i v, h.c.off d.bc.symm _, h.x.off d.bx.symm _, h.y.off d.by'.symm _⟩
theorem Mem.setc {W w : World} {len gA gB gC gX gY : Nat} {PA PB PC : List Int} (h : Mem W len gA gB gC gX gY PA PB PC w) (d : Dis W gA gB gC gX gY) (i : Nat) (v : Int) : Mem W len gA gB gC gX gY PA PB (PC.set i v) (w.setCell ⟨gC, i, none⟩ (.int .i64 v)) :=
  ⟨kp_set h.k d.lc _, h.a.off d.ac _, h.b.off d.bc _, h.c.set i v, h.x.off d.cx.symm _, h.y.off d.cy.symm _⟩

set_option linter.unusedVariables false
set_option maxHeartbeats 16000000 in
set_option maxRecDepth 100000 in
theorem split_core (t : Int) (a : Option Addr) (len cap : Nat) (l : List Int) (w : World) (hlen : len = l.length) (hl : len ≤ 1000) (h0 : mchk t = 0) (hw : weighR l = (l.sum, true)) (hso : SortC len (rL t.natAbs l.sum.toNat l)) (hR : RdI w (.slice a len cap) l) :
    Calls Try.prog 8 #[.int .i64 t, .slice a len cap] w fun e w' => (∃ v, e = .returned (.tuple #[v, .int .i64 0]) ∧ OwnI w' w.heap.size v (partsL t l)) ∧ Kp w w' := by
  have K : Kp w w := kp_refl _
  have ca := fun w => mcheck_any t w
  rw [h0] at ca
  have cw := fun w h => weigh_any (.slice a len cap) l w h (by omega)
  rw [hw] at cw
  have CA := Lib.hid ca; have CW := Lib.hid cw; have HR := Lib.hid hR
  obtain ⟨S, hS⟩ : ∃ S, l.sum = S := ⟨_, rfl⟩
  rw [hS] at CW
  have b0 := mchk_zero h0
  obtain ⟨N, hN⟩ : ∃ N : Nat, t.natAbs = N := ⟨_, rfl⟩
  have hNle : N ≤ 1099511627775 := by omega
  obtain ⟨hany, hS0, _⟩ := weigh_true hw
  have hSb := (Mon.sum_bd hany).2
  rw [hS] at hS0 hSb
  obtain ⟨Sn, hSn⟩ : ∃ Sn : Nat, S = (Sn : Int) := ⟨S.toNat, by omega⟩
  subst hSn
  rw [hS, hN, Int.toNat_natCast] at hso
  have HSO := Lib.hid hso
  clear hso
  have hS1 : 0 < Sn := by omega
  have hS2 : Sn ≤ 1100000000000000 := by omega
  obtain ⟨_, _, hv, hsh⟩ := hR.shape
  injection hv with v1 v2 v3
  subst v1 v3
  clear v2
  obtain ⟨b, off, rfl, hp⟩ := hsh.resolve_left (by rintro rfl; simp at hS; omega)
  have HP := Lib.hid hp
  have HN := Lib.hid hN; have HS := Lib.hid hS; have HAN := Lib.hid hany
  clear hany hS0 hSb hp hsh
  have HL := Lib.hid hlen
  clear ca cw hR h0 hw hN hS hlen
  go_enter Try.func8, Try.ntmps8
  go_upto_region 6 with (first
    | (go_at_call 11; refine (CA.out _).mono ?_; rintro e wk ⟨rfl, hk⟩; replace K := kp_trans K hk; clear hk)
    | (go_at_call 22; refine (CW.out _ (HR.out.kp K)).mono ?_; rintro e wk ⟨rfl, hk⟩; replace K := kp_trans K hk; clear hk))
  obtain ⟨sg, hsg⟩ : ∃ sg, sgT t = sg := ⟨_, rfl⟩
  have HSG := Lib.hid hsg
  clear hsg
  go_upto_if 35 with fail
  go_cut [8, 9] (fun n s wx => n = .int .i64 (N : Int) ∧ s = .int .i64 sg ∧ Kp w wx)
  case first =>
    by_cases ht : t < 0
    · have e1 : IntKind.i64.wrap (-t) = -t := IntWalk.i64_in _ (by omega)
      have e2 := Lib.hid (show -t = (N : Int) by have := HN.out; omega)
      have e3 := Lib.hid (show sg = -1 by rw [← HSG.out]; unfold sgT; rw [if_pos ht])
      go_wp2_with fail
      go_meet
      exact ⟨by rw [e2.out], by rw [e3.out], K⟩
    · have e2 := Lib.hid (show t = (N : Int) by have := HN.out; omega)
      have e3 := Lib.hid (show sg = 1 by rw [← HSG.out]; unfold sgT; rw [if_neg ht])
      go_wp2_with fail
      go_meet
      exact ⟨by rw [e2.out], by rw [e3.out], K⟩
  case rest =>
    clear K
    obtain ⟨rfl, rfl, K⟩ := hcut
    have hm1 := fun w => run_make_row' (P := Try.prog) 22 3 (.int .i64 0) 8 Try.underlying22 infoI rfl .i64 .i64 len (by omega) (by omega) w
    have hm2 := fun w => run_make_row' (P := Try.prog) 39 40 (.int .u64 0) 8 Try.underlying39 infoU rfl .i64 .i64 len (by omega) (by omega) w
    go_upto_region 9 with fail
    obtain ⟨W0, rfl⟩ : ∃ W, W = wc := ⟨_, rfl⟩
    have KW := Lib.hid K
    clear K
    go_cut [10, 11, 12] (fun p x y wx => ∃ gA gB gC gX gY, p = .slice (some ⟨gA, 0, none⟩) len len ∧ x = .pointer (some ⟨gX, 0, none⟩) ∧ y = .pointer (some ⟨gY, 0, none⟩) ∧ Made W0 len gA gB gC gX gY wx)
    case first =>
      refine wp_region_any (by kernel_rfl) ?_
      (try change wpAny _ _ _ _ _ _ _ (World.drew _))
      refine wpAny_inv (fun listed a' w' => ∃ (b0 b1 b2 b3 b4 b5 b6 b7 b8 b9 b10 b11 b12 b13 : Bool) (gA gB gC gX gY : Nat), listed = #[b0, b1, b2, b3, b4, b5, b6, b7, b8, b9, b10, b11, b12, b13] ∧ a' = { tmps := #[.int .i64 t, .slice (some ⟨b, off, none⟩) len cap, undef, undef, .slice none 0 0, .int .i64 0, .int .i64 (Sn : Int), .bool true, .int .i64 (N : Int), .int .i64 sg, cond b11 (.slice (some ⟨gA, 0, none⟩) len len) undef, cond b9 (.pointer (some ⟨gX, 0, none⟩)) undef, cond b10 (.pointer (some ⟨gY, 0, none⟩)) undef, undef, undef, undef, undef, undef, undef, undef, undef, undef, undef, u23, u24, u25, u26, u27, u28, u29, u30, u31, u32, u33, u34, u35, u36, u37, cond b0 (.slice (some ⟨b, off, none⟩) len cap) u38, cond b1 (.int .i64 (len : Int)) u39, cond b2 (.slice (some ⟨gA, 0, none⟩) len len) u40, cond b3 (.slice (some ⟨b, off, none⟩) len cap) u41, cond b4 (.int .i64 (len : Int)) u42, cond b5 (.slice (some ⟨gB, 0, none⟩) len len) u43, cond b6 (.slice (some ⟨b, off, none⟩) len cap) u44, cond b7 (.int .i64 (len : Int)) u45, cond b8 (.slice (some ⟨gC, 0, none⟩) len len) u46, u47, undef, undef, undef, u51, u52, u53, u54, u55, u56, u57, u58, u59, u60, u61, u62, u63, u64, u65, u66, u67, u68, u69, u70, u71, u72, u73, u74, u75, u76, u77, u78, u79, u80, u81, u82, u83, u84, u85, u86, u87, u88, u89, u90, u91, u92, u93, u94, undef, undef, undef, u98, u99, u100, u101, u102, u103, u104, u105, u106, u107, u108, undef, undef, u111, u112, u113, u114, u115, u116, u117, u118, u119, u120, u121], defers := [] } ∧ Kp W0 w' ∧ (b2 = true → Zr W0 .i64 3 gA len w') ∧ (b5 = true → Zr W0 .u64 40 gB len w') ∧ (b8 = true → Zr W0 .i64 3 gC len w') ∧ (b9 = true → Hd W0 gX (cond b12 (.slice (some ⟨gB, 0, none⟩) len len) (.slice none 0 0)) w') ∧ (b10 = true → Hd W0 gY (cond b13 (.slice (some ⟨gC, 0, none⟩) len len) (.slice none 0 0)) w') ∧ (b2 = true → b5 = true → gA ≠ gB) ∧ (b2 = true → b8 = true → gA ≠ gC) ∧ (b2 = true → b9 = true → gA ≠ gX) ∧ (b2 = true → b10 = true → gA ≠ gY) ∧ (b5 = true → b8 = true → gB ≠ gC) ∧ (b5 = true → b9 = true → gB ≠ gX) ∧ (b5 = true → b10 = true → gB ≠ gY) ∧ (b8 = true → b9 = true → gC ≠ gX) ∧ (b8 = true → b10 = true → gC ≠ gY) ∧ (b9 = true → b10 = true → gX ≠ gY) ∧ (b12 = true → b9 = true) ∧ (b13 = true → b10 = true) ∧ (b11 = true → b2 = true) ∧ (b12 = true → b5 = true) ∧ (b13 = true → b8 = true)) ?step ?done _ _ _ _ (by decide +kernel)
        ⟨false, false, false, false, false, false, false, false, false, false, false, false, false, false, 0, 0, 0, 0, 0, rfl, rfl, kp_drew (kp_refl _), by simp, by simp, by simp, by simp, by simp, by simp, by simp, by simp, by simp, by simp, by simp, by simp, by simp, by simp, by simp, by simp, by simp, by simp, by simp, by simp⟩
      case done =>
        rintro listed a' w' ⟨b0, b1, b2, b3, b4, b5, b6, b7, b8, b9, b10, b11, b12, b13, gA, gB, gC, gX, gY, rfl, rfl, hk, h2, h5, h8, h9, h10, n2_5, n2_8, n2_9, n2_10, n5_8, n5_9, n5_10, n8_9, n8_10, n9_10, q12, q13, r11, r12, r13⟩ hnil
        have nr := fun i o h1 h2 => ready_all hnil (i := i) (o := o) h1 h2
        have t0 := nr 0 _ rfl (by simp [Region.binds])
        simp at t0
        subst t0
        have t1 := nr 1 _ rfl (by simp [Region.binds])
        simp at t1
        subst t1
        have t2 := nr 2 _ rfl (by simp [Region.binds])
        simp at t2
        subst t2
        have t3 := nr 3 _ rfl (by simp [Region.binds])
        simp at t3
        subst t3
        have t4 := nr 4 _ rfl (by simp [Region.binds])
        simp at t4
        subst t4
        have t5 := nr 5 _ rfl (by simp [Region.binds])
        simp at t5
        subst t5
        have t6 := nr 6 _ rfl (by simp [Region.binds])
        simp at t6
        subst t6
        have t7 := nr 7 _ rfl (by simp [Region.binds])
        simp at t7
        subst t7
        have t8 := nr 8 _ rfl (by simp [Region.binds])
        simp at t8
        subst t8
        have t9 := nr 9 _ rfl (by simp [Region.binds])
        simp at t9
        subst t9
        have t10 := nr 10 _ rfl (by simp [Region.binds])
        simp at t10
        subst t10
        have t11 := nr 11 _ rfl (by simp [Region.binds])
        simp at t11
        subst t11
        have t12 := nr 12 _ rfl (by simp [Region.binds])
        simp at t12
        subst t12
        have t13 := nr 13 _ rfl (by simp [Region.binds])
        simp at t13
        subst t13
        have X := Lib.hid (show Made W0 len gA gB gC gX gY w' from ⟨hk, h2 rfl, h5 rfl, h8 rfl, h9 rfl, h10 rfl, n2_5 rfl rfl, n2_8 rfl rfl, n2_9 rfl rfl, n2_10 rfl rfl, n5_8 rfl rfl, n5_9 rfl rfl, n5_10 rfl rfl, n8_9 rfl rfl, n8_10 rfl rfl, n9_10 rfl rfl⟩)
        clear hk h2 h5 h8 h9 h10 n2_5 n2_8 n2_9 n2_10 n5_8 n5_9 n5_10 n8_9 n8_10 n9_10 q12 q13 r11 r12 r13 nr hnil
        go_wp2_with fail
        go_meet
        exact ⟨gA, gB, gC, gX, gY, rfl, rfl, rfl, X.out⟩
      case step =>
        rintro listed a' w' i' ⟨b0, b1, b2, b3, b4, b5, b6, b7, b8, b9, b10, b11, b12, b13, gA, gB, gC, gX, gY, rfl, rfl, hk, h2, h5, h8, h9, h10, n2_5, n2_8, n2_9, n2_10, n5_8, n5_9, n5_10, n8_9, n8_10, n9_10, q12, q13, r11, r12, r13⟩ hi'
        obtain ⟨hlt, hb, hrd⟩ := ready_mem hi'
        have hi18 : i' = 0 ∨ i' = 1 ∨ i' = 2 ∨ i' = 3 ∨ i' = 4 ∨ i' = 5 ∨ i' = 6 ∨ i' = 7 ∨ i' = 8 ∨ i' = 9 ∨ i' = 10 ∨ i' = 11 ∨ i' = 12 ∨ i' = 13 := by simp at hlt; omega
        clear hi'
        rcases hi18 with rfl | rfl | rfl | rfl | rfl | rfl | rfl | rfl | rfl | rfl | rfl | rfl | rfl | rfl
        · have hr := hrd _ rfl
          simp [Region.binds] at hb hr
          subst hb
          have H2 := Lib.hid h2; have H5 := Lib.hid h5; have H8 := Lib.hid h8; have H9 := Lib.hid h9; have H10 := Lib.hid h10; have N2_5 := Lib.hid n2_5; have N2_8 := Lib.hid n2_8; have N2_9 := Lib.hid n2_9; have N2_10 := Lib.hid n2_10; have N5_8 := Lib.hid n5_8; have N5_9 := Lib.hid n5_9; have N5_10 := Lib.hid n5_10; have N8_9 := Lib.hid n8_9; have N8_10 := Lib.hid n8_10; have N9_10 := Lib.hid n9_10; have Q12 := Lib.hid q12; have Q13 := Lib.hid q13; have R11 := Lib.hid r11; have R12 := Lib.hid r12; have R13 := Lib.hid r13; have HK := Lib.hid hk
          clear h2 h5 h8 h9 h10 n2_5 n2_8 n2_9 n2_10 n5_8 n5_9 n5_10 n8_9 n8_10 n9_10 q12 q13 r11 r12 r13 hk
          refine wpOp_step rfl (fun K hK => ?_)
          go_simp
          refine hK _ _ ?_
          exact ⟨true, b1, b2, b3, b4, b5, b6, b7, b8, b9, b10, b11, b12, b13, gA, gB, gC, gX, gY, rfl, rfl, HK.out, H2.out, H5.out, H8.out, H9.out, H10.out, N2_5.out, N2_8.out, N2_9.out, N2_10.out, N5_8.out, N5_9.out, N5_10.out, N8_9.out, N8_10.out, N9_10.out, Q12.out, Q13.out, R11.out, R12.out, R13.out⟩
        · have hr := hrd _ rfl
          simp [Region.binds] at hb hr
          subst hb
          repeat (obtain ⟨h1, hr⟩ := hr; (first | subst h1 | clear h1))
          (first | subst hr | clear hr)
          have H2 := Lib.hid h2; have H5 := Lib.hid h5; have H8 := Lib.hid h8; have H9 := Lib.hid h9; have H10 := Lib.hid h10; have N2_5 := Lib.hid n2_5; have N2_8 := Lib.hid n2_8; have N2_9 := Lib.hid n2_9; have N2_10 := Lib.hid n2_10; have N5_8 := Lib.hid n5_8; have N5_9 := Lib.hid n5_9; have N5_10 := Lib.hid n5_10; have N8_9 := Lib.hid n8_9; have N8_10 := Lib.hid n8_10; have N9_10 := Lib.hid n9_10; have Q12 := Lib.hid q12; have Q13 := Lib.hid q13; have R11 := Lib.hid r11; have R12 := Lib.hid r12; have R13 := Lib.hid r13; have HK := Lib.hid hk
          clear h2 h5 h8 h9 h10 n2_5 n2_8 n2_9 n2_10 n5_8 n5_9 n5_10 n8_9 n8_10 n9_10 q12 q13 r11 r12 r13 hk
          refine wpOp_step rfl (fun K hK => ?_)
          go_simp
          refine hK _ _ ?_
          exact ⟨true, true, b2, b3, b4, b5, b6, b7, b8, b9, b10, b11, b12, b13, gA, gB, gC, gX, gY, rfl, rfl, HK.out, H2.out, H5.out, H8.out, H9.out, H10.out, N2_5.out, N2_8.out, N2_9.out, N2_10.out, N5_8.out, N5_9.out, N5_10.out, N8_9.out, N8_10.out, N9_10.out, Q12.out, Q13.out, R11.out, R12.out, R13.out⟩
        · have hr := hrd _ rfl
          simp [Region.binds] at hb hr
          subst hb
          repeat (obtain ⟨h1, hr⟩ := hr; (first | subst h1 | clear h1))
          (first | subst hr | clear hr)
          obtain rfl : b11 = false := by cases b11; rfl; exact absurd (r11 rfl) (by simp)
          have H2 := Lib.hid h2; have H5 := Lib.hid h5; have H8 := Lib.hid h8; have H9 := Lib.hid h9; have H10 := Lib.hid h10; have N2_5 := Lib.hid n2_5; have N2_8 := Lib.hid n2_8; have N2_9 := Lib.hid n2_9; have N2_10 := Lib.hid n2_10; have N5_8 := Lib.hid n5_8; have N5_9 := Lib.hid n5_9; have N5_10 := Lib.hid n5_10; have N8_9 := Lib.hid n8_9; have N8_10 := Lib.hid n8_10; have N9_10 := Lib.hid n9_10; have Q12 := Lib.hid q12; have Q13 := Lib.hid q13; have R11 := Lib.hid r11; have R12 := Lib.hid r12; have R13 := Lib.hid r13; have HK := Lib.hid hk
          clear h2 h5 h8 h9 h10 n2_5 n2_8 n2_9 n2_10 n5_8 n5_9 n5_10 n8_9 n8_10 n9_10 q12 q13 r11 r12 r13 hk
          refine wpOp_step rfl (fun K hK => ?_)
          go_simp
          refine hK _ _ ?_
          exact ⟨b0, true, true, b3, b4, b5, b6, b7, b8, b9, b10, false, b12, b13, w'.heap.size, gB, gC, gX, gY, rfl, rfl, kp_alloc HK.out _, fun _ => Zr.new HK.out, fun h => (H5.out h).kp (kp_alloc (kp_refl _) _), fun h => (H8.out h).kp (kp_alloc (kp_refl _) _), fun h => (H9.out h).kp (kp_alloc (kp_refl _) _), fun h => (H10.out h).kp (kp_alloc (kp_refl _) _), fun _ h => Nat.ne_of_gt (H5.out h).lt, fun _ h => Nat.ne_of_gt (H8.out h).lt, fun _ h => Nat.ne_of_gt (H9.out h).lt, fun _ h => Nat.ne_of_gt (H10.out h).lt, N5_8.out, N5_9.out, N5_10.out, N8_9.out, N8_10.out, N9_10.out, Q12.out, Q13.out, fun _ => rfl, R12.out, R13.out⟩
        · have hr := hrd _ rfl
          simp [Region.binds] at hb hr
          subst hb
          have H2 := Lib.hid h2; have H5 := Lib.hid h5; have H8 := Lib.hid h8; have H9 := Lib.hid h9; have H10 := Lib.hid h10; have N2_5 := Lib.hid n2_5; have N2_8 := Lib.hid n2_8; have N2_9 := Lib.hid n2_9; have N2_10 := Lib.hid n2_10; have N5_8 := Lib.hid n5_8; have N5_9 := Lib.hid n5_9; have N5_10 := Lib.hid n5_10; have N8_9 := Lib.hid n8_9; have N8_10 := Lib.hid n8_10; have N9_10 := Lib.hid n9_10; have Q12 := Lib.hid q12; have Q13 := Lib.hid q13; have R11 := Lib.hid r11; have R12 := Lib.hid r12; have R13 := Lib.hid r13; have HK := Lib.hid hk
          clear h2 h5 h8 h9 h10 n2_5 n2_8 n2_9 n2_10 n5_8 n5_9 n5_10 n8_9 n8_10 n9_10 q12 q13 r11 r12 r13 hk
          refine wpOp_step rfl (fun K hK => ?_)
          go_simp
          refine hK _ _ ?_
          exact ⟨b0, b1, b2, true, b4, b5, b6, b7, b8, b9, b10, b11, b12, b13, gA, gB, gC, gX, gY, rfl, rfl, HK.out, H2.out, H5.out, H8.out, H9.out, H10.out, N2_5.out, N2_8.out, N2_9.out, N2_10.out, N5_8.out, N5_9.out, N5_10.out, N8_9.out, N8_10.out, N9_10.out, Q12.out, Q13.out, R11.out, R12.out, R13.out⟩
        · have hr := hrd _ rfl
          simp [Region.binds] at hb hr
          subst hb
          repeat (obtain ⟨h1, hr⟩ := hr; (first | subst h1 | clear h1))
          (first | subst hr | clear hr)
          have H2 := Lib.hid h2; have H5 := Lib.hid h5; have H8 := Lib.hid h8; have H9 := Lib.hid h9; have H10 := Lib.hid h10; have N2_5 := Lib.hid n2_5; have N2_8 := Lib.hid n2_8; have N2_9 := Lib.hid n2_9; have N2_10 := Lib.hid n2_10; have N5_8 := Lib.hid n5_8; have N5_9 := Lib.hid n5_9; have N5_10 := Lib.hid n5_10; have N8_9 := Lib.hid n8_9; have N8_10 := Lib.hid n8_10; have N9_10 := Lib.hid n9_10; have Q12 := Lib.hid q12; have Q13 := Lib.hid q13; have R11 := Lib.hid r11; have R12 := Lib.hid r12; have R13 := Lib.hid r13; have HK := Lib.hid hk
          clear h2 h5 h8 h9 h10 n2_5 n2_8 n2_9 n2_10 n5_8 n5_9 n5_10 n8_9 n8_10 n9_10 q12 q13 r11 r12 r13 hk
          refine wpOp_step rfl (fun K hK => ?_)
          go_simp
          refine hK _ _ ?_
          exact ⟨b0, b1, b2, true, true, b5, b6, b7, b8, b9, b10, b11, b12, b13, gA, gB, gC, gX, gY, rfl, rfl, HK.out, H2.out, H5.out, H8.out, H9.out, H10.out, N2_5.out, N2_8.out, N2_9.out, N2_10.out, N5_8.out, N5_9.out, N5_10.out, N8_9.out, N8_10.out, N9_10.out, Q12.out, Q13.out, R11.out, R12.out, R13.out⟩
        · have hr := hrd _ rfl
          simp [Region.binds] at hb hr
          subst hb
          repeat (obtain ⟨h1, hr⟩ := hr; (first | subst h1 | clear h1))
          (first | subst hr | clear hr)
          obtain rfl : b12 = false := by cases b12; rfl; exact absurd (r12 rfl) (by simp)
          have H2 := Lib.hid h2; have H5 := Lib.hid h5; have H8 := Lib.hid h8; have H9 := Lib.hid h9; have H10 := Lib.hid h10; have N2_5 := Lib.hid n2_5; have N2_8 := Lib.hid n2_8; have N2_9 := Lib.hid n2_9; have N2_10 := Lib.hid n2_10; have N5_8 := Lib.hid n5_8; have N5_9 := Lib.hid n5_9; have N5_10 := Lib.hid n5_10; have N8_9 := Lib.hid n8_9; have N8_10 := Lib.hid n8_10; have N9_10 := Lib.hid n9_10; have Q12 := Lib.hid q12; have Q13 := Lib.hid q13; have R11 := Lib.hid r11; have R12 := Lib.hid r12; have R13 := Lib.hid r13; have HK := Lib.hid hk
          clear h2 h5 h8 h9 h10 n2_5 n2_8 n2_9 n2_10 n5_8 n5_9 n5_10 n8_9 n8_10 n9_10 q12 q13 r11 r12 r13 hk
          refine wpOp_step rfl (fun K hK => ?_)
          go_simp
          refine hK _ _ ?_
          exact ⟨b0, b1, b2, b3, true, true, b6, b7, b8, b9, b10, b11, false, b13, gA, w'.heap.size, gC, gX, gY, rfl, rfl, kp_alloc HK.out _, fun h => (H2.out h).kp (kp_alloc (kp_refl _) _), fun _ => Zr.new HK.out, fun h => (H8.out h).kp (kp_alloc (kp_refl _) _), fun h => (H9.out h).kp (kp_alloc (kp_refl _) _), fun h => (H10.out h).kp (kp_alloc (kp_refl _) _), fun h _ => Nat.ne_of_lt (H2.out h).lt, N2_8.out, N2_9.out, N2_10.out, fun _ h => Nat.ne_of_gt (H8.out h).lt, fun _ h => Nat.ne_of_gt (H9.out h).lt, fun _ h => Nat.ne_of_gt (H10.out h).lt, N8_9.out, N8_10.out, N9_10.out, Q12.out, Q13.out, R11.out, fun _ => rfl, R13.out⟩
        · have hr := hrd _ rfl
          simp [Region.binds] at hb hr
          subst hb
          have H2 := Lib.hid h2; have H5 := Lib.hid h5; have H8 := Lib.hid h8; have H9 := Lib.hid h9; have H10 := Lib.hid h10; have N2_5 := Lib.hid n2_5; have N2_8 := Lib.hid n2_8; have N2_9 := Lib.hid n2_9; have N2_10 := Lib.hid n2_10; have N5_8 := Lib.hid n5_8; have N5_9 := Lib.hid n5_9; have N5_10 := Lib.hid n5_10; have N8_9 := Lib.hid n8_9; have N8_10 := Lib.hid n8_10; have N9_10 := Lib.hid n9_10; have Q12 := Lib.hid q12; have Q13 := Lib.hid q13; have R11 := Lib.hid r11; have R12 := Lib.hid r12; have R13 := Lib.hid r13; have HK := Lib.hid hk
          clear h2 h5 h8 h9 h10 n2_5 n2_8 n2_9 n2_10 n5_8 n5_9 n5_10 n8_9 n8_10 n9_10 q12 q13 r11 r12 r13 hk
          refine wpOp_step rfl (fun K hK => ?_)
          go_simp
          refine hK _ _ ?_
          exact ⟨b0, b1, b2, b3, b4, b5, true, b7, b8, b9, b10, b11, b12, b13, gA, gB, gC, gX, gY, rfl, rfl, HK.out, H2.out, H5.out, H8.out, H9.out, H10.out, N2_5.out, N2_8.out, N2_9.out, N2_10.out, N5_8.out, N5_9.out, N5_10.out, N8_9.out, N8_10.out, N9_10.out, Q12.out, Q13.out, R11.out, R12.out, R13.out⟩
        · have hr := hrd _ rfl
          simp [Region.binds] at hb hr
          subst hb
          repeat (obtain ⟨h1, hr⟩ := hr; (first | subst h1 | clear h1))
          (first | subst hr | clear hr)
          have H2 := Lib.hid h2; have H5 := Lib.hid h5; have H8 := Lib.hid h8; have H9 := Lib.hid h9; have H10 := Lib.hid h10; have N2_5 := Lib.hid n2_5; have N2_8 := Lib.hid n2_8; have N2_9 := Lib.hid n2_9; have N2_10 := Lib.hid n2_10; have N5_8 := Lib.hid n5_8; have N5_9 := Lib.hid n5_9; have N5_10 := Lib.hid n5_10; have N8_9 := Lib.hid n8_9; have N8_10 := Lib.hid n8_10; have N9_10 := Lib.hid n9_10; have Q12 := Lib.hid q12; have Q13 := Lib.hid q13; have R11 := Lib.hid r11; have R12 := Lib.hid r12; have R13 := Lib.hid r13; have HK := Lib.hid hk
          clear h2 h5 h8 h9 h10 n2_5 n2_8 n2_9 n2_10 n5_8 n5_9 n5_10 n8_9 n8_10 n9_10 q12 q13 r11 r12 r13 hk
          refine wpOp_step rfl (fun K hK => ?_)
          go_simp
          refine hK _ _ ?_
          exact ⟨b0, b1, b2, b3, b4, b5, true, true, b8, b9, b10, b11, b12, b13, gA, gB, gC, gX, gY, rfl, rfl, HK.out, H2.out, H5.out, H8.out, H9.out, H10.out, N2_5.out, N2_8.out, N2_9.out, N2_10.out, N5_8.out, N5_9.out, N5_10.out, N8_9.out, N8_10.out, N9_10.out, Q12.out, Q13.out, R11.out, R12.out, R13.out⟩
        · have hr := hrd _ rfl
          simp [Region.binds] at hb hr
          subst hb
          repeat (obtain ⟨h1, hr⟩ := hr; (first | subst h1 | clear h1))
          (first | subst hr | clear hr)
          obtain rfl : b13 = false := by cases b13; rfl; exact absurd (r13 rfl) (by simp)
          have H2 := Lib.hid h2; have H5 := Lib.hid h5; have H8 := Lib.hid h8; have H9 := Lib.hid h9; have H10 := Lib.hid h10; have N2_5 := Lib.hid n2_5; have N2_8 := Lib.hid n2_8; have N2_9 := Lib.hid n2_9; have N2_10 := Lib.hid n2_10; have N5_8 := Lib.hid n5_8; have N5_9 := Lib.hid n5_9; have N5_10 := Lib.hid n5_10; have N8_9 := Lib.hid n8_9; have N8_10 := Lib.hid n8_10; have N9_10 := Lib.hid n9_10; have Q12 := Lib.hid q12; have Q13 := Lib.hid q13; have R11 := Lib.hid r11; have R12 := Lib.hid r12; have R13 := Lib.hid r13; have HK := Lib.hid hk
          clear h2 h5 h8 h9 h10 n2_5 n2_8 n2_9 n2_10 n5_8 n5_9 n5_10 n8_9 n8_10 n9_10 q12 q13 r11 r12 r13 hk
          refine wpOp_step rfl (fun K hK => ?_)
          go_simp
          refine hK _ _ ?_
          exact ⟨b0, b1, b2, b3, b4, b5, b6, true, true, b9, b10, b11, b12, false, gA, gB, w'.heap.size, gX, gY, rfl, rfl, kp_alloc HK.out _, fun h => (H2.out h).kp (kp_alloc (kp_refl _) _), fun h => (H5.out h).kp (kp_alloc (kp_refl _) _), fun _ => Zr.new HK.out, fun h => (H9.out h).kp (kp_alloc (kp_refl _) _), fun h => (H10.out h).kp (kp_alloc (kp_refl _) _), N2_5.out, fun h _ => Nat.ne_of_lt (H2.out h).lt, N2_9.out, N2_10.out, fun h _ => Nat.ne_of_lt (H5.out h).lt, N5_9.out, N5_10.out, fun _ h => Nat.ne_of_gt (H9.out h).lt, fun _ h => Nat.ne_of_gt (H10.out h).lt, N9_10.out, Q12.out, Q13.out, R11.out, R12.out, fun _ => rfl⟩
        · have hr := hrd _ rfl
          simp [Region.binds] at hb hr
          subst hb
          obtain rfl : b12 = false := by cases b12; rfl; exact absurd (q12 rfl) (by simp)
          have H2 := Lib.hid h2; have H5 := Lib.hid h5; have H8 := Lib.hid h8; have H9 := Lib.hid h9; have H10 := Lib.hid h10; have N2_5 := Lib.hid n2_5; have N2_8 := Lib.hid n2_8; have N2_9 := Lib.hid n2_9; have N2_10 := Lib.hid n2_10; have N5_8 := Lib.hid n5_8; have N5_9 := Lib.hid n5_9; have N5_10 := Lib.hid n5_10; have N8_9 := Lib.hid n8_9; have N8_10 := Lib.hid n8_10; have N9_10 := Lib.hid n9_10; have Q12 := Lib.hid q12; have Q13 := Lib.hid q13; have R11 := Lib.hid r11; have R12 := Lib.hid r12; have R13 := Lib.hid r13; have HK := Lib.hid hk
          clear h2 h5 h8 h9 h10 n2_5 n2_8 n2_9 n2_10 n5_8 n5_9 n5_10 n8_9 n8_10 n9_10 q12 q13 r11 r12 r13 hk
          refine wpOp_step rfl (fun K hK => ?_)
          go_simp
          refine hK _ _ ?_
          exact ⟨b0, b1, b2, b3, b4, b5, b6, b7, b8, true, b10, b11, false, b13, gA, gB, gC, w'.heap.size, gY, rfl, rfl, kp_alloc HK.out _, fun h => (H2.out h).kp (kp_alloc (kp_refl _) _), fun h => (H5.out h).kp (kp_alloc (kp_refl _) _), fun h => (H8.out h).kp (kp_alloc (kp_refl _) _), fun _ => Hd.new HK.out _ _, fun h => (H10.out h).kp (kp_alloc (kp_refl _) _), N2_5.out, N2_8.out, fun h _ => Nat.ne_of_lt (H2.out h).lt, N2_10.out, N5_8.out, fun h _ => Nat.ne_of_lt (H5.out h).lt, N5_10.out, fun h _ => Nat.ne_of_lt (H8.out h).lt, N8_10.out, fun _ h => Nat.ne_of_gt (H10.out h).lt, fun _ => rfl, Q13.out, R11.out, R12.out, R13.out⟩
        · have hr := hrd _ rfl
          simp [Region.binds] at hb hr
          subst hb
          obtain rfl : b13 = false := by cases b13; rfl; exact absurd (q13 rfl) (by simp)
          have H2 := Lib.hid h2; have H5 := Lib.hid h5; have H8 := Lib.hid h8; have H9 := Lib.hid h9; have H10 := Lib.hid h10; have N2_5 := Lib.hid n2_5; have N2_8 := Lib.hid n2_8; have N2_9 := Lib.hid n2_9; have N2_10 := Lib.hid n2_10; have N5_8 := Lib.hid n5_8; have N5_9 := Lib.hid n5_9; have N5_10 := Lib.hid n5_10; have N8_9 := Lib.hid n8_9; have N8_10 := Lib.hid n8_10; have N9_10 := Lib.hid n9_10; have Q12 := Lib.hid q12; have Q13 := Lib.hid q13; have R11 := Lib.hid r11; have R12 := Lib.hid r12; have R13 := Lib.hid r13; have HK := Lib.hid hk
          clear h2 h5 h8 h9 h10 n2_5 n2_8 n2_9 n2_10 n5_8 n5_9 n5_10 n8_9 n8_10 n9_10 q12 q13 r11 r12 r13 hk
          refine wpOp_step rfl (fun K hK => ?_)
          go_simp
          refine hK _ _ ?_
          exact ⟨b0, b1, b2, b3, b4, b5, b6, b7, b8, b9, true, b11, b12, false, gA, gB, gC, gX, w'.heap.size, rfl, rfl, kp_alloc HK.out _, fun h => (H2.out h).kp (kp_alloc (kp_refl _) _), fun h => (H5.out h).kp (kp_alloc (kp_refl _) _), fun h => (H8.out h).kp (kp_alloc (kp_refl _) _), fun h => (H9.out h).kp (kp_alloc (kp_refl _) _), fun _ => Hd.new HK.out _ _, N2_5.out, N2_8.out, N2_9.out, fun h _ => Nat.ne_of_lt (H2.out h).lt, N5_8.out, N5_9.out, fun h _ => Nat.ne_of_lt (H5.out h).lt, N8_9.out, fun h _ => Nat.ne_of_lt (H8.out h).lt, fun h _ => Nat.ne_of_lt (H9.out h).lt, Q12.out, fun _ => rfl, R11.out, R12.out, R13.out⟩
        · have hr := hrd _ rfl
          simp [Region.binds] at hb hr
          subst hb
          repeat (obtain ⟨h1, hr⟩ := hr; (first | subst h1 | clear h1))
          (first | subst hr | clear hr)
          have H2 := Lib.hid h2; have H5 := Lib.hid h5; have H8 := Lib.hid h8; have H9 := Lib.hid h9; have H10 := Lib.hid h10; have N2_5 := Lib.hid n2_5; have N2_8 := Lib.hid n2_8; have N2_9 := Lib.hid n2_9; have N2_10 := Lib.hid n2_10; have N5_8 := Lib.hid n5_8; have N5_9 := Lib.hid n5_9; have N5_10 := Lib.hid n5_10; have N8_9 := Lib.hid n8_9; have N8_10 := Lib.hid n8_10; have N9_10 := Lib.hid n9_10; have Q12 := Lib.hid q12; have Q13 := Lib.hid q13; have R11 := Lib.hid r11; have R12 := Lib.hid r12; have R13 := Lib.hid r13; have HK := Lib.hid hk
          clear h2 h5 h8 h9 h10 n2_5 n2_8 n2_9 n2_10 n5_8 n5_9 n5_10 n8_9 n8_10 n9_10 q12 q13 r11 r12 r13 hk
          refine wpOp_step rfl (fun K hK => ?_)
          go_simp
          refine hK _ _ ?_
          exact ⟨true, true, true, b3, b4, b5, b6, b7, b8, true, true, true, b12, b13, gA, gB, gC, gX, gY, rfl, rfl, HK.out, H2.out, H5.out, H8.out, H9.out, H10.out, N2_5.out, N2_8.out, N2_9.out, N2_10.out, N5_8.out, N5_9.out, N5_10.out, N8_9.out, N8_10.out, N9_10.out, fun _ => rfl, fun _ => rfl, fun _ => rfl, R12.out, R13.out⟩
        · have hr := hrd _ rfl
          simp [Region.binds] at hb hr
          subst hb
          repeat (obtain ⟨h1, hr⟩ := hr; (first | subst h1 | clear h1))
          (first | subst hr | clear hr)
          obtain ⟨lo, z0, f0⟩ := h9 rfl
          (try dsimp only [cond_false] at z0)
          have lB : gX < w'.heap.size := cell_lt z0
          have H2 := Lib.hid h2; have H5 := Lib.hid h5; have H8 := Lib.hid h8; have H9 := Lib.hid h9; have H10 := Lib.hid h10; have N2_5 := Lib.hid n2_5; have N2_8 := Lib.hid n2_8; have N2_9 := Lib.hid n2_9; have N2_10 := Lib.hid n2_10; have N5_8 := Lib.hid n5_8; have N5_9 := Lib.hid n5_9; have N5_10 := Lib.hid n5_10; have N8_9 := Lib.hid n8_9; have N8_10 := Lib.hid n8_10; have N9_10 := Lib.hid n9_10; have Q12 := Lib.hid q12; have Q13 := Lib.hid q13; have R11 := Lib.hid r11; have R12 := Lib.hid r12; have R13 := Lib.hid r13; have HK := Lib.hid hk
          clear h2 h5 h8 h9 h10 n2_5 n2_8 n2_9 n2_10 n5_8 n5_9 n5_10 n8_9 n8_10 n9_10 q12 q13 r11 r12 r13 hk
          refine wpOp_step rfl (fun K hK => ?_)
          go_simp
          refine hK _ _ ?_
          exact ⟨true, true, true, true, true, true, b6, b7, b8, true, true, true, true, b13, gA, gB, gC, gX, gY, rfl, rfl, kp_set HK.out lo _, fun h => (H2.out h).off (N2_9.out rfl rfl) _, fun h => (H5.out h).off (N5_9.out rfl rfl) _, fun h => (H8.out h).off (N8_9.out h rfl) _, fun _ => Hd.set lo z0 f0, fun h => (H10.out h).off ((N9_10.out rfl rfl).symm) _, N2_5.out, N2_8.out, N2_9.out, N2_10.out, N5_8.out, N5_9.out, N5_10.out, N8_9.out, N8_10.out, N9_10.out, fun _ => rfl, fun _ => rfl, fun _ => rfl, fun _ => rfl, R13.out⟩
        · have hr := hrd _ rfl
          simp [Region.binds] at hb hr
          subst hb
          repeat (obtain ⟨h1, hr⟩ := hr; (first | subst h1 | clear h1))
          (first | subst hr | clear hr)
          obtain ⟨lo, z0, f0⟩ := h10 rfl
          (try dsimp only [cond_false] at z0)
          have lB : gY < w'.heap.size := cell_lt z0
          have H2 := Lib.hid h2; have H5 := Lib.hid h5; have H8 := Lib.hid h8; have H9 := Lib.hid h9; have H10 := Lib.hid h10; have N2_5 := Lib.hid n2_5; have N2_8 := Lib.hid n2_8; have N2_9 := Lib.hid n2_9; have N2_10 := Lib.hid n2_10; have N5_8 := Lib.hid n5_8; have N5_9 := Lib.hid n5_9; have N5_10 := Lib.hid n5_10; have N8_9 := Lib.hid n8_9; have N8_10 := Lib.hid n8_10; have N9_10 := Lib.hid n9_10; have Q12 := Lib.hid q12; have Q13 := Lib.hid q13; have R11 := Lib.hid r11; have R12 := Lib.hid r12; have R13 := Lib.hid r13; have HK := Lib.hid hk
          clear h2 h5 h8 h9 h10 n2_5 n2_8 n2_9 n2_10 n5_8 n5_9 n5_10 n8_9 n8_10 n9_10 q12 q13 r11 r12 r13 hk
          refine wpOp_step rfl (fun K hK => ?_)
          go_simp
          refine hK _ _ ?_
          exact ⟨true, true, true, true, true, true, true, true, true, true, true, true, true, true, gA, gB, gC, gX, gY, rfl, rfl, kp_set HK.out lo _, fun h => (H2.out h).off (N2_10.out rfl rfl) _, fun h => (H5.out h).off (N5_10.out rfl rfl) _, fun h => (H8.out h).off (N8_10.out rfl rfl) _, fun h => (H9.out h).off (N9_10.out rfl rfl) _, fun _ => Hd.set lo z0 f0, N2_5.out, N2_8.out, N2_9.out, N2_10.out, N5_8.out, N5_9.out, N5_10.out, N8_9.out, N8_10.out, N9_10.out, fun _ => rfl, fun _ => rfl, fun _ => rfl, fun _ => rfl, fun _ => rfl⟩
    case rest =>
      obtain ⟨gA, gB, gC, gX, gY, rfl, rfl, rfl, hmade⟩ := hcut
      have DI := Lib.hid (Dis.of hmade)
      have ME := Lib.hid (Mem.of hmade)
      clear hmade hm1 hm2
      go_wp2_with fail
      go_loopw [13, 50] (fun lf ix wr => ∃ k : Nat, k ≤ len ∧ ix = .int .i64 k ∧ lf = .int .i64 ((N : Int) - ((qL N Sn l).take k).sum) ∧ Mem W0 len gA gB gC gX gY (fillL (qL N Sn l) k) (fillL (rL N Sn l) k) (fillL (idxL len) k) wr) (fun _ ix _ => len - (intOf ix).toNat)
      case atStart =>
        refine ⟨0, by omega, rfl, by simp, ?_⟩
        rw [fill_zero, fill_zero, fill_zero, qL_len, rL_len, idxL_len, ← HL.out]
        exact ME.out
      case round =>
        obtain ⟨k, hk, rfl, rfl, hm⟩ := hrel
        have HM := Lib.hid hm
        clear hm ME
        have hQ := qs_bd (n := N) (k := k) HAN.out HS.out hS1
        by_cases hlt : k < len
        · have hkl : k < l.length := by rw [← HL.out]; exact hlt
          have hx := any_get HAN.out hkl
          have hc := (HP.out.kp (kp_trans KW.out HM.out.k)) k hkl
          have hg : l.getD k 0 = l[k] := by rw [List.getD_eq_getElem?_getD, List.getElem?_eq_getElem hkl]; rfl
          have hqg := qL_get N Sn l hkl
          have hrg := rL_get N Sn l hkl
          have hsu := take_sum_succ (qL N Sn l) (k := k) (by rw [qL_len]; exact hkl)
          have hQ2 := qs_bd (n := N) (k := k + 1) HAN.out HS.out hS1
          have hgs := get_le_sum HAN.out hkl
          rw [← hg] at hc
          clear hg
          generalize l.getD k 0 = x at *
          obtain ⟨xn, rfl⟩ : ∃ xn : Nat, x = (xn : Int) := ⟨x.toNat, by omega⟩
          rw [Int.toNat_natCast] at hqg hrg
          have hxn : xn ≤ 1099511627775 := by omega
          have hxs : xn ≤ Sn := by have h := hgs; rw [HS.out] at h; omega
          have cm := fun w => (mul64 N xn (by omega) (by omega) w).mono fun _ _ ⟨h1, h2⟩ => (⟨h1, h2.symm⟩ : _ ∧ w = _)
          obtain ⟨hi, hhi⟩ : ∃ z, N * xn / 18446744073709551616 = z := ⟨_, rfl⟩
          obtain ⟨lo, hlo⟩ : ∃ z, N * xn % 18446744073709551616 = z := ⟨_, rfl⟩
          have hhl : hi * 18446744073709551616 + lo = N * xn := by rw [← hhi, ← hlo, Nat.mul_comm]; exact Nat.div_add_mod _ _
          have hlob : lo < 18446744073709551616 := by rw [← hlo]; exact Nat.mod_lt _ (by decide)
          have hhib : hi < Sn := hi_lt hNle hxs hS1 hhi
          have cd := fun w => div64_any hi lo Sn hhib (by omega) hlob w
          rw [hhl] at cd
          rw [hhi, hlo] at cm
          obtain ⟨q, hq⟩ : ∃ z, N * xn / Sn = z := ⟨_, rfl⟩
          obtain ⟨r, hr⟩ : ∃ z, N * xn % Sn = z := ⟨_, rfl⟩
          rw [hq, hr] at cd
          rw [hq] at hqg; rw [hr] at hrg
          rw [hqg] at hsu
          have hqN : q ≤ N := by rw [← hq]; exact quo_le hxs
          have hrS : r < Sn := by rw [← hr]; exact Nat.mod_lt _ hS1
          have CM := Lib.hid cm; have CD := Lib.hid cd; have HQG := Lib.hid hqg; have HRG := Lib.hid hrg
          rw [hsu] at hQ2
          obtain ⟨Q, hQe⟩ : ∃ Q, ((qL N Sn l).take k).sum = Q := ⟨_, rfl⟩
          rw [hQe] at hsu hQ hQ2
          have HSU := Lib.hid hsu
          have wu1 : IntKind.u64.wrap (N : Int) = (N : Int) := IntWalk.u64_in _ (by omega)
          have wu2 : IntKind.u64.wrap (xn : Int) = (xn : Int) := IntWalk.u64_in _ (by omega)
          have wu3 : IntKind.u64.wrap (Sn : Int) = (Sn : Int) := IntWalk.u64_in _ (by omega)
          have wi1 : IntKind.i64.wrap (q : Int) = (q : Int) := IntWalk.i64_in _ (by omega)
          have wi2 : IntKind.i64.wrap ((N : Int) - Q - (q : Int)) = (N : Int) - Q - (q : Int) := IntWalk.i64_in _ (by omega)
          have wk : IntKind.i64.wrap ((k : Int) + 1) = (k : Int) + 1 := IntWalk.i64_in _ (by omega)
          have z1 : (0 : Int) ≤ (k : Int) := by omega
          have z2 : (k : Int) < (len : Int) := by omega
          have lb : b < wr.heap.size := cell_lt hc
          rw [hQe]
          clear hQe hsu hqg hrg cm cd hhi hlo hhl hlob hhib hq hr hQ2 hgs hx
          go_upto_region 16 with (first
            | (go_at_call 23; refine (CM.out _).mono ?_; rintro e w' ⟨rfl, rfl⟩)
            | (go_at_call 24; refine (CD.out _).mono ?_; rintro e w4 ⟨rfl, hk⟩; have M4 := Lib.hid (HM.out.kp hk); clear hk))
          have la := M4.out.a.cell (i := k) (by rw [fill_len _ (by rw [qL_len, ← HL.out]; omega), qL_len, ← HL.out]; omega)
          have lbb := M4.out.b.cell (i := k) (by rw [fill_len _ (by rw [rL_len, ← HL.out]; omega), rL_len, ← HL.out]; omega)
          have lc := M4.out.c.cell (i := k) (by rw [fill_len _ (by rw [idxL_len]; omega), idxL_len]; omega)
          have fa := M4.out.a.froz k
          have fb := M4.out.b.froz k
          have fc := M4.out.c.froz k
          obtain ⟨_, hX, _⟩ := M4.out.x
          obtain ⟨_, hY, _⟩ := M4.out.y
          have lA := M4.out.a.lt; have lB := M4.out.b.lt; have lC := M4.out.c.lt
          have dab := DI.out.ab; have dac := DI.out.ac; have dbc := DI.out.bc; have dax := DI.out.ax; have day := DI.out.ay; have dbx := DI.out.bx; have dby := DI.out.by'; have dcx := DI.out.cx; have dcy := DI.out.cy
          generalize (fillL (qL N Sn l) k).getD k 0 = v1 at la
          generalize (fillL (rL N Sn l) k).getD k 0 = v2 at lbb
          generalize (fillL (idxL len) k).getD k 0 = v3 at lc
          go_region_with (fail)
          all_goals
            go_wp2_with fail
            have e1 := fill_set (qL N Sn l) (k := k) (by rw [qL_len, ← HL.out]; omega)
            have e2 := fill_set (rL N Sn l) (k := k) (by rw [rL_len, ← HL.out]; omega)
            have e3 := fill_set (idxL len) (k := k) (by rw [idxL_len]; omega)
            rw [HQG.out] at e1; rw [HRG.out] at e2; rw [idxL_get (by omega)] at e3
            have M5 := (((M4.out.kp (kp_drew (kp_refl _))).seta DI.out k (q : Int)).setb DI.out k (r : Int)).setc DI.out k (k : Int)
            rw [e1, e2, e3] at M5
            exact ⟨⟨k + 1, by omega, by go_num, by rw [HSU.out]; congr 1; omega, M5⟩, by simp [intOf]; omega⟩
        · obtain rfl : len = k := by omega
          have e1 : fillL (qL N Sn l) len = qL N Sn l := by have h := fill_all (qL N Sn l); rw [qL_len, ← HL.out] at h; exact h
          have e2 : fillL (rL N Sn l) len = rL N Sn l := by have h := fill_all (rL N Sn l); rw [rL_len, ← HL.out] at h; exact h
          have e3 : fillL (idxL len) len = idxL len := by have h := fill_all (idxL len); rw [idxL_len] at h; exact h
          have e4 : (qL N Sn l).take len = qL N Sn l := List.take_of_length_le (by rw [qL_len, ← HL.out]; exact Nat.le_refl _)
          have M1 := HM.out
          rw [e1, e2, e3] at M1
          rw [e4]
          have HM1 := Lib.hid M1
          obtain ⟨_, hY, fY⟩ := M1.y
          have lY := cell_lt hY
          clear e1 e2 e3 e4 M1 HM hQ
          go_upto_region 20 with (go_at_call 25; refine (HSO.out _ gB gC gX gY HM1.out.b HM1.out.c HM1.out.x.c HM1.out.y.c DI.out.bc DI.out.cx.symm DI.out.cy.symm).mono ?_; rintro e w5 ⟨rfl, n, d, os, hd, hsrt, hw⟩; have M5 := Lib.hid (show Mem W0 len gA gB gC gX gY _ _ d.toList w5 from by rw [hw]; exact HM1.out.sorted DI.out n d (by rw [hd, idxL_len]) os); have HSR := Lib.hid hsrt; have HD := Lib.hid hd; clear hw hsrt hd hY fY lY)
          obtain ⟨lf, hlf⟩ : ∃ lf : Nat, (N : Int) - (qL N Sn l).sum = (lf : Int) := ⟨((N : Int) - (qL N Sn l).sum).toNat, by have := (left_bd (n := N) HAN.out HS.out hS1).1; omega⟩
          have hlfl : lf ≤ len := by have := (left_bd (n := N) HAN.out HS.out hS1).2; have := HL.out; omega
          have HLF := Lib.hid hlf
          rw [hlf]
          clear hlf
          obtain ⟨_, hY, _⟩ := M5.out.y
          have lY := cell_lt hY
          have y1 : (0 : Int) ≤ (lf : Int) := by omega
          have y2 : (lf : Int) ≤ (len : Int) := by omega
          have hqb : Hid (∀ i, 0 ≤ (qL N Sn l).getD i 0 ∧ (qL N Sn l).getD i 0 ≤ (N : Int)) := Lib.hid (qL_bd HAN.out HS.out hS1)
          have hdd : Hid (∀ k, k < len → ∃ i : Nat, i < len ∧ d.toList.getD k 0 = (i : Int)) := Lib.hid (fun k hk => srt_ix HSR.out (by rw [rL_len, ← HL.out]; exact hk) |>.imp fun i h => ⟨by have := h.1; rw [rL_len, ← HL.out] at this; exact this, h.2⟩)
          go_wp2_with fail
          go_loopw [97] (fun jx wr => ∃ k : Nat, k ≤ lf ∧ jx = .int .i64 k ∧ Mem W0 len gA gB gC gX gY (incL (qL N Sn l) (d.toList.take k)) (rL N Sn l) d.toList wr) (fun jx _ => lf - (intOf jx).toNat)
          case atStart => exact ⟨0, by omega, rfl, M5.out⟩
          case round =>
            obtain ⟨k, hk, rfl, hm⟩ := hrel
            have HM2 := Lib.hid hm
            clear hm
            by_cases hlt2 : k < lf
            · obtain ⟨i, hi, hdi⟩ := hdd.out k (by omega)
              have hc := HM2.out.c.cell (i := k) (by rw [Array.length_toList, HD.out]; omega)
              rw [hdi] at hc
              have ha := HM2.out.a.cell (i := i) (by rw [incL_len, qL_len, ← HL.out]; exact hi)
              have fa := HM2.out.a.froz i
              have hb := incL_bd (d.toList.take k) hqb.out i
              have htl : (d.toList.take k).length ≤ 1000 := by have := List.length_take_le k d.toList; omega
              have hts := take_succ_getD d.toList (k := k) (by rw [Array.length_toList, HD.out]; omega)
              rw [hdi] at hts
              have hin := incL_snoc (qL N Sn l) (d.toList.take k) (i : Int)
              rw [← hts, Int.toNat_natCast] at hin
              generalize (incL (qL N Sn l) (d.toList.take k)).getD i 0 = v at *
              have HIN := Lib.hid hin
              have wv : IntKind.i64.wrap (v + 1) = v + 1 := IntWalk.i64_in _ (by omega)
              have wk2 : IntKind.i64.wrap ((k : Int) + 1) = (k : Int) + 1 := IntWalk.i64_in _ (by omega)
              have z1 : (0 : Int) ≤ (k : Int) := by omega
              have z2 : (k : Int) < (lf : Int) := by omega
              have z3 : (0 : Int) ≤ (i : Int) := by omega
              have z4 : (i : Int) < (len : Int) := by omega
              have lA := cell_lt ha; have lC := cell_lt hc
              clear hin hts htl hdi hb
              go_wp2_with fail
              have M6 := HM2.out.seta DI.out i (v + 1)
              rw [← HIN.out] at M6
              exact ⟨⟨k + 1, by omega, by go_num, M6⟩, by simp [intOf]; omega⟩
            · obtain rfl : lf = k := by omega
              obtain ⟨PF, hPF⟩ : ∃ PF, incL (qL N Sn l) (d.toList.take lf) = PF := ⟨_, rfl⟩
              have hPl : PF.length = len := by rw [← hPF, incL_len, qL_len, ← HL.out]
              have hPb : Hid (∀ i, 0 ≤ PF.getD i 0 ∧ PF.getD i 0 ≤ (N : Int) + 1000) := Lib.hid (fun i => by
                have h1 := incL_bd (d.toList.take lf) hqb.out i
                have h2 := List.length_take_le lf d.toList
                rw [hPF] at h1
                have := h1.2
                omega)
              have hsgc : Hid (sg = 1 ∨ sg = -1) := Lib.hid (by rw [← HSG.out]; unfold sgT; split <;> simp)
              rw [hPF] at HM2
              have HPL := Lib.hid hPl; have HPF := Lib.hid hPF
              clear hPl hPF
              go_wp2_with fail
              go_loopw [110] (fun jx wr => ∃ k : Nat, k ≤ len ∧ jx = .int .i64 k ∧ Mem W0 len gA gB gC gX gY (timesL sg PF k) (rL N Sn l) d.toList wr) (fun jx _ => len - (intOf jx).toNat)
              case atStart => exact ⟨0, by omega, rfl, by rw [mul_zero']; exact HM2.out⟩
              case round =>
                obtain ⟨k, hk3, rfl, hm⟩ := hrel
                have HM3 := Lib.hid hm
                clear hm
                by_cases hlt3 : k < len
                · have ha := HM3.out.a.cell (i := k) (by rw [mul_len, HPL.out]; exact hlt3)
                  rw [mul_get _ _ (by rw [HPL.out]; exact hlt3)] at ha
                  have fa := HM3.out.a.froz k
                  have hb := hPb.out k
                  have hset := mul_set sg PF (k := k) (by rw [HPL.out]; exact hlt3)
                  generalize PF.getD k 0 = v at *
                  have HSET := Lib.hid hset
                  have wv : IntKind.i64.wrap (v * sg) = v * sg := IntWalk.i64_in _ (by rcases hsgc.out with h | h <;> rw [h] <;> omega)
                  have wk2 : IntKind.i64.wrap ((k : Int) + 1) = (k : Int) + 1 := IntWalk.i64_in _ (by omega)
                  have z1 : (0 : Int) ≤ (k : Int) := by omega
                  have z2 : (k : Int) < (len : Int) := by omega
                  have lA := cell_lt ha
                  clear hset hb
                  go_wp2_with fail
                  have M6 := HM3.out.seta DI.out k (v * sg)
                  rw [HSET.out] at M6
                  exact ⟨⟨k + 1, by omega, by go_num, M6⟩, by simp [intOf]; omega⟩
                · obtain rfl : len = k := by omega
                  have M7 := HM3.out
                  rw [show timesL sg PF len = PF.map fun x => x * sg by rw [← HPL.out]; exact mul_all _ _] at M7
                  have HPA := Lib.hid (show (PF.map fun x => x * sg) = partsL t l by
                    rw [← HPF.out]; exact parts_eq HSR.out HN.out HS.out HSG.out HLF.out)
                  rw [HPA.out] at M7
                  have HM7 := Lib.hid M7
                  have hpl : (partsL t l).length = len := by rw [← HPA.out, List.length_map, HPL.out]
                  have HPN := Lib.hid hpl
                  clear M7 hpl
                  go_wp2_with fail
                  go_ret2
                  have ow := HM7.out.a.own (B := w.heap.size) (Nat.le_trans (Below.size KW.out) DI.out.la) (by rw [HPN.out]; omega)
                  rw [HPN.out] at ow
                  exact ⟨⟨_, rfl, ow⟩, kp_trans KW.out HM7.out.k⟩
end Go.Proofs.Ytcmijedhjebpkaa
