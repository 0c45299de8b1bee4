import Derived.Test.YtgliljnbajohhaaGreatDoorQ00
import Derived.Deep.DeepCutAuto
import Derived.RegionTactic
import Derived.BigRegion
import Derived.Deep.RegionHeld3
import Derived.Test.YtgliljnbajohhaaGreatDoorQ08
import Derived.Defers
import Derived.Shelf.Abstract
import Derived.Deep.QuietTactic
import Derived.BigQuiet
set_option linter.unusedVariables false
set_option linter.unusedSimpArgs false
namespace Go.Proofs.YtgliljnbajohhaaGreatDoor
open Go.RowKit
section
variable {P:Program} {ops:Array Oper} {Q:Exit→Act→World→Prop} {md:Region.Mode} {S:World→Prop}
theorem take_yes {i d:Nat} {oi:Oper} {v:Value} {fuel:Nat} {listed:Array Bool} {a:Act} {w:World} (hi:ops[i]? = some oi) (hd:oi.dst=some d)
  (hs:Region.noSelect ops=true) (hf:Region.free md ops listed i=true) (hr:(Region.ready md ops listed).contains i=true)
  (hQ:∀ c a w,Q (.panic c) (a.put oi.dst v) w→Q (.panic c) a w) (hw:Region.wanted oi (yielded ops a.tmps)=true) (hv:∀ w,S w→(execOp a.eval oi).run P w=.ok (.value v) w) (hS:S w)
  (h:wpAnyH P md ops Q S fuel (listed.setIfInBounds i true) (a.put (some d) v) w):wpAnyH P md ops Q S (fuel+1) listed a w :=
 wpAnyH_take hi hs hf hr hQ (.inl ⟨hw,hv⟩) hS (by rw [hd];exact h)
theorem take_no {i d:Nat} {oi:Oper} {fuel:Nat} {listed:Array Bool} {a:Act} {w:World} (hi:ops[i]? = some oi) (hd:oi.dst=some d)
  (hs:Region.noSelect ops=true) (hf:Region.free md ops listed i=true) (hr:(Region.ready md ops listed).contains i=true)
  (hQ:∀ c a w,Q (.panic c) (a.put oi.dst undef) w→Q (.panic c) a w) (hw:Region.wanted oi (yielded ops a.tmps)=false) (hS:S w)
  (h:wpAnyH P md ops Q S fuel (listed.setIfInBounds i true) (a.put (some d) undef) w):wpAnyH P md ops Q S (fuel+1) listed a w :=
 wpAnyH_take hi hs hf hr hQ (.inr ⟨hw,rfl⟩) hS (by rw [hd];exact h)
end
end Go.Proofs.YtgliljnbajohhaaGreatDoor
namespace Go.Proofs.YtgliljnbajohhaaGreatDoor
open Go.RowKit Go.Proofs.Top
def RdrB (g:Nat) (v:Value) (at0:Nat) (w:World):Prop:=w.heap[g]? = some (.cells #[v,.int .i64 at0,.int .i64 0,.int .i64 0,.bool true] 264 (0,0))
section
variable {g:Nat} {v:Value} {at0:Nat} {w w':World}
theorem RdrB.lt (h:RdrB g v at0 w):g<w.heap.size:=(Array.getElem?_eq_some_iff.1 h).1
theorem RdrB.c0 (h:RdrB g v at0 w):w.cell? ⟨g,0,none⟩=some v:=by rw [cell_of_row w g 0 _ _ _ h];rfl
theorem RdrB.c1 (h:RdrB g v at0 w):w.cell? ⟨g,1,none⟩=some (.int .i64 at0):=by rw [cell_of_row w g 1 _ _ _ h];rfl
theorem RdrB.c2 (h:RdrB g v at0 w):w.cell? ⟨g,2,none⟩=some (.int .i64 0):=by rw [cell_of_row w g 2 _ _ _ h];rfl
theorem RdrB.c3 (h:RdrB g v at0 w):w.cell? ⟨g,3,none⟩=some (.int .i64 0):=by rw [cell_of_row w g 3 _ _ _ h];rfl
theorem RdrB.c4 (h:RdrB g v at0 w):w.cell? ⟨g,4,none⟩=some (.bool true):=by rw [cell_of_row w g 4 _ _ _ h];rfl
theorem RdrB.froz (h:RdrB g v at0 w) (o:Nat):w.frozen? ⟨g,o,none⟩=false:=frozen_of_row w g o _ _ h
theorem RdrB.kx {S:List Nat} (h:RdrB g v at0 w) (k:KX S w w') (hn:g∉S):RdrB g v at0 w':=k.row h hn
theorem RdrB.kp (h:RdrB g v at0 w) (k:Kp w w'):RdrB g v at0 w':=h.kx (S:=[]) (.of k) (by simp)
theorem RdrB.set (h:RdrB g v at0 w) (n:Nat):RdrB g v n (w.setCell ⟨g,1,none⟩ (.int .i64 n)):=by unfold RdrB;rw [heap_setCell_same w g _ _ _ _ h];rfl
theorem RdrB.off (h:RdrB g v at0 w) {a:Addr} (hne:g≠a.block) (u:Value):RdrB g v at0 (w.setCell a u):=(Below.heap_setCell w a u g hne).trans h
end
theorem alloc_c0 (w:World) {a b:Value} {t:TypeId}:(w.alloc (.cells #[a,b] t)).cell? ⟨w.heap.size,0,none⟩=some a:=by simp [go_sem]
theorem alloc_c1 (w:World) {a b:Value} {t:TypeId}:(w.alloc (.cells #[a,b] t)).cell? ⟨w.heap.size,1,none⟩=some b:=by simp [go_sem]
theorem alloc_f0 (w:World) {a b:Value} {t:TypeId}:(w.alloc (.cells #[a,b] t)).frozen? ⟨w.heap.size,0,none⟩=false:=by simp [go_sem]
theorem alloc_f1 (w:World) {a b:Value} {t:TypeId}:(w.alloc (.cells #[a,b] t)).frozen? ⟨w.heap.size,1,none⟩=false:=by simp [go_sem]
theorem two_set {w:World} {f:Nat} {a b:Value} (h0:w.cell? ⟨f,0,none⟩=some a) (h1:w.cell? ⟨f,1,none⟩=some b) (x y:Value) :
  ((w.setCell ⟨f,0,none⟩ x).setCell ⟨f,1,none⟩ y).cell? ⟨f,0,none⟩=some x∧((w.setCell ⟨f,0,none⟩ x).setCell ⟨f,1,none⟩ y).cell? ⟨f,1,none⟩=some y:=by
 constructor
 ·rw [World.cell?_setCell_other _ _ _ _ (by simp)];exact World.cell?_setCell_same _ _ _ h0
 ·exact World.cell?_setCell_same _ _ _ (by rw [World.cell?_setCell_other _ _ _ _ (by simp)];exact h1)
set_option maxHeartbeats 4000000 in
theorem rnone_any (g:Nat) (v:Value) (at0:Nat) (w:World) (h:RdrB g v at0 w):Calls Tryz.prog 208 #[.pointer (some ⟨g,0,none⟩)] w fun e w'=>e=.returned (.bool false)∧Kp w w':=by
 have c4:=h.c4
 have lb:=h.lt
 have K:Kp w w:=kp_refl _
 clear h
 go_enter Tryz.func208,Tryz.ntmps208
 go_wp2_with fail
 go_ret
 exact ⟨rfl,K⟩
set_option maxHeartbeats 8000000 in
set_option maxRecDepth 100000 in
theorem num1_any (rb hb ab lb g:Nat) (v:Value) (bs pre post:List Int) (n:Nat) (hn:n<1048576) (low high:Int) (h1:low≤(n:Int)) (h2:(n:Int)≤high) (w:World) (hR:RdU w v bs) (hbs:bs=pre++(enc n++post)) (hl:bs.length≤100000) (hg:RdrB g v pre.length w)
  (k1:w.cell? ⟨rb,0,none⟩=some (.pointer (some ⟨g,0,none⟩))) (k2:w.cell? ⟨hb,0,none⟩=some (.int .i64 high)) (k4:w.cell? ⟨lb,0,none⟩=some (.int .i64 low)) :
  Calls Tryz.prog 378 #[.pointer (some ⟨rb,0,none⟩),.pointer (some ⟨hb,0,none⟩),.pointer (some ⟨ab,0,none⟩),.pointer (some ⟨lb,0,none⟩)] w fun e w' =>
   e=.returned (.tuple #[.int .i64 n,.int .i64 ((pre++enc n).length:Nat),.agg #[.int .i64 0,.int .i64 0]])∧Kp w w':=by
 have cg:=fun w (h:RdU w v bs)=>get_any v bs pre post n hn w h hbs hl
 have CG:=Lib.hid cg
 have HR:=Lib.hid hR
 have c0:=hg.c0
 have c1:=hg.c1
 have lg:=hg.lt
 have lr:rb<w.heap.size:=cell_lt k1
 have lh:hb<w.heap.size:=cell_lt k2
 have ll:lb<w.heap.size:=cell_lt k4
 have nh:¬ high<(n:Int):=by omega
 have nl:¬ (n:Int)<low:=by omega
 have K:Kp w w:=kp_refl _
 clear cg hR hbs hl hg h1 h2
 generalize (pre++enc n).length=nx at *
 generalize pre.length=at0 at *
 go_enter Tryz.func378,Tryz.ntmps378
 go_upto_region 1 with fail
 obtain ⟨w1,hw1⟩:∃ W,w.alloc (.cells #[.int .i64 0,.int .i64 0] 88)=W:=⟨_,rfl⟩
 have K1:Kp w w1:=by rw [← hw1];exact kp_alloc K _
 have hs1:w.heap.size<w1.heap.size:=by rw [← hw1];simp [go_sem]
 have j1:=kp_cell K1 k1
 have j0:=kp_cell K1 c0
 have j2:=kp_cell K1 c1
 have lr1:=cell_lt j1
 have lg1:=cell_lt j0
 have r0':w1.cell? ⟨w.heap.size,0,none⟩=some (.int .i64 0):=by rw [← hw1];exact alloc_c0 _
 have r1':w1.cell? ⟨w.heap.size,1,none⟩=some (.int .i64 0):=by rw [← hw1];exact alloc_c1 _
 have rf0':w1.frozen? ⟨w.heap.size,0,none⟩=false:=by rw [← hw1];exact alloc_f0 _
 have rf1':w1.frozen? ⟨w.heap.size,1,none⟩=false:=by rw [← hw1];exact alloc_f1 _
 rw [hw1]
 clear hw1
 go_cut [7,8,9] (fun x y z wx=>x=.int .i64 n∧y=.int .i64 nx∧∃ f,z=.pointer (some ⟨f,0,none⟩)∧wx.cell? ⟨f,0,none⟩=some (.int .i64 0)∧wx.cell? ⟨f,1,none⟩=some (.int .i64 0)∧Kp w1 wx∧w.heap.size<f)
 case first =>
  have K:Kp w1 w1.drew:=kp_drew (kp_refl _)
  refine wp_region_noPanic ?_
  refine wp_region_held_drew (S:=fun w'=>Kp w1 w') (by kernel_rfl) ?_ (fun hHeld=>?_)
  ·exact K
  refine take_yes (i:=0) (d:=11) (v:=?_) rfl rfl (by kernel_rfl) (by kernel_rfl) (by kernel_rfl) (fun _ _ _ h=>h) (by rfl) ?_ hHeld ?_
  rotate_left
  ·intro wq hSw;(try dsimp only at hSw);have q0:=kp_cell hSw j1;have q1:=kp_cell hSw j0;have q2:=kp_cell hSw j2;go_simp;(try with_reducible rfl)
  (try simp only [Act.put,List.setIfInBounds_toArray,List.set_cons_zero,List.set_cons_succ])
  refine take_yes (i:=1) (d:=12) (v:=?_) rfl rfl (by kernel_rfl) (by kernel_rfl) (by kernel_rfl) (fun _ _ _ h=>h) (by rfl) ?_ hHeld ?_
  rotate_left
  ·intro wq hSw;(try dsimp only at hSw);go_simp;(try with_reducible rfl)
  (try simp only [Act.put,List.setIfInBounds_toArray,List.set_cons_zero,List.set_cons_succ])
  refine take_yes (i:=2) (d:=13) (v:=?_) rfl rfl (by kernel_rfl) (by kernel_rfl) (by kernel_rfl) (fun _ _ _ h=>h) (by rfl) ?_ hHeld ?_
  rotate_left
  ·intro wq hSw;(try dsimp only at hSw);go_simp;(try with_reducible rfl)
  (try simp only [Act.put,List.setIfInBounds_toArray,List.set_cons_zero,List.set_cons_succ])
  refine take_yes (i:=3) (d:=14) (v:=?_) rfl rfl (by kernel_rfl) (by kernel_rfl) (by kernel_rfl) (fun _ _ _ h=>h) (by rfl) ?_ hHeld ?_
  rotate_left
  ·intro wq hSw;(try dsimp only at hSw);have q0:=kp_cell hSw j1;have q1:=kp_cell hSw j0;have q2:=kp_cell hSw j2;go_simp;(try with_reducible rfl)
  (try simp only [Act.put,List.setIfInBounds_toArray,List.set_cons_zero,List.set_cons_succ])
  refine take_yes (i:=4) (d:=15) (v:=?_) rfl rfl (by kernel_rfl) (by kernel_rfl) (by kernel_rfl) (fun _ _ _ h=>h) (by rfl) ?_ hHeld ?_
  rotate_left
  ·intro wq hSw;(try dsimp only at hSw);have q0:=kp_cell hSw j1;have q1:=kp_cell hSw j0;have q2:=kp_cell hSw j2;go_simp;(try with_reducible rfl)
  (try simp only [Act.put,List.setIfInBounds_toArray,List.set_cons_zero,List.set_cons_succ])
  refine take_yes (i:=5) (d:=16) (v:=?_) rfl rfl (by kernel_rfl) (by kernel_rfl) (by kernel_rfl) (fun _ _ _ h=>h) (by rfl) ?_ hHeld ?_
  rotate_left
  ·intro wq hSw;(try dsimp only at hSw);go_simp;(try with_reducible rfl)
  (try simp only [Act.put,List.setIfInBounds_toArray,List.set_cons_zero,List.set_cons_succ])
  refine take_yes (i:=6) (d:=17) (v:=?_) rfl rfl (by kernel_rfl) (by kernel_rfl) (by kernel_rfl) (fun _ _ _ h=>h) (by rfl) ?_ hHeld ?_
  rotate_left
  ·intro wq hSw;(try dsimp only at hSw);go_simp;(try with_reducible rfl)
  (try simp only [Act.put,List.setIfInBounds_toArray,List.set_cons_zero,List.set_cons_succ])
  refine take_yes (i:=7) (d:=18) (v:=?_) rfl rfl (by kernel_rfl) (by kernel_rfl) (by kernel_rfl) (fun _ _ _ h=>h) (by rfl) ?_ hHeld ?_
  rotate_left
  ·intro wq hSw;(try dsimp only at hSw);have q0:=kp_cell hSw j1;have q1:=kp_cell hSw j0;have q2:=kp_cell hSw j2;go_simp;(try with_reducible rfl)
  (try simp only [Act.put,List.setIfInBounds_toArray,List.set_cons_zero,List.set_cons_succ])
  refine wpAnyH_ready (rs:=[8,13]) (by kernel_rfl) (by simp) ?_
  refine (AllReadyH.cons rfl (fun K' hK=>?_) (AllReadyH.cons rfl (fun K' hK=>?_) AllReadyH.nil))
  ·go_simp
   go_at_call 379
   refine (CG.out _ (HR.out.kp (kp_trans K1 K))).mono ?_
   rintro e w4 ⟨rfl,hk4⟩
   replace K:Kp w1 w4:=kp_trans K hk4
   clear hk4
   refine hK.out _ _ ?_ (fun hHeld=>?_)
   ·exact K
   clear hK K'
   (try simp only [Act.put,List.setIfInBounds_toArray,List.set_cons_zero,List.set_cons_succ])
   refine take_yes (i:=9) (d:=10) (v:=?_) rfl rfl (by kernel_rfl) (by kernel_rfl) (by kernel_rfl) (fun _ _ _ h=>h) (by rfl) ?_ hHeld ?_
   rotate_left
   ·intro wq hSw;(try dsimp only at hSw);go_simp;(try with_reducible rfl)
   (try simp only [Act.put,List.setIfInBounds_toArray,List.set_cons_zero,List.set_cons_succ])
   refine take_yes (i:=10) (d:=20) (v:=?_) rfl rfl (by kernel_rfl) (by kernel_rfl) (by kernel_rfl) (fun _ _ _ h=>h) (by rfl) ?_ hHeld ?_
   rotate_left
   ·intro wq hSw;(try dsimp only at hSw);go_simp;(try with_reducible rfl)
   (try simp only [Act.put,List.setIfInBounds_toArray,List.set_cons_zero,List.set_cons_succ])
   refine take_yes (i:=11) (d:=21) (v:=?_) rfl rfl (by kernel_rfl) (by kernel_rfl) (by kernel_rfl) (fun _ _ _ h=>h) (by rfl) ?_ hHeld ?_
   rotate_left
   ·intro wq hSw;(try dsimp only at hSw);go_simp;(try with_reducible rfl)
   (try simp only [Act.put,List.setIfInBounds_toArray,List.set_cons_zero,List.set_cons_succ])
   refine take_yes (i:=12) (d:=22) (v:=?_) rfl rfl (by kernel_rfl) (by kernel_rfl) (by kernel_rfl) (fun _ _ _ h=>h) (by rfl) ?_ hHeld ?_
   rotate_left
   ·intro wq hSw;(try dsimp only at hSw);go_simp;(try with_reducible rfl)
   (try simp only [Act.put,List.setIfInBounds_toArray,List.set_cons_zero,List.set_cons_succ])
   refine wpAnyH_ready (rs:=[13]) (by kernel_rfl) (by simp) ?_
   refine (AllReadyH.cons rfl (fun K' hK=>?_) AllReadyH.nil)
   go_simp
   refine hK.out _ _ ?_ (fun hHeld=>?_)
   ·exact kp_alloc K _
   obtain ⟨w5,hw5⟩:∃ W,w4.alloc (.cells #[.int .i64 0,.int .i64 0] 88)=W:=⟨_,rfl⟩
   obtain ⟨f,hf⟩:∃ f,w4.heap.size=f:=⟨_,rfl⟩
   have z0:w5.cell? ⟨f,0,none⟩=some (.int .i64 0):=by rw [← hw5,← hf];exact alloc_c0 _
   have z1:w5.cell? ⟨f,1,none⟩=some (.int .i64 0):=by rw [← hw5,← hf];exact alloc_c1 _
   have y0:w5.frozen? ⟨f,0,none⟩=false:=by rw [← hw5,← hf];exact alloc_f0 _
   have y1:w5.frozen? ⟨f,1,none⟩=false:=by rw [← hw5,← hf];exact alloc_f1 _
   have z0':=z0
   have z1':=z1
   have lf:=cell_lt z0
   have hfl:w1.heap.size≤f:=by rw [← hf];exact Below.size K
   replace K:Kp w1 w5:=by rw [← hw5];exact kp_alloc K _
   rw [hf,hw5]
   clear hHeld
   have hHeld:=K
   clear hw5 hf
   clear hK K'
   (try simp only [Act.put,List.setIfInBounds_toArray,List.set_cons_zero,List.set_cons_succ])
   refine take_yes (i:=14) (d:=7) (v:=?_) rfl rfl (by kernel_rfl) (by kernel_rfl) (by kernel_rfl) (fun _ _ _ h=>h) (by rfl) ?_ hHeld ?_
   rotate_left
   ·intro wq hSw;(try dsimp only at hSw);go_simp;(try with_reducible rfl)
   (try simp only [Act.put,List.setIfInBounds_toArray,List.set_cons_zero,List.set_cons_succ])
   refine take_yes (i:=15) (d:=8) (v:=?_) rfl rfl (by kernel_rfl) (by kernel_rfl) (by kernel_rfl) (fun _ _ _ h=>h) (by rfl) ?_ hHeld ?_
   rotate_left
   ·intro wq hSw;(try dsimp only at hSw);go_simp;(try with_reducible rfl)
   (try simp only [Act.put,List.setIfInBounds_toArray,List.set_cons_zero,List.set_cons_succ])
   refine wpAnyH_ready (rs:=[16]) (by kernel_rfl) (by simp) ?_
   refine (AllReadyH.cons rfl (fun K' hK=>?_) AllReadyH.nil)
   go_simp
   refine hK.out _ _ ?_ (fun hHeld=>?_)
   ·exact kp_set (kp_set K hfl _) hfl _
   clear hK K'
   (try simp only [Act.put,List.setIfInBounds_toArray,List.set_cons_zero,List.set_cons_succ])
   refine wpAnyH_done (by kernel_rfl) ?_ _
   refine NoPanic.normal ?_
   go_wp2_with fail
   go_meet
   refine ⟨rfl,rfl,f,rfl,?_,?_,kp_set (kp_set K hfl _) hfl _,by omega⟩
   ·exact (two_set z0 z1 _ _).1
   ·exact (two_set z0 z1 _ _).2
  ·go_simp
   refine hK.out _ _ ?_ (fun hHeld=>?_)
   ·exact kp_drew (kp_alloc (kp_refl _) _)
   obtain ⟨w5,hw5⟩:∃ W,(w1.alloc (.cells #[.int .i64 0,.int .i64 0] 88)).drew=W:=⟨_,rfl⟩
   obtain ⟨f,hf⟩:∃ f,w1.heap.size=f:=⟨_,rfl⟩
   have z0:w5.cell? ⟨f,0,none⟩=some (.int .i64 0):=by rw [← hw5,← hf];exact alloc_c0 _
   have z1:w5.cell? ⟨f,1,none⟩=some (.int .i64 0):=by rw [← hw5,← hf];exact alloc_c1 _
   have y0:w5.frozen? ⟨f,0,none⟩=false:=by rw [← hw5,← hf];exact alloc_f0 _
   have y1:w5.frozen? ⟨f,1,none⟩=false:=by rw [← hw5,← hf];exact alloc_f1 _
   have z0':=z0
   have z1':=z1
   have lf:=cell_lt z0
   have hfl:w1.heap.size≤f:=by rw [← hf];exact Nat.le_refl _
   replace K:Kp w1 w5:=by rw [← hw5];exact kp_drew (kp_alloc (kp_refl _) _)
   rw [hf,hw5]
   clear hHeld
   have hHeld:=K
   clear hw5 hf
   clear hK K'
   (try simp only [Act.put,List.setIfInBounds_toArray,List.set_cons_zero,List.set_cons_succ])
   refine wpAnyH_ready (rs:=[8]) (by kernel_rfl) (by simp) ?_
   refine (AllReadyH.cons rfl (fun K' hK=>?_) AllReadyH.nil)
   go_simp
   go_at_call 379
   refine (CG.out _ (HR.out.kp (kp_trans K1 K))).mono ?_
   rintro e w4 ⟨rfl,hk4⟩
   replace z0:=kp_cell hk4 z0
   replace z1:=kp_cell hk4 z1
   replace y0:=kp_froz hk4 z0' y0
   replace y1:=kp_froz hk4 z1' y1
   replace lf:=cell_lt z0
   replace K:Kp w1 w4:=kp_trans K hk4
   clear hk4
   refine hK.out _ _ ?_ (fun hHeld=>?_)
   ·exact K
   clear hK K'
   (try simp only [Act.put,List.setIfInBounds_toArray,List.set_cons_zero,List.set_cons_succ])
   refine take_yes (i:=9) (d:=10) (v:=?_) rfl rfl (by kernel_rfl) (by kernel_rfl) (by kernel_rfl) (fun _ _ _ h=>h) (by rfl) ?_ hHeld ?_
   rotate_left
   ·intro wq hSw;(try dsimp only at hSw);go_simp;(try with_reducible rfl)
   (try simp only [Act.put,List.setIfInBounds_toArray,List.set_cons_zero,List.set_cons_succ])
   refine take_yes (i:=10) (d:=20) (v:=?_) rfl rfl (by kernel_rfl) (by kernel_rfl) (by kernel_rfl) (fun _ _ _ h=>h) (by rfl) ?_ hHeld ?_
   rotate_left
   ·intro wq hSw;(try dsimp only at hSw);go_simp;(try with_reducible rfl)
   (try simp only [Act.put,List.setIfInBounds_toArray,List.set_cons_zero,List.set_cons_succ])
   refine take_yes (i:=11) (d:=21) (v:=?_) rfl rfl (by kernel_rfl) (by kernel_rfl) (by kernel_rfl) (fun _ _ _ h=>h) (by rfl) ?_ hHeld ?_
   rotate_left
   ·intro wq hSw;(try dsimp only at hSw);go_simp;(try with_reducible rfl)
   (try simp only [Act.put,List.setIfInBounds_toArray,List.set_cons_zero,List.set_cons_succ])
   refine take_yes (i:=12) (d:=22) (v:=?_) rfl rfl (by kernel_rfl) (by kernel_rfl) (by kernel_rfl) (fun _ _ _ h=>h) (by rfl) ?_ hHeld ?_
   rotate_left
   ·intro wq hSw;(try dsimp only at hSw);go_simp;(try with_reducible rfl)
   (try simp only [Act.put,List.setIfInBounds_toArray,List.set_cons_zero,List.set_cons_succ])
   refine take_yes (i:=14) (d:=7) (v:=?_) rfl rfl (by kernel_rfl) (by kernel_rfl) (by kernel_rfl) (fun _ _ _ h=>h) (by rfl) ?_ hHeld ?_
   rotate_left
   ·intro wq hSw;(try dsimp only at hSw);go_simp;(try with_reducible rfl)
   (try simp only [Act.put,List.setIfInBounds_toArray,List.set_cons_zero,List.set_cons_succ])
   refine take_yes (i:=15) (d:=8) (v:=?_) rfl rfl (by kernel_rfl) (by kernel_rfl) (by kernel_rfl) (fun _ _ _ h=>h) (by rfl) ?_ hHeld ?_
   rotate_left
   ·intro wq hSw;(try dsimp only at hSw);go_simp;(try with_reducible rfl)
   (try simp only [Act.put,List.setIfInBounds_toArray,List.set_cons_zero,List.set_cons_succ])
   refine wpAnyH_ready (rs:=[16]) (by kernel_rfl) (by simp) ?_
   refine (AllReadyH.cons rfl (fun K' hK=>?_) AllReadyH.nil)
   go_simp
   refine hK.out _ _ ?_ (fun hHeld=>?_)
   ·exact kp_set (kp_set K hfl _) hfl _
   clear hK K'
   (try simp only [Act.put,List.setIfInBounds_toArray,List.set_cons_zero,List.set_cons_succ])
   refine wpAnyH_done (by kernel_rfl) ?_ _
   refine NoPanic.normal ?_
   go_wp2_with fail
   go_meet
   refine ⟨rfl,rfl,f,rfl,?_,?_,kp_set (kp_set K hfl _) hfl _,by omega⟩
   ·exact (two_set z0 z1 _ _).1
   ·exact (two_set z0 z1 _ _).2
 case rest =>
  clear K lr1 lg1
  obtain ⟨rfl,rfl,f,rfl,z0,z1,K,hlf⟩:=hcut
  have r0:=kp_cell K r0'
  have r1:=kp_cell K r1'
  have rf0:=kp_froz K r0' rf0'
  have rf1:=kp_froz K r1' rf1'
  have lr:=cell_lt r0
  have lf:=cell_lt z0
  have m2:=kp_cell (kp_trans K1 K) k2
  have m4:=kp_cell (kp_trans K1 K) k4
  have lh2:=cell_lt m2
  have ll2:=cell_lt m4
  have hne:f≠w.heap.size:=by omega
  have hKK:=kp_trans K1 K
  clear j0 j1 j2 r0' r1' rf0' rf1' k1 k2 k4 c0 c1
  go_upto_region 7 with fail
  go_region
  go_wp2_with fail
  refine bodyPost_ret (v:=.tuple #[.int .i64 n,.int .i64 nx,.agg #[.int .i64 0,.int .i64 0]]) (by (simp [results,Tryz.results378,go_sem, *])) rfl ⟨rfl,?_⟩
  ((repeat (first | exact hKK | apply kp_drew | apply kp_drewN | refine kp_set ?_ ?_ _));all_goals (first | exact Nat.le_refl _ | (simp;done) | omega))
set_option maxHeartbeats 4000000 in
theorem rd1_def (fb rb xb nb g:Nat) (v:Value) (at0 nx:Nat) (u:FrameMode) (w:World) (f0:w.cell? ⟨fb,0,none⟩=some (.int .i64 0)) (r0:w.cell? ⟨rb,0,none⟩=some (.pointer (some ⟨g,0,none⟩))) (n0:w.cell? ⟨nb,0,none⟩=some (.int .i64 nx)) (h:RdrB g v at0 w) :
  CallsD Tryz.prog 418 #[.pointer (some ⟨fb,0,none⟩),.pointer (some ⟨rb,0,none⟩),.pointer (some ⟨xb,0,none⟩),.pointer (some ⟨nb,0,none⟩)] u w fun e u' w'=>u'=u∧(e=.returned (.tuple #[])∧w'=w.setCell ⟨g,1,none⟩ (.int .i64 nx)):=by
 have c1:=h.c1
 have z1:=h.froz 1
 have lg:=h.lt
 have lf:=cell_lt f0
 have lr:=cell_lt r0
 have ln:=cell_lt n0
 clear h
 go_enter_d Tryz.func418,Tryz.ntmps418
 go_wp2
 go_end0
 first | exact ⟨rfl,rfl⟩ | trace_state
set_option maxHeartbeats 8000000 in
set_option maxRecDepth 100000 in
theorem read_num (rb hb ab lb g:Nat) (v:Value) (bs pre post:List Int) (n:Nat) (hn:n<1048576) (low high:Int) (h1:low≤(n:Int)) (h2:(n:Int)≤high) (w:World) (hR:RdU w v bs) (hbs:bs=pre++(enc n++post)) (hl:bs.length≤100000) (hg:RdrB g v pre.length w)
  (k1:w.cell? ⟨rb,0,none⟩=some (.pointer (some ⟨g,0,none⟩))) (k2:w.cell? ⟨hb,0,none⟩=some (.int .i64 high)) (k4:w.cell? ⟨lb,0,none⟩=some (.int .i64 low)) :
  Calls Tryz.prog 377 #[.pointer (some ⟨g,0,none⟩),.func (.func 378) #[] #[.pointer (some ⟨rb,0,none⟩),.pointer (some ⟨hb,0,none⟩),.pointer (some ⟨ab,0,none⟩),.pointer (some ⟨lb,0,none⟩)]] w fun e w' =>
   e=.returned (.int .i64 n)∧RdrB g v (pre++enc n).length w'∧KX [g] w w':=by
 have hmf:∀ (fn:Fn) (first cap:Array Value) (w:World),(Instr.makeFunc fn first cap).run Tryz.prog w=.ok (.func fn first cap) w:=fun _ _ _ _=>rfl
 have CN:=Lib.hid (fun w (K:Kp w w)=>K)
 have hc2:=hg.c2
 have lg:=hg.lt
 have K:Kp w w:=kp_refl _
 have HG:=Lib.hid hg
 have C1:=Lib.hid (fun w' (k:Kp w w')=>num1_any rb hb ab lb g v bs pre post n hn low high h1 h2 w' (hR.kp k) hbs hl (hg.kp k) (kp_cell k k1) (kp_cell k k2) (kp_cell k k4))
 clear hR hbs hl hg k1 k2 k4 h1 h2
 generalize (pre++enc n).length=nx at *
 generalize pre.length=at0 at *
 go_enter_defers Tryz.func377,Tryz.ntmps377
 go_upto_region 1 with fail
 obtain ⟨w0,hw0⟩:∃ W,(w.alloc (.cells #[.pointer (some ⟨g,0,none⟩)] 147)).alloc (.cells #[.int .i64 0] 3)=W:=⟨_,rfl⟩
 obtain ⟨pb,hpb⟩:∃ p,w.heap.size=p:=⟨_,rfl⟩
 obtain ⟨xb,hxb⟩:∃ x,w.heap.size+1=x:=⟨_,rfl⟩
 have p0:w0.cell? ⟨pb,0,none⟩=some (.pointer (some ⟨g,0,none⟩)):=by rw [← hw0,← hpb];simp [go_sem]
 have x0:w0.cell? ⟨xb,0,none⟩=some (.int .i64 0):=by rw [← hw0,← hxb];simp [go_sem]
 have xf:w0.frozen? ⟨xb,0,none⟩=false:=by rw [← hw0,← hxb];simp [go_sem]
 have K0:Kp w w0:=by rw [← hw0];exact kp_alloc (kp_alloc (kp_refl _) _) _
 have hlp:w.heap.size≤pb:=by omega
 have hlx:w.heap.size≤xb:=by omega
 have hxp:xb≠pb:=by omega
 have lp:=cell_lt p0
 have lx:=cell_lt x0
 have c20:=kp_cell K0 hc2
 have lg0:=cell_lt c20
 rw [hw0,hpb,show pb+1=xb by omega]
 clear hw0 hpb hxb K hc2 lg
 go_upto_region 3 with (go_at_call 208;refine (rnone_any g v at0 _ (HG.out.kp K0)).mono ?_;rintro e w1 ⟨rfl,hk1⟩;have p1:=kp_cell hk1 p0;have x1:=kp_cell hk1 x0;have xf1:=kp_froz hk1 x0 xf;have c21:=kp_cell hk1 c20;have lp1:=cell_lt p1;have lx1:=cell_lt x1;have lg1:=cell_lt c21;have K1:=kp_trans K0 hk1;have HK1:=Lib.hid hk1;clear hk1 p0 x0 xf c20)
 go_upto_region 5 with fail
 obtain ⟨w2,hw2⟩:∃ W,(w1.alloc (.cells #[.int .i64 0] 3)).alloc (.cells #[.int .i64 0,.int .i64 0] 88)=W:=⟨_,rfl⟩
 obtain ⟨nb,hnb⟩:∃ p,w1.heap.size=p:=⟨_,rfl⟩
 obtain ⟨fb,hfb⟩:∃ x,w1.heap.size+1=x:=⟨_,rfl⟩
 have n0:w2.cell? ⟨nb,0,none⟩=some (.int .i64 0):=by rw [← hw2,← hnb];simp [go_sem]
 have nf:w2.frozen? ⟨nb,0,none⟩=false:=by rw [← hw2,← hnb];simp [go_sem]
 have f0:w2.cell? ⟨fb,0,none⟩=some (.int .i64 0):=by rw [← hw2,← hfb];simp [go_sem]
 have f1:w2.cell? ⟨fb,1,none⟩=some (.int .i64 0):=by rw [← hw2,← hfb];simp [go_sem]
 have ff0:w2.frozen? ⟨fb,0,none⟩=false:=by rw [← hw2,← hfb];simp [go_sem]
 have ff1:w2.frozen? ⟨fb,1,none⟩=false:=by rw [← hw2,← hfb];simp [go_sem]
 have K2:Kp w1 w2:=by rw [← hw2];exact kp_alloc (kp_alloc (kp_refl _) _) _
 have hlw:w.heap.size≤w1.heap.size:=Below.size K1
 have d1:nb≠pb:=by omega
 have d2:nb≠xb:=by omega
 have d3:fb≠pb:=by omega
 have d4:fb≠xb:=by omega
 have d5:fb≠nb:=by omega
 have d6:g≠pb:=by have:=HG.out.lt;omega
 have d7:g≠xb:=by have:=HG.out.lt;omega
 have d8:g≠nb:=by have:=HG.out.lt;omega
 have d9:g≠fb:=by have:=HG.out.lt;omega
 have hln:w.heap.size≤nb:=by omega
 have hlf:w.heap.size≤fb:=by omega
 rw [hw2,hnb,show nb+1=fb by omega]
 clear hw2 hnb hfb hlw
 go_wp2_with fail
 go_at_call 378
 refine (C1.out _ (kp_trans K1 K2)).mono ?_
 rintro e w3 ⟨rfl,hk3⟩
 have n3:=kp_cell hk3 n0
 have nf3:=kp_froz hk3 n0 nf
 have f03:=kp_cell hk3 f0
 have f13:=kp_cell hk3 f1
 have ff03:=kp_froz hk3 f0 ff0
 have ff13:=kp_froz hk3 f1 ff1
 have p3:=kp_cell hk3 (kp_cell K2 p1)
 have x3:=kp_cell hk3 (kp_cell K2 x1)
 have xf3:=kp_froz hk3 (kp_cell K2 x1) (kp_froz K2 x1 xf1)
 have K3:=kp_trans (kp_trans K1 K2) hk3
 have l1:=cell_lt n3
 have l2:=cell_lt f03
 have l3:=cell_lt p3
 have l4:=cell_lt x3
 clear hk3 n0 nf f0 f1 ff0 ff1 p1 x1 xf1 c21 lp1 lx1 lg1
 go_wp2_with fail
 obtain ⟨w5,hw5⟩:∃ W,(((((w3.setCell ⟨xb,0,none⟩ (.int .i64 n)).setCell ⟨nb,0,none⟩ (.int .i64 nx)).setCell ⟨fb,0,none⟩ (.int .i64 0)).setCell ⟨fb,1,none⟩ (.int .i64 0)).setCell ⟨xb,0,none⟩ (.int .i64 n))=W:=⟨_,rfl⟩
 have F5:w5.cell? ⟨fb,0,none⟩=some (.int .i64 0):=by rw [← hw5,World.cell?_setCell_far _ _ _ _ (Ne.symm d4),(two_set (by rw [World.cell?_setCell_far _ _ _ _ (Ne.symm d5),World.cell?_setCell_far _ _ _ _ (Ne.symm d4)];exact f03) (by rw [World.cell?_setCell_far _ _ _ _ (Ne.symm d5),World.cell?_setCell_far _ _ _ _ (Ne.symm d4)];exact f13) _ _).1]
 have P5:w5.cell? ⟨pb,0,none⟩=some (.pointer (some ⟨g,0,none⟩)):=by rw [← hw5,World.cell?_setCell_far _ _ _ _ hxp,World.cell?_setCell_far _ _ _ _ d3,World.cell?_setCell_far _ _ _ _ d3,World.cell?_setCell_far _ _ _ _ d1,World.cell?_setCell_far _ _ _ _ hxp];exact p3
 have N5:w5.cell? ⟨nb,0,none⟩=some (.int .i64 nx):=by rw [← hw5,World.cell?_setCell_far _ _ _ _ (Ne.symm d2),World.cell?_setCell_far _ _ _ _ d5,World.cell?_setCell_far _ _ _ _ d5];exact World.cell?_setCell_same _ _ _ (by rw [World.cell?_setCell_far _ _ _ _ (Ne.symm d2)];exact n3)
 have X5:w5.cell? ⟨xb,0,none⟩=some (.int .i64 n):=by rw [← hw5];exact World.cell?_setCell_same _ _ _ (by rw [World.cell?_setCell_far _ _ _ _ d4,World.cell?_setCell_far _ _ _ _ d4,World.cell?_setCell_far _ _ _ _ d2];exact World.cell?_setCell_same _ _ _ x3)
 have G5:RdrB g v at0 w5:=by rw [← hw5];exact (((((HG.out.kp K3).off d7 _).off d8 _).off d9 _).off d9 _).off d7 _
 have K5:Kp w w5:=by rw [← hw5];exact kp_set (kp_set (kp_set (kp_set (kp_set K3 hlx _) hln _) hlf _) hlf _) hlx _
 rw [hw5]
 clear hw5
 refine leaves_cons (f:=418) (args:=#[.pointer (some ⟨fb,0,none⟩),.pointer (some ⟨pb,0,none⟩),.pointer (some ⟨xb,0,none⟩),.pointer (some ⟨nb,0,none⟩)]) (by simp) (by simp [go_sem]) ?_
 refine (rd1_def fb pb xb nb g v at0 nx _ w5 F5 P5 N5 G5).mono ?_
 rintro e u' w'' ⟨rfl,rfl,rfl⟩
 have X6:(w5.setCell ⟨g,1,none⟩ (.int .i64 nx)).cell? ⟨xb,0,none⟩=some (.int .i64 n):=by rw [World.cell?_setCell_far _ _ _ _ d7];exact X5
 have END:RdrB g v nx (w5.setCell ⟨g,1,none⟩ (.int .i64 nx))∧KX [g] w (w5.setCell ⟨g,1,none⟩ (.int .i64 nx)):=⟨G5.set nx,(KX.of K5).set (.inl (by simp)) _⟩
 simp [Leaves,settle,results,Tryz.results377,go_sem,X6]
 exact END
def NumEnd (g:Nat) (v:Value) (nx n:Nat) (w:World) (e:Ending) (w':World):Prop:=e=.returned (.int .i64 n)∧RdrB g v nx w'∧KX [g] w w'
set_option maxHeartbeats 8000000 in
set_option maxRecDepth 100000 in
theorem rnumber_any (g:Nat) (v:Value) (bs pre post:List Int) (n:Nat) (hn:n<1048576) (low high above:Int) (h1:low≤(n:Int)) (h2:(n:Int)≤high) (w:World) (hR:RdU w v bs) (hbs:bs=pre++(enc n++post)) (hl:bs.length≤100000) (hg:RdrB g v pre.length w) :
  Calls Tryz.prog 324 #[.pointer (some ⟨g,0,none⟩),.int .i64 low,.int .i64 high,.int .i64 above] w (NumEnd g v (pre++enc n).length n w):=by
 have hmf:∀ (fn:Fn) (first cap:Array Value) (w:World),(Instr.makeFunc fn first cap).run Tryz.prog w=.ok (.func fn first cap) w:=fun _ _ _ _=>rfl
 have C1:=Lib.hid (fun rb hb ab lb w' (k:Kp w w')=>read_num rb hb ab lb g v bs pre post n hn low high h1 h2 w' (hR.kp k) hbs hl (hg.kp k))
 have lg:=hg.lt
 clear hR hbs hl hg h1 h2
 generalize (pre++enc n).length=nx at *
 generalize pre.length=at0 at *
 go_enter Tryz.func324,Tryz.ntmps324
 go_upto_region 1 with fail
 obtain ⟨w0,hw0⟩:∃ W,(((w.alloc (.cells #[.pointer (some ⟨g,0,none⟩)] 147)).alloc (.cells #[.int .i64 low] 3)).alloc (.cells #[.int .i64 high] 3)).alloc (.cells #[.int .i64 above] 46)=W:=⟨_,rfl⟩
 obtain ⟨pb,hpb⟩:∃ p,w.heap.size=p:=⟨_,rfl⟩
 have p0:w0.cell? ⟨pb,0,none⟩=some (.pointer (some ⟨g,0,none⟩)):=by rw [← hw0,← hpb];simp [go_sem]
 have l0:w0.cell? ⟨pb+1,0,none⟩=some (.int .i64 low):=by rw [← hw0,← hpb];simp [go_sem]
 have h0:w0.cell? ⟨pb+1+1,0,none⟩=some (.int .i64 high):=by rw [← hw0,← hpb];simp [go_sem]
 have K0:Kp w w0:=by rw [← hw0];exact kp_alloc (kp_alloc (kp_alloc (kp_alloc (kp_refl _) _) _) _) _
 have lp:=cell_lt p0
 have HC:=Lib.hid (C1.out pb (pb+1+1) (pb+1+1+1) (pb+1) w0 K0 p0 h0 l0)
 rw [hw0,hpb]
 clear hw0 C1 l0 h0
 go_wp2_with (go_at_call 377;refine HC.out.mono ?_;rintro e w1 ⟨rfl,hr1,hk1⟩)
 go_ret
 exact ⟨rfl,hr1,⟨hk1.os.trans K0.os,hk1.tape.trans K0.tape,hk1.output.trans K0.output,Nat.le_trans K0.size hk1.size,fun k hk hm=>(hk1.block k (Nat.lt_of_lt_of_le hk K0.size) hm).trans (K0.block k hk)⟩⟩
set_option maxHeartbeats 4000000 in
theorem rint_any (g:Nat) (v:Value) (bs pre post:List Int) (n:Nat) (hn:n<1048576) (low high:Int) (h1:low≤(n:Int)) (h2:(n:Int)≤high) (w:World) (hR:RdU w v bs) (hbs:bs=pre++(enc n++post)) (hl:bs.length≤100000) (hg:RdrB g v pre.length w) :
  Calls Tryz.prog 249 #[.pointer (some ⟨g,0,none⟩),.int .i64 low,.int .i64 high] w (NumEnd g v (pre++enc n).length n w):=by
 have HC:=Lib.hid (rnumber_any g v bs pre post n hn low high 5 h1 h2 w hR hbs hl hg)
 clear hR hbs hl hg h1 h2
 go_enter Tryz.func249,Tryz.ntmps249
 go_wp2_with (go_at_call 324;refine HC.out.mono ?_;rintro e w1 ⟨rfl,hr1,hk1⟩)
 go_ret
 exact ⟨rfl,hr1,hk1⟩
set_option maxHeartbeats 4000000 in
theorem rcount_any (g:Nat) (v:Value) (bs pre post:List Int) (n:Nat) (hn:n<1048576) (high:Int) (h2:(n:Int)≤high) (w:World) (hR:RdU w v bs) (hbs:bs=pre++(enc n++post)) (hl:bs.length≤100000) (hg:RdrB g v pre.length w) :
  Calls Tryz.prog 250 #[.pointer (some ⟨g,0,none⟩),.int .i64 high] w (NumEnd g v (pre++enc n).length n w):=by
 have HC:=Lib.hid (rnumber_any g v bs pre post n hn 0 high 3 (by omega) h2 w hR hbs hl hg)
 clear hR hbs hl hg h2
 go_enter Tryz.func250,Tryz.ntmps250
 go_wp2_with (go_at_call 324;refine HC.out.mono ?_;rintro e w1 ⟨rfl,hr1,hk1⟩)
 go_ret
 exact ⟨rfl,hr1,hk1⟩
set_option maxHeartbeats 4000000 in
theorem rfault_any (g:Nat) (v:Value) (at0:Nat) (w:World) (h:RdrB g v at0 w):Calls Tryz.prog 130 #[.pointer (some ⟨g,0,none⟩)] w fun e w'=>e=.returned (.agg #[.int .i64 0,.int .i64 0])∧Kp w w':=by
 have HN:=Lib.hid (fun w' (k:Kp w w')=>rnone_any g v at0 w' (h.kp k))
 have HG:=Lib.hid h
 clear h
 go_enter Tryz.func130,Tryz.ntmps130
 go_upto_region 1 with fail
 obtain ⟨w0,hw0⟩:∃ W,w.alloc (.cells #[.int .i64 0,.int .i64 0] 88)=W:=⟨_,rfl⟩
 obtain ⟨pb,hpb⟩:∃ p,w.heap.size=p:=⟨_,rfl⟩
 have p0:w0.cell? ⟨pb,0,none⟩=some (.int .i64 0):=by rw [← hw0,← hpb];exact alloc_c0 _
 have p1:w0.cell? ⟨pb,1,none⟩=some (.int .i64 0):=by rw [← hw0,← hpb];exact alloc_c1 _
 have f0:w0.frozen? ⟨pb,0,none⟩=false:=by rw [← hw0,← hpb];exact alloc_f0 _
 have f1:w0.frozen? ⟨pb,1,none⟩=false:=by rw [← hw0,← hpb];exact alloc_f1 _
 have K0:Kp w w0:=by rw [← hw0];exact kp_alloc (kp_refl _) _
 have hlp:w.heap.size≤pb:=by omega
 rw [hw0,hpb]
 clear hw0 hpb
 go_upto_region 3 with (go_at_call 208;refine (HN.out _ K0).mono ?_;rintro e w1 ⟨rfl,hk1⟩;have q0:=kp_cell hk1 p0;have q1:=kp_cell hk1 p1;have g0:=kp_froz hk1 p0 f0;have g1:=kp_froz hk1 p1 f1;have K1:=kp_trans K0 hk1;clear hk1 p0 p1 f0 f1)
 have c2:=(HG.out.kp K1).c2
 have c3:=(HG.out.kp K1).c3
 have lg:=(HG.out.kp K1).lt
 have lp:=cell_lt q0
 go_wp2_with fail
 refine bodyPost_ret (v:=.agg #[.int .i64 0,.int .i64 0]) (by (simp [results,Tryz.results130,go_sem,(two_set q0 q1 _ _).1,(two_set q0 q1 _ _).2])) rfl ⟨rfl,?_⟩
 exact kp_set (kp_set K1 hlp _) hlp _
theorem add_off (b off j:Nat):(⟨b,off,none⟩:Addr).add j=⟨b,off+j,none⟩:=by unfold Addr.add;split <;> simp_all
theorem RdU.cells {w:World} {b off L cap:Nat} {bs:List Int} (h:RdU w (.slice (some ⟨b,off,none⟩) L cap) bs):∀ j u,(u8V bs)[j]? = some u→w.cell? ((⟨b,off,none⟩:Addr).add j)=some u:=by
 obtain ⟨b',off',cap',hv,hc,h⟩:=h
 injection hv with e1 e2 e3
 injection e1 with e1
 injection e1 with e4 e5
 subst e4 e5
 intro j u hj
 have hl:j<bs.length:=by have:=(List.getElem?_eq_some_iff.1 hj).1;rwa [u8V_len] at this
 rw [add_off,h j hl]
 simp [u8V,hl] at hj
 rw [← hj,List.getD_eq_getElem?_getD,List.getElem?_eq_getElem hl];rfl
theorem OwnU.rdU {w:World} {B:Nat} {v:Value} {bs:List Int} (h:OwnU w B v bs) (h0:0<bs.length):RdU w v bs∧∃ g cap,v=.slice (some ⟨g,0,none⟩) bs.length cap∧B≤g∧g<w.heap.size:=by
 have h':=h
 obtain ⟨h1,⟨hv,hn⟩ | ⟨g,cap,cur,hv,hb,hg,hc,_⟩⟩:=h'
 ·omega
 ·subst hv
  have hcl:=World.ownsRow.cells (w:=w) h (g:=g) rfl
  refine ⟨⟨g,0,cap,rfl,hc,fun i hi=>?_⟩,g,cap,rfl,hb,(Array.getElem?_eq_some_iff.1 hg).1⟩
  have:=hcl i (.int .u8 (bs.getD i 0)) (by simp [u8V,hi])
  rwa [add_off] at this
set_option maxHeartbeats 4000000 in
set_option maxRecDepth 100000 in
theorem new_any (v:Value) (bs:List Int) (h0:0<bs.length) (hl:bs.length≤100000) (w:World) (hR:RdU w v bs) :
  Calls Tryz.prog 53 #[v] w fun e w'=>∃ g u q,e=.returned (.pointer (some ⟨g,0,none⟩))∧RdrB g u 0 w'∧RdU w' u bs∧Kp w w'∧w.heap.size≤g∧u.ownBlock=some q∧w.heap.size≤q∧q≠g:=by
 obtain ⟨i0,hi,hz0,hz1,hz2⟩:=info_parts infoU8
 have HI:=Lib.hid hi;have HZ0:=Lib.hid hz0;have HZ1:=Lib.hid hz1;have HZ2:=Lib.hid hz2;clear hi hz0 hz1 hz2
 have HR:=Lib.hid hR
 obtain ⟨b,off,cap,rfl,hc,_⟩:=hR
 have HL:Hid (bs.length≤100000):=Lib.hid hl
 obtain ⟨L,hL⟩:∃ L,bs.length=L:=⟨_,rfl⟩
 have HLL:=Lib.hid hL
 rw [hL] at HR ⊢
 rw [hL] at h0
 clear hl hL hc
 go_enter Tryz.func53,Tryz.ntmps53
 go_wp2_with (at_builtin;refine wpList_append_own_at _ rfl _ _ 74 rfl w.heap.size 5 i0 (.int .u8 0) 1 1 Tryz.underlying74 HI.out HZ0.out HZ1.out HZ2.out rfl (by decide) _ _ _ rfl (OwnU.nil w _) ⟨b,off,none⟩ L cap (u8V bs) rfl (by rw [u8V_len,HLL.out];omega) (RdU.cells HR.out) (u8V_one _) (by have:=HL.out;have:=HLL.out;simp only [List.length_nil];unfold maxLen;omega) (by have:=HL.out;have:=HLL.out;simp only [List.length_nil];omega) (Nat.le_refl _) ?_;intro v' w3 hown hgrow hnil hat;have ho:=OwnU.snoc (l:=[]) (m:=bs) (by rw [HLL.out];exact hown);rw [List.nil_append] at ho;obtain ⟨hr,q,cp,rfl,hq1,hq2⟩:=ho.rdU (by rw [HLL.out];exact h0);rw [HLL.out] at hr;have HRR:=Lib.hid hr;have HK3:=Lib.hid (kp_of_grownU (kp_refl w) hgrow (OwnU.nil w _) (Nat.le_refl _));rw [HLL.out];clear hown hgrow hnil hat ho hr)
 go_ret
 exact ⟨w3.heap.size,_,q,rfl,(show (w3.alloc _).heap[w3.heap.size]? = some _ from heap_alloc_new w3 _),HRR.out.kp (kp_alloc (kp_refl _) _),kp_alloc HK3.out _,Below.size HK3.out,rfl,hq1,by omega⟩
set_option maxHeartbeats 4000000 in
theorem rend_any (g:Nat) (v:Value) (bs:List Int) (w:World) (hR:RdU w v bs) (h:RdrB g v bs.length w):Calls Tryz.prog 54 #[.pointer (some ⟨g,0,none⟩)] w fun e w'=>e=.returned (.agg #[.int .i64 0,.int .i64 0])∧Kp w w':=by
 obtain ⟨b,off,cap,rfl,hc,_⟩:=hR
 generalize bs.length=L at *
 have HN:=Lib.hid (fun w' (k:Kp w w')=>rfault_any g _ L w' (h.kp k))
 have HG:=Lib.hid h
 clear h hc
 go_enter Tryz.func54,Tryz.ntmps54
 go_upto_region 1 with fail
 obtain ⟨w0,hw0⟩:∃ W,w.alloc (.cells #[.int .i64 0,.int .i64 0] 88)=W:=⟨_,rfl⟩
 obtain ⟨pb,hpb⟩:∃ p,w.heap.size=p:=⟨_,rfl⟩
 have p0:w0.cell? ⟨pb,0,none⟩=some (.int .i64 0):=by rw [← hw0,← hpb];exact alloc_c0 _
 have p1:w0.cell? ⟨pb,1,none⟩=some (.int .i64 0):=by rw [← hw0,← hpb];exact alloc_c1 _
 have f0:w0.frozen? ⟨pb,0,none⟩=false:=by rw [← hw0,← hpb];exact alloc_f0 _
 have f1:w0.frozen? ⟨pb,1,none⟩=false:=by rw [← hw0,← hpb];exact alloc_f1 _
 have K0:Kp w w0:=by rw [← hw0];exact kp_alloc (kp_refl _) _
 have hlp:w.heap.size≤pb:=by omega
 rw [hw0,hpb]
 clear hw0 hpb
 go_upto_region 2 with (go_at_call 130;refine (HN.out _ K0).mono ?_;rintro e w1 ⟨rfl,hk1⟩;have q0:=kp_cell hk1 p0;have q1:=kp_cell hk1 p1;have g0:=kp_froz hk1 p0 f0;have g1:=kp_froz hk1 p1 f1;have K1:=kp_trans K0 hk1;have c0:=(HG.out.kp K1).c0;have c1:=(HG.out.kp K1).c1;have lg:=(HG.out.kp K1).lt;have lp:=cell_lt q0;clear hk1 p0 p1 f0 f1)
 obtain ⟨w2,hw2⟩:∃ W,w1.alloc (.cells #[.int .i64 0,.int .i64 0] 88)=W:=⟨_,rfl⟩
 obtain ⟨t,ht⟩:∃ t,w1.heap.size=t:=⟨_,rfl⟩
 have t0:w2.cell? ⟨t,0,none⟩=some (.int .i64 0):=by rw [← hw2,← ht];exact alloc_c0 _
 have t1:w2.cell? ⟨t,1,none⟩=some (.int .i64 0):=by rw [← hw2,← ht];exact alloc_c1 _
 have k12:Kp w1 w2:=by rw [← hw2];exact kp_alloc (kp_refl _) _
 have s0:=kp_cell k12 q0
 have s1:=kp_cell k12 q1
 have u0:=kp_froz k12 q0 g0
 have u1:=kp_froz k12 q1 g1
 have d0:=kp_cell k12 c0
 have d1:=kp_cell k12 c1
 have ld:=cell_lt d0
 have lt2:=cell_lt t0
 have ls:=cell_lt s0
 have hne:t≠pb:=by omega
 have K2:=kp_trans K1 k12
 have hd:decide ((L:Int)<(L:Int))=false:=by simp
 rw [hw2,ht]
 clear hw2 ht q0 q1 g0 g1 c0 c1 lg lp
 go_quiet (fail)
 go_wp2_with fail
 refine bodyPost_ret (v:=.agg #[.int .i64 0,.int .i64 0]) (by (simp [results,Tryz.results54,go_sem,(two_set (w:=w2.drewN nq) s0 s1 _ _).1,(two_set (w:=w2.drewN nq) s0 s1 _ _).2])) rfl ⟨rfl,?_⟩
 exact kp_set (kp_set (kp_drewN K2 _) hlp _) hlp _
end Go.Proofs.YtgliljnbajohhaaGreatDoor
