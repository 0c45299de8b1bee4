import Derived.Test.YtgliljnbajohhaaGreatDoorQ19
import Derived.Test.YtgliljnbajohhaaGreatDoorQ09
import Derived.Test.YtgliljnbajohhaaGreatDoorQ08
import Derived.Test.YtgliljnbajohhaaGreatDoorQ00
import Derived.OpenShut
import Derived.ChangeOld
import Derived.ProofKit
import Derived.SizedLaws
import Derived.Maps.AppendAt
import Derived.Laws.OwnMore
import Derived.Laws.AppendOwnNone
import Derived.Laws.Rows
import Derived.Test.YtgliljnbajohhaaGreatDoorQ02
import Derived.Sort.Grow
set_option linter.unusedVariables false
set_option linter.unusedSimpArgs false
namespace Go.Proofs.YtgliljnbajohhaaGreatDoor
open Go.RowKit Go.Proofs.Top Go.Proofs.Geo
theorem add64s (x y:Nat) (h:x+y<18446744073709551616) (w:World):(callFunc 189 #[.int .u64 x,.int .u64 y,.int .u64 0]).run Tryz.prog w=.ok (.value (.tuple #[.int .u64 ((x+y:Nat):Int),.int .u64 0])) w:=by
 have h1:=add64 x y 0 (by omega) w
 rw [show (x+y+0) % 18446744073709551616=x+y by omega,show (x+y+0) / 18446744073709551616=0 by omega] at h1
 exact h1
theorem orI_cmp0 (x:Int):orI (cmpI 0 0) x=x:=rfl
set_option maxHeartbeats 4000000 in
set_option maxRecDepth 20000 in
theorem sums_any (a b c d:Nat) (ha:a<4294967296) (hb:b<4294967296) (hc:c<4294967296) (hd:d<4294967296) (w:World) :
  Calls Tryz.prog 222 #[.int .i64 a,.int .i64 b,.int .i64 c,.int .i64 d] w fun e w'=>e=.returned (.int .i64 (cmpI ((a+b:Nat):Int) ((c+d:Nat):Int)))∧Kp w w':=by
 have a1:=add64s a b (by omega)
 have a2:=add64s c d (by omega)
 have a3:=add64s 0 0 (by omega)
 have u1:IntKind.u64.wrap (a:Int)=(a:Int):=IntWalk.u64_in _ (by omega)
 have u2:IntKind.u64.wrap (b:Int)=(b:Int):=IntWalk.u64_in _ (by omega)
 have u3:IntKind.u64.wrap (c:Int)=(c:Int):=IntWalk.u64_in _ (by omega)
 have u4:IntKind.u64.wrap (d:Int)=(d:Int):=IntWalk.u64_in _ (by omega)
 have s1:(a:Int) / 9223372036854775808=0:=by omega
 have s2:(b:Int) / 9223372036854775808=0:=by omega
 have s3:(c:Int) / 9223372036854775808=0:=by omega
 have s4:(d:Int) / 9223372036854775808=0:=by omega
 generalize a+b=ab at *
 generalize c+d=cd at *
 have a3':∀ w,(callFunc 189 #[.int .u64 0,.int .u64 0,.int .u64 0]).run Tryz.prog w=.ok (.value (.tuple #[.int .u64 0,.int .u64 0])) w:=a3
 clear a3 ha hb hc hd
 go_enter Tryz.func222,Tryz.ntmps222
 go_wp2_with (first | (go_at_call 150;refine (cmpInt _ _ _).mono ?_;rintro e w1 ⟨rfl,hw1⟩;subst hw1) | (go_at_call 289;refine (cmpUint _ _ _).mono ?_;rintro e w1 ⟨rfl,hw1⟩;subst hw1) | (go_at_call 149;refine (or_any _ (cmpI 0 0) (cmpI (ab:Int) (cd:Int)) _ ?_ ?_).mono ?_;(simp [go_sem]);(simp [go_sem]);rintro e w1 ⟨rfl,hw1⟩;subst hw1;rw [orI_cmp0]))
 go_ret
 exact ⟨rfl,(by (repeat (first | exact kp_refl _ | apply kp_alloc | apply kp_drew | apply kp_drewN)))⟩
abbrev Bx:=Nat×Nat×Nat×Nat
def BxAt (w:World) (gl:Nat) (l:List Bx):Prop:=∀ k x,l[k]? = some x→w.cell? ⟨gl,k * 4,none⟩=some (.int .i64 x.1)∧w.cell? ⟨gl,k * 4+1,none⟩=some (.int .i64 x.2.1)∧w.cell? ⟨gl,k * 4+2,none⟩=some (.int .i64 x.2.2.1)∧w.cell? ⟨gl,k * 4+3,none⟩=some (.int .i64 x.2.2.2)
theorem BxAt.kx {S:List Nat} {w w':World} {gl:Nat} {l:List Bx} (h:BxAt w gl l) (k:KX S w w') (hn:gl∉S):BxAt w' gl l:=fun i x hx=>⟨k.cell (h i x hx).1 hn,k.cell (h i x hx).2.1 hn,k.cell (h i x hx).2.2.1 hn,k.cell (h i x hx).2.2.2 hn⟩
theorem BxAt.kp {w w':World} {gl:Nat} {l:List Bx} (h:BxAt w gl l) (k:Kp w w'):BxAt w' gl l:=h.kx (S:=[]) (.of k) (by simp)
def BxOk (x:Bx):Prop:=x.1<4294967296∧x.2.1<4294967296∧x.2.2.1<4294967296∧x.2.2.2<4294967296
set_option maxHeartbeats 8000000 in
set_option maxRecDepth 100000 in
theorem pcmp_any (pt pa tb gl n cap:Nat) (l:List Bx) (across:Bool) (i j:Nat) (w:World) (hln:l.length=n) (hn:n≤1000) (hok:∀ x∈l,BxOk x) (hi:i<n) (hj:j<n)
  (cpt:w.cell? ⟨pt,0,none⟩=some (.pointer (some ⟨tb,0,none⟩))) (cpa:w.cell? ⟨pa,0,none⟩=some (.bool across)) (ctl:w.cell? ⟨tb,1,none⟩=some (.slice (some ⟨gl,0,none⟩) n cap)) (hb:BxAt w gl l) :
  Calls Tryz.prog 221 #[.int .i64 i,.int .i64 j,.pointer (some ⟨pt,0,none⟩),.pointer (some ⟨pa,0,none⟩)] w fun e w'=>(∃ c,e=.returned (.int .i64 c))∧Kp w w':=by
 obtain ⟨⟨a0,a1,a2,a3⟩,hx⟩:∃ x,l[i]? = some x:=⟨_,List.getElem?_eq_getElem (by omega)⟩
 obtain ⟨⟨b0,b1,b2,b3⟩,hy⟩:∃ x,l[j]? = some x:=⟨_,List.getElem?_eq_getElem (by omega)⟩
 obtain ⟨ca0,ca1,ca2,ca3⟩:=hb i _ hx
 obtain ⟨cb0,cb1,cb2,cb3⟩:=hb j _ hy
 have hox:=hok _ (List.mem_of_getElem? hx)
 have hoy:=hok _ (List.mem_of_getElem? hy)
 unfold BxOk at hox hoy
 dsimp only at ca0 ca1 ca2 ca3 cb0 cb1 cb2 cb3 hox hoy
 have l1:=cell_lt cpt
 have l2:=cell_lt cpa
 have l3:=cell_lt ctl
 have l4:=cell_lt ca0
 have c1:(0:Int)≤(i:Int):=by omega
 have c2:(i:Int)<(n:Int):=by omega
 have c3:(0:Int)≤(j:Int):=by omega
 have c4:(j:Int)<(n:Int):=by omega
 clear hx hy hb hok hln
 go_enter Tryz.func221,Tryz.ntmps221
 go_upto_region 1 with fail
 go_cut [7,8] (fun p q wx=>∃ p1 p2,p=.pointer (some ⟨p1,0,none⟩)∧q=.pointer (some ⟨p2,0,none⟩)∧wx.heap[p1]? = some (.cells #[.int .i64 a0,.int .i64 a1,.int .i64 a2,.int .i64 a3] 160 (0,0))∧wx.heap[p2]? = some (.cells #[.int .i64 b0,.int .i64 b1,.int .i64 b2,.int .i64 b3] 160 (0,0))∧Kp w wx)
 case first =>
  refine wp_region_noPanic ?_
  refine wp_region_held_drew (S:=fun w'=>Kp w w') (by kernel_rfl) ?_ (fun hHeld=>?_)
  ·exact kp_drew (kp_refl _)
  obtain ⟨W0,hW0⟩:∃ W,w.drew=W:=⟨_,rfl⟩
  have K0:Kp w W0:=by rw [← hW0];exact kp_drew (kp_refl _)
  rw [hW0] at hHeld ⊢
  refine take_yes (i:=0) (d:=9) (v:=?_) rfl rfl (by kernel_rfl) (by kernel_rfl) (by kernel_rfl) (fun _ _ _ h=>h) (by rfl) ?_ hHeld ?_
  rotate_left
  ·intro wq hSw;(try dsimp only at hSw);have q0:=kp_cell hSw cpt;have q1:=kp_cell hSw ctl;have q2:=kp_cell hSw ca0;have q3:=kp_cell hSw ca1;have q4:=kp_cell hSw ca2;have q5:=kp_cell hSw ca3;have q6:=kp_cell hSw cb0;have q7:=kp_cell hSw cb1;have q8:=kp_cell hSw cb2;have q9:=kp_cell hSw cb3;go_simp;(try with_reducible rfl)
  (try simp only [Act.put,List.setIfInBounds_toArray,List.set_cons_zero,List.set_cons_succ])
  refine take_yes (i:=1) (d:=10) (v:=?_) rfl rfl (by kernel_rfl) (by kernel_rfl) (by kernel_rfl) (fun _ _ _ h=>h) (by rfl) ?_ hHeld ?_
  rotate_left
  ·intro wq hSw;(try dsimp only at hSw);go_simp;(try with_reducible rfl)
  (try simp only [Act.put,List.setIfInBounds_toArray,List.set_cons_zero,List.set_cons_succ])
  refine take_yes (i:=2) (d:=11) (v:=?_) rfl rfl (by kernel_rfl) (by kernel_rfl) (by kernel_rfl) (fun _ _ _ h=>h) (by rfl) ?_ hHeld ?_
  rotate_left
  ·intro wq hSw;(try dsimp only at hSw);go_simp;(try with_reducible rfl)
  (try simp only [Act.put,List.setIfInBounds_toArray,List.set_cons_zero,List.set_cons_succ])
  refine take_yes (i:=3) (d:=12) (v:=?_) rfl rfl (by kernel_rfl) (by kernel_rfl) (by kernel_rfl) (fun _ _ _ h=>h) (by rfl) ?_ hHeld ?_
  rotate_left
  ·intro wq hSw;(try dsimp only at hSw);have q0:=kp_cell hSw cpt;have q1:=kp_cell hSw ctl;have q2:=kp_cell hSw ca0;have q3:=kp_cell hSw ca1;have q4:=kp_cell hSw ca2;have q5:=kp_cell hSw ca3;have q6:=kp_cell hSw cb0;have q7:=kp_cell hSw cb1;have q8:=kp_cell hSw cb2;have q9:=kp_cell hSw cb3;go_simp;(try with_reducible rfl)
  (try simp only [Act.put,List.setIfInBounds_toArray,List.set_cons_zero,List.set_cons_succ])
  refine take_yes (i:=4) (d:=13) (v:=?_) rfl rfl (by kernel_rfl) (by kernel_rfl) (by kernel_rfl) (fun _ _ _ h=>h) (by rfl) ?_ hHeld ?_
  rotate_left
  ·intro wq hSw;(try dsimp only at hSw);go_simp;(try with_reducible rfl)
  (try simp only [Act.put,List.setIfInBounds_toArray,List.set_cons_zero,List.set_cons_succ])
  refine take_yes (i:=5) (d:=14) (v:=?_) rfl rfl (by kernel_rfl) (by kernel_rfl) (by kernel_rfl) (fun _ _ _ h=>h) (by rfl) ?_ hHeld ?_
  rotate_left
  ·intro wq hSw;(try dsimp only at hSw);go_simp;(try with_reducible rfl)
  (try simp only [Act.put,List.setIfInBounds_toArray,List.set_cons_zero,List.set_cons_succ])
  refine take_yes (i:=6) (d:=15) (v:=?_) rfl rfl (by kernel_rfl) (by kernel_rfl) (by kernel_rfl) (fun _ _ _ h=>h) (by rfl) ?_ hHeld ?_
  rotate_left
  ·intro wq hSw;(try dsimp only at hSw);have q0:=kp_cell hSw cpt;have q1:=kp_cell hSw ctl;have q2:=kp_cell hSw ca0;have q3:=kp_cell hSw ca1;have q4:=kp_cell hSw ca2;have q5:=kp_cell hSw ca3;have q6:=kp_cell hSw cb0;have q7:=kp_cell hSw cb1;have q8:=kp_cell hSw cb2;have q9:=kp_cell hSw cb3;go_simp;(try with_reducible rfl)
  (try simp only [Act.put,List.setIfInBounds_toArray,List.set_cons_zero,List.set_cons_succ])
  refine take_yes (i:=7) (d:=16) (v:=?_) rfl rfl (by kernel_rfl) (by kernel_rfl) (by kernel_rfl) (fun _ _ _ h=>h) (by rfl) ?_ hHeld ?_
  rotate_left
  ·intro wq hSw;(try dsimp only at hSw);have q0:=kp_cell hSw cpt;have q1:=kp_cell hSw ctl;have q2:=kp_cell hSw ca0;have q3:=kp_cell hSw ca1;have q4:=kp_cell hSw ca2;have q5:=kp_cell hSw ca3;have q6:=kp_cell hSw cb0;have q7:=kp_cell hSw cb1;have q8:=kp_cell hSw cb2;have q9:=kp_cell hSw cb3;go_simp;(try with_reducible rfl)
  (try simp only [Act.put,List.setIfInBounds_toArray,List.set_cons_zero,List.set_cons_succ])
  refine take_yes (i:=8) (d:=17) (v:=?_) rfl rfl (by kernel_rfl) (by kernel_rfl) (by kernel_rfl) (fun _ _ _ h=>h) (by rfl) ?_ hHeld ?_
  rotate_left
  ·intro wq hSw;(try dsimp only at hSw);go_simp;(try with_reducible rfl)
  (try simp only [Act.put,List.setIfInBounds_toArray,List.set_cons_zero,List.set_cons_succ])
  refine take_yes (i:=9) (d:=18) (v:=?_) rfl rfl (by kernel_rfl) (by kernel_rfl) (by kernel_rfl) (fun _ _ _ h=>h) (by rfl) ?_ hHeld ?_
  rotate_left
  ·intro wq hSw;(try dsimp only at hSw);go_simp;(try with_reducible rfl)
  (try simp only [Act.put,List.setIfInBounds_toArray,List.set_cons_zero,List.set_cons_succ])
  refine take_yes (i:=10) (d:=19) (v:=?_) rfl rfl (by kernel_rfl) (by kernel_rfl) (by kernel_rfl) (fun _ _ _ h=>h) (by rfl) ?_ hHeld ?_
  rotate_left
  ·intro wq hSw;(try dsimp only at hSw);have q0:=kp_cell hSw cpt;have q1:=kp_cell hSw ctl;have q2:=kp_cell hSw ca0;have q3:=kp_cell hSw ca1;have q4:=kp_cell hSw ca2;have q5:=kp_cell hSw ca3;have q6:=kp_cell hSw cb0;have q7:=kp_cell hSw cb1;have q8:=kp_cell hSw cb2;have q9:=kp_cell hSw cb3;go_simp;(try with_reducible rfl)
  (try simp only [Act.put,List.setIfInBounds_toArray,List.set_cons_zero,List.set_cons_succ])
  refine take_yes (i:=11) (d:=20) (v:=?_) rfl rfl (by kernel_rfl) (by kernel_rfl) (by kernel_rfl) (fun _ _ _ h=>h) (by rfl) ?_ hHeld ?_
  rotate_left
  ·intro wq hSw;(try dsimp only at hSw);go_simp;(try with_reducible rfl)
  (try simp only [Act.put,List.setIfInBounds_toArray,List.set_cons_zero,List.set_cons_succ])
  refine take_yes (i:=12) (d:=21) (v:=?_) rfl rfl (by kernel_rfl) (by kernel_rfl) (by kernel_rfl) (fun _ _ _ h=>h) (by rfl) ?_ hHeld ?_
  rotate_left
  ·intro wq hSw;(try dsimp only at hSw);go_simp;(try with_reducible rfl)
  (try simp only [Act.put,List.setIfInBounds_toArray,List.set_cons_zero,List.set_cons_succ])
  refine take_yes (i:=13) (d:=22) (v:=?_) rfl rfl (by kernel_rfl) (by kernel_rfl) (by kernel_rfl) (fun _ _ _ h=>h) (by rfl) ?_ hHeld ?_
  rotate_left
  ·intro wq hSw;(try dsimp only at hSw);have q0:=kp_cell hSw cpt;have q1:=kp_cell hSw ctl;have q2:=kp_cell hSw ca0;have q3:=kp_cell hSw ca1;have q4:=kp_cell hSw ca2;have q5:=kp_cell hSw ca3;have q6:=kp_cell hSw cb0;have q7:=kp_cell hSw cb1;have q8:=kp_cell hSw cb2;have q9:=kp_cell hSw cb3;go_simp;(try with_reducible rfl)
  (try simp only [Act.put,List.setIfInBounds_toArray,List.set_cons_zero,List.set_cons_succ])
  refine wpAnyH_ready (rs:=[14,15]) (by kernel_rfl) (by simp) ?_
  refine (AllReadyH.cons rfl (fun K' hK=>?_) (AllReadyH.cons rfl (fun K' hK=>?_) AllReadyH.nil))
  ·go_simp
   refine hK.out _ _ ?_ (fun hHeld=>?_)
   ·exact kp_alloc K0 _
   obtain ⟨W1,hW1⟩:∃ X,W0.alloc (.cells #[.int .i64 0,.int .i64 0,.int .i64 0,.int .i64 0] 160)=X:=⟨_,rfl⟩
   obtain ⟨p1,hp1⟩:∃ p,W0.heap.size=p:=⟨_,rfl⟩
   have r1:W1.heap[p1]? = some (.cells #[.int .i64 0,.int .i64 0,.int .i64 0,.int .i64 0] 160 (0,0)):=by rw [← hW1,← hp1];exact heap_alloc_new _ _
   have f1:=fun o=>frozen_of_row W1 p1 o _ _ r1
   have k0:Kp W0 W1:=by rw [← hW1];exact kp_alloc (kp_refl _) _
   have K1:=kp_trans K0 k0
   have lp1:w.heap.size≤p1:=by rw [← hp1];exact Below.size K0
   have z1_0:W1.cell? ⟨p1,0,none⟩=some (.int .i64 0):=by rw [cell_of_row W1 p1 _ _ _ _ r1];rfl
   have z1_1:W1.cell? ⟨p1,1,none⟩=some (.int .i64 0):=by rw [cell_of_row W1 p1 _ _ _ _ r1];rfl
   have z1_2:W1.cell? ⟨p1,2,none⟩=some (.int .i64 0):=by rw [cell_of_row W1 p1 _ _ _ _ r1];rfl
   have z1_3:W1.cell? ⟨p1,3,none⟩=some (.int .i64 0):=by rw [cell_of_row W1 p1 _ _ _ _ r1];rfl
   have lz1:=cell_lt z1_0
   rw [hW1,hp1]
   rw [hW1] at hHeld
   clear hW1 hp1
   clear hK K'
   (try simp only [Act.put,List.setIfInBounds_toArray,List.set_cons_zero,List.set_cons_succ])
   refine wpAnyH_ready (rs:=[15]) (by kernel_rfl) (by simp) ?_
   refine (AllReadyH.cons rfl (fun K' hK=>?_) AllReadyH.nil)
   go_simp
   refine hK.out _ _ ?_ (fun hHeld=>?_)
   ·exact kp_alloc K1 _
   obtain ⟨W2,hW2⟩:∃ X,W1.alloc (.cells #[.int .i64 0,.int .i64 0,.int .i64 0,.int .i64 0] 160)=X:=⟨_,rfl⟩
   obtain ⟨p2,hp2⟩:∃ p,W1.heap.size=p:=⟨_,rfl⟩
   have r2:W2.heap[p2]? = some (.cells #[.int .i64 0,.int .i64 0,.int .i64 0,.int .i64 0] 160 (0,0)):=by rw [← hW2,← hp2];exact heap_alloc_new _ _
   have f2:=fun o=>frozen_of_row W2 p2 o _ _ r2
   have k1:Kp W1 W2:=by rw [← hW2];exact kp_alloc (kp_refl _) _
   have K2:=kp_trans K1 k1
   have lp2:w.heap.size≤p2:=by rw [← hp2];exact Below.size K1
   have z2_0:W2.cell? ⟨p2,0,none⟩=some (.int .i64 0):=by rw [cell_of_row W2 p2 _ _ _ _ r2];rfl
   have z2_1:W2.cell? ⟨p2,1,none⟩=some (.int .i64 0):=by rw [cell_of_row W2 p2 _ _ _ _ r2];rfl
   have z2_2:W2.cell? ⟨p2,2,none⟩=some (.int .i64 0):=by rw [cell_of_row W2 p2 _ _ _ _ r2];rfl
   have z2_3:W2.cell? ⟨p2,3,none⟩=some (.int .i64 0):=by rw [cell_of_row W2 p2 _ _ _ _ r2];rfl
   have lz2:=cell_lt z2_0
   have hne:p1≠p2:=by have:p1<W1.heap.size:=(Array.getElem?_eq_some_iff.1 r1).1;omega
   replace r1:=(k1.block p1 (Array.getElem?_eq_some_iff.1 r1).1).trans r1
   replace z1_0:=kp_cell k1 z1_0
   replace z1_1:=kp_cell k1 z1_1
   replace z1_2:=kp_cell k1 z1_2
   replace z1_3:=kp_cell k1 z1_3
   replace f1:=fun o=>frozen_of_row W2 p1 o _ _ r1
   rw [hW2,hp2]
   rw [hW2] at hHeld
   clear hW2 hp2
   clear hK K'
   (try simp only [Act.put,List.setIfInBounds_toArray,List.set_cons_zero,List.set_cons_succ])
   refine wpAnyH_ready (rs:=[16]) (by kernel_rfl) (by simp) ?_
   refine (AllReadyH.cons rfl (fun K' hK=>?_) AllReadyH.nil)
   go_simp
   refine hK.out _ _ ?_ (fun hHeld=>?_)
   ·exact kp_set (kp_set (kp_set (kp_set K2 lp1 _) lp1 _) lp1 _) lp1 _
   obtain ⟨W3,hW3⟩:∃ X,(((W2.setCell ⟨p1,0,none⟩ (.int .i64 a0)).setCell ⟨p1,1,none⟩ (.int .i64 a1)).setCell ⟨p1,2,none⟩ (.int .i64 a2)).setCell ⟨p1,3,none⟩ (.int .i64 a3)=X:=⟨_,rfl⟩
   have X1:KX [p1] W2 W3:=by rw [← hW3];exact ((((KX.refl (S:=[p1]) W2).set (a:=⟨p1,0,none⟩) (.inl (by simp)) _).set (a:=⟨p1,1,none⟩) (.inl (by simp)) _).set (a:=⟨p1,2,none⟩) (.inl (by simp)) _).set (a:=⟨p1,3,none⟩) (.inl (by simp)) _
   replace r1:W3.heap[p1]? = some (.cells #[.int .i64 a0,.int .i64 a1,.int .i64 a2,.int .i64 a3] 160 (0,0)):=by rw [← hW3,heap_setCell_same _ p1 _ _ _ _ (heap_setCell_same _ p1 _ _ _ _ (heap_setCell_same _ p1 _ _ _ _ (heap_setCell_same _ p1 _ _ _ _ r1)))];rfl
   have K3:Kp w W3:=KX.after K2 X1 (by simp;exact lp1)
   replace r2:=X1.row r2 (by simp;omega)
   replace z2_0:=X1.cell z2_0 (by simp;omega)
   replace z2_1:=X1.cell z2_1 (by simp;omega)
   replace z2_2:=X1.cell z2_2 (by simp;omega)
   replace z2_3:=X1.cell z2_3 (by simp;omega)
   replace f2:=fun o=>frozen_of_row W3 p2 o _ _ r2
   rw [hW3]
   rw [hW3] at hHeld
   clear hW3 z1_0 z1_1 z1_2 z1_3 f1 lz1
   clear hK K'
   (try simp only [Act.put,List.setIfInBounds_toArray,List.set_cons_zero,List.set_cons_succ])
   refine wpAnyH_ready (rs:=[17]) (by kernel_rfl) (by simp) ?_
   refine (AllReadyH.cons rfl (fun K' hK=>?_) AllReadyH.nil)
   go_simp
   refine hK.out _ _ ?_ (fun hHeld=>?_)
   ·exact kp_set (kp_set (kp_set (kp_set K3 lp2 _) lp2 _) lp2 _) lp2 _
   obtain ⟨W4,hW4⟩:∃ X,(((W3.setCell ⟨p2,0,none⟩ (.int .i64 b0)).setCell ⟨p2,1,none⟩ (.int .i64 b1)).setCell ⟨p2,2,none⟩ (.int .i64 b2)).setCell ⟨p2,3,none⟩ (.int .i64 b3)=X:=⟨_,rfl⟩
   have X2:KX [p2] W3 W4:=by rw [← hW4];exact ((((KX.refl (S:=[p2]) W3).set (a:=⟨p2,0,none⟩) (.inl (by simp)) _).set (a:=⟨p2,1,none⟩) (.inl (by simp)) _).set (a:=⟨p2,2,none⟩) (.inl (by simp)) _).set (a:=⟨p2,3,none⟩) (.inl (by simp)) _
   replace r2:W4.heap[p2]? = some (.cells #[.int .i64 b0,.int .i64 b1,.int .i64 b2,.int .i64 b3] 160 (0,0)):=by rw [← hW4,heap_setCell_same _ p2 _ _ _ _ (heap_setCell_same _ p2 _ _ _ _ (heap_setCell_same _ p2 _ _ _ _ (heap_setCell_same _ p2 _ _ _ _ r2)))];rfl
   have K4:Kp w W4:=KX.after K3 X2 (by simp;exact lp2)
   replace r1:=X2.row r1 (by simp;omega)
   rw [hW4]
   rw [hW4] at hHeld
   clear hW4 z2_0 z2_1 z2_2 z2_3 f2 lz2
   clear hK K'
   (try simp only [Act.put,List.setIfInBounds_toArray,List.set_cons_zero,List.set_cons_succ])
   refine wpAnyH_done (by kernel_rfl) ?_ _
   refine NoPanic.normal ?_
   go_wp2_with fail
   go_meet
   exact ⟨p1,p2,rfl,rfl,r1,r2,K4⟩
  ·go_simp
   refine hK.out _ _ ?_ (fun hHeld=>?_)
   ·exact kp_alloc K0 _
   obtain ⟨W1,hW1⟩:∃ X,W0.alloc (.cells #[.int .i64 0,.int .i64 0,.int .i64 0,.int .i64 0] 160)=X:=⟨_,rfl⟩
   obtain ⟨p2,hp2⟩:∃ p,W0.heap.size=p:=⟨_,rfl⟩
   have r2:W1.heap[p2]? = some (.cells #[.int .i64 0,.int .i64 0,.int .i64 0,.int .i64 0] 160 (0,0)):=by rw [← hW1,← hp2];exact heap_alloc_new _ _
   have f2:=fun o=>frozen_of_row W1 p2 o _ _ r2
   have k0:Kp W0 W1:=by rw [← hW1];exact kp_alloc (kp_refl _) _
   have K1:=kp_trans K0 k0
   have lp2:w.heap.size≤p2:=by rw [← hp2];exact Below.size K0
   have z2_0:W1.cell? ⟨p2,0,none⟩=some (.int .i64 0):=by rw [cell_of_row W1 p2 _ _ _ _ r2];rfl
   have z2_1:W1.cell? ⟨p2,1,none⟩=some (.int .i64 0):=by rw [cell_of_row W1 p2 _ _ _ _ r2];rfl
   have z2_2:W1.cell? ⟨p2,2,none⟩=some (.int .i64 0):=by rw [cell_of_row W1 p2 _ _ _ _ r2];rfl
   have z2_3:W1.cell? ⟨p2,3,none⟩=some (.int .i64 0):=by rw [cell_of_row W1 p2 _ _ _ _ r2];rfl
   have lz2:=cell_lt z2_0
   rw [hW1,hp2]
   rw [hW1] at hHeld
   clear hW1 hp2
   clear hK K'
   (try simp only [Act.put,List.setIfInBounds_toArray,List.set_cons_zero,List.set_cons_succ])
   refine wpAnyH_ready (rs:=[14]) (by kernel_rfl) (by simp) ?_
   refine (AllReadyH.cons rfl (fun K' hK=>?_) AllReadyH.nil)
   go_simp
   refine hK.out _ _ ?_ (fun hHeld=>?_)
   ·exact kp_alloc K1 _
   obtain ⟨W2,hW2⟩:∃ X,W1.alloc (.cells #[.int .i64 0,.int .i64 0,.int .i64 0,.int .i64 0] 160)=X:=⟨_,rfl⟩
   obtain ⟨p1,hp1⟩:∃ p,W1.heap.size=p:=⟨_,rfl⟩
   have r1:W2.heap[p1]? = some (.cells #[.int .i64 0,.int .i64 0,.int .i64 0,.int .i64 0] 160 (0,0)):=by rw [← hW2,← hp1];exact heap_alloc_new _ _
   have f1:=fun o=>frozen_of_row W2 p1 o _ _ r1
   have k1:Kp W1 W2:=by rw [← hW2];exact kp_alloc (kp_refl _) _
   have K2:=kp_trans K1 k1
   have lp1:w.heap.size≤p1:=by rw [← hp1];exact Below.size K1
   have z1_0:W2.cell? ⟨p1,0,none⟩=some (.int .i64 0):=by rw [cell_of_row W2 p1 _ _ _ _ r1];rfl
   have z1_1:W2.cell? ⟨p1,1,none⟩=some (.int .i64 0):=by rw [cell_of_row W2 p1 _ _ _ _ r1];rfl
   have z1_2:W2.cell? ⟨p1,2,none⟩=some (.int .i64 0):=by rw [cell_of_row W2 p1 _ _ _ _ r1];rfl
   have z1_3:W2.cell? ⟨p1,3,none⟩=some (.int .i64 0):=by rw [cell_of_row W2 p1 _ _ _ _ r1];rfl
   have lz1:=cell_lt z1_0
   have hne:p2≠p1:=by have:p2<W1.heap.size:=(Array.getElem?_eq_some_iff.1 r2).1;omega
   replace r2:=(k1.block p2 (Array.getElem?_eq_some_iff.1 r2).1).trans r2
   replace z2_0:=kp_cell k1 z2_0
   replace z2_1:=kp_cell k1 z2_1
   replace z2_2:=kp_cell k1 z2_2
   replace z2_3:=kp_cell k1 z2_3
   replace f2:=fun o=>frozen_of_row W2 p2 o _ _ r2
   rw [hW2,hp1]
   rw [hW2] at hHeld
   clear hW2 hp1
   clear hK K'
   (try simp only [Act.put,List.setIfInBounds_toArray,List.set_cons_zero,List.set_cons_succ])
   refine wpAnyH_ready (rs:=[16]) (by kernel_rfl) (by simp) ?_
   refine (AllReadyH.cons rfl (fun K' hK=>?_) AllReadyH.nil)
   go_simp
   refine hK.out _ _ ?_ (fun hHeld=>?_)
   ·exact kp_set (kp_set (kp_set (kp_set K2 lp1 _) lp1 _) lp1 _) lp1 _
   obtain ⟨W3,hW3⟩:∃ X,(((W2.setCell ⟨p1,0,none⟩ (.int .i64 a0)).setCell ⟨p1,1,none⟩ (.int .i64 a1)).setCell ⟨p1,2,none⟩ (.int .i64 a2)).setCell ⟨p1,3,none⟩ (.int .i64 a3)=X:=⟨_,rfl⟩
   have X1:KX [p1] W2 W3:=by rw [← hW3];exact ((((KX.refl (S:=[p1]) W2).set (a:=⟨p1,0,none⟩) (.inl (by simp)) _).set (a:=⟨p1,1,none⟩) (.inl (by simp)) _).set (a:=⟨p1,2,none⟩) (.inl (by simp)) _).set (a:=⟨p1,3,none⟩) (.inl (by simp)) _
   replace r1:W3.heap[p1]? = some (.cells #[.int .i64 a0,.int .i64 a1,.int .i64 a2,.int .i64 a3] 160 (0,0)):=by rw [← hW3,heap_setCell_same _ p1 _ _ _ _ (heap_setCell_same _ p1 _ _ _ _ (heap_setCell_same _ p1 _ _ _ _ (heap_setCell_same _ p1 _ _ _ _ r1)))];rfl
   have K3:Kp w W3:=KX.after K2 X1 (by simp;exact lp1)
   replace r2:=X1.row r2 (by simp;omega)
   replace z2_0:=X1.cell z2_0 (by simp;omega)
   replace z2_1:=X1.cell z2_1 (by simp;omega)
   replace z2_2:=X1.cell z2_2 (by simp;omega)
   replace z2_3:=X1.cell z2_3 (by simp;omega)
   replace f2:=fun o=>frozen_of_row W3 p2 o _ _ r2
   rw [hW3]
   rw [hW3] at hHeld
   clear hW3 z1_0 z1_1 z1_2 z1_3 f1 lz1
   clear hK K'
   (try simp only [Act.put,List.setIfInBounds_toArray,List.set_cons_zero,List.set_cons_succ])
   refine wpAnyH_ready (rs:=[17]) (by kernel_rfl) (by simp) ?_
   refine (AllReadyH.cons rfl (fun K' hK=>?_) AllReadyH.nil)
   go_simp
   refine hK.out _ _ ?_ (fun hHeld=>?_)
   ·exact kp_set (kp_set (kp_set (kp_set K3 lp2 _) lp2 _) lp2 _) lp2 _
   obtain ⟨W4,hW4⟩:∃ X,(((W3.setCell ⟨p2,0,none⟩ (.int .i64 b0)).setCell ⟨p2,1,none⟩ (.int .i64 b1)).setCell ⟨p2,2,none⟩ (.int .i64 b2)).setCell ⟨p2,3,none⟩ (.int .i64 b3)=X:=⟨_,rfl⟩
   have X2:KX [p2] W3 W4:=by rw [← hW4];exact ((((KX.refl (S:=[p2]) W3).set (a:=⟨p2,0,none⟩) (.inl (by simp)) _).set (a:=⟨p2,1,none⟩) (.inl (by simp)) _).set (a:=⟨p2,2,none⟩) (.inl (by simp)) _).set (a:=⟨p2,3,none⟩) (.inl (by simp)) _
   replace r2:W4.heap[p2]? = some (.cells #[.int .i64 b0,.int .i64 b1,.int .i64 b2,.int .i64 b3] 160 (0,0)):=by rw [← hW4,heap_setCell_same _ p2 _ _ _ _ (heap_setCell_same _ p2 _ _ _ _ (heap_setCell_same _ p2 _ _ _ _ (heap_setCell_same _ p2 _ _ _ _ r2)))];rfl
   have K4:Kp w W4:=KX.after K3 X2 (by simp;exact lp2)
   replace r1:=X2.row r1 (by simp;omega)
   rw [hW4]
   rw [hW4] at hHeld
   clear hW4 z2_0 z2_1 z2_2 z2_3 f2 lz2
   clear hK K'
   (try simp only [Act.put,List.setIfInBounds_toArray,List.set_cons_zero,List.set_cons_succ])
   refine wpAnyH_done (by kernel_rfl) ?_ _
   refine NoPanic.normal ?_
   go_wp2_with fail
   go_meet
   exact ⟨p1,p2,rfl,rfl,r1,r2,K4⟩
 case rest =>
  obtain ⟨p1,p2,rfl,rfl,r1,r2,K⟩:=hcut
  have ea0:wc.cell? ⟨p1,0,none⟩=some (.int .i64 a0):=by rw [cell_of_row wc p1 _ _ _ _ r1];rfl
  have ea1:wc.cell? ⟨p1,1,none⟩=some (.int .i64 a1):=by rw [cell_of_row wc p1 _ _ _ _ r1];rfl
  have ea2:wc.cell? ⟨p1,2,none⟩=some (.int .i64 a2):=by rw [cell_of_row wc p1 _ _ _ _ r1];rfl
  have ea3:wc.cell? ⟨p1,3,none⟩=some (.int .i64 a3):=by rw [cell_of_row wc p1 _ _ _ _ r1];rfl
  have eb0:wc.cell? ⟨p2,0,none⟩=some (.int .i64 b0):=by rw [cell_of_row wc p2 _ _ _ _ r2];rfl
  have eb1:wc.cell? ⟨p2,1,none⟩=some (.int .i64 b1):=by rw [cell_of_row wc p2 _ _ _ _ r2];rfl
  have eb2:wc.cell? ⟨p2,2,none⟩=some (.int .i64 b2):=by rw [cell_of_row wc p2 _ _ _ _ r2];rfl
  have eb3:wc.cell? ⟨p2,3,none⟩=some (.int .i64 b3):=by rw [cell_of_row wc p2 _ _ _ _ r2];rfl
  have q2:=kp_cell K cpa
  have lq2:=cell_lt q2
  have la0:=cell_lt ea0
  have lb0:=cell_lt eb0
  clear r1 r2 ca0 ca1 ca2 ca3 cb0 cb1 cb2 cb3 cpt cpa ctl
  cases across
  all_goals
   go_wp2_with (first | (go_at_call 222;refine (sums_any _ _ _ _ (by omega) (by omega) (by omega) (by omega) _).mono ?_;rintro e w1 ⟨rfl,hk1⟩;have K1:=kp_trans K hk1) | (go_at_call 150;refine (cmpInt _ _ _).mono ?_;rintro e w2 ⟨rfl,hw2⟩;subst hw2) | (go_at_call 149;(first | (refine (or_any _ (cmpI ((a0:Int)+(a2:Int)) ((b0:Int)+(b2:Int))) (cmpI (i:Int) (j:Int)) _ ?_ ?_).mono ?_;(focus (simp [go_sem];done));(focus (simp [go_sem];done));rintro e w3 ⟨rfl,hw3⟩;subst hw3) | (refine (or_any _ (cmpI ((a1:Int)+(a3:Int)) ((b1:Int)+(b3:Int))) (cmpI (i:Int) (j:Int)) _ ?_ ?_).mono ?_;(focus (simp [go_sem];done));(focus (simp [go_sem];done));rintro e w3 ⟨rfl,hw3⟩;subst hw3))))
   go_ret
   exact ⟨⟨_,rfl⟩,(by (repeat (first | exact K1 | apply kp_alloc | apply kp_drew | apply kp_drewN)))⟩
end Go.Proofs.YtgliljnbajohhaaGreatDoor
namespace Go.Proofs.YtgliljnbajohhaaGreatDoor
open Go.RowKit Go.Proofs.Geo Go.ChangeShapes Go.WideShapes
theorem i64_of_wf {n:Int} (h:(Lit.int .i64 n).wf=true):I64 n:=by
 simp [Lit.wf,IntKind.min,IntKind.max,IntKind.signed,IntKind.bits] at h
 exact ⟨by omega,by omega⟩
def RdI (w:World) (v:Value) (l:List Int):Prop :=
 l.length≤20000000000000∧(∀ x∈l,I64 x)∧((v=.slice none 0 0∧l=[])∨∃ (ad:Addr) (cap:Nat),v=.slice (some ad) l.length cap∧∀ i,i<l.length→w.cell? (ad.add i)=some (.int .i64 (l.getD i 0)))
def IntsAt (w:World) (b off:Nat) (l:List Int):Prop:=∀ i (h:i<l.length),w.cell? ⟨b,off+i,none⟩=some (.int .i64 l[i])
theorem RdI.shape {w:World} {v:Value} {l:List Int} (h:RdI w v l):∃ a cap,v=.slice a l.length cap∧(l=[]∨∃ b off,a=some ⟨b,off,none⟩∧IntsAt w b off l):=by
 obtain ⟨h1,h2,⟨rfl,rfl⟩ | ⟨ad,cap,rfl,h⟩⟩:=h
 ·exact ⟨none,0,rfl,.inl rfl⟩
 ·refine ⟨some ad,cap,rfl,?_⟩
  by_cases e:l=[]
  ·exact .inl e
  ·obtain ⟨b,off,rfl,hh⟩:=ints_at h (by cases l with | nil=>exact absurd rfl e | cons a l=>simp)
   exact .inr ⟨b,off,rfl,fun i hi=>by have:=hh i hi;rwa [List.getD_eq_getElem?_getD,List.getElem?_eq_getElem hi] at this⟩
theorem bytesInt:Tryz.prog.bytesOf 3 = 8:=by kernel_rfl
theorem ints_arg {H:Type} {enc:TypeId×Value→H} {W:World} {spare:Nat→Bool} {held:Bool} {fuel:Nat} {a0:Option Addr} {len cap:Nat} {x:DataW H×List MemPlace}
  (h:DataW.trod enc Tryz.prog W 0 spare held fuel 22 [.slice a0 len cap]=some x) (hs:∀ el sp,x.1=.slice el sp→(el.length+sp.length) * 8≤reachBytes):∃ l:List Int,len=l.length∧RdI W (.slice a0 len cap) l:=by
 rcases open_ints Tryz.underlying22 Tryz.underlying3 (by kernel_rfl) h with ⟨hcs,_⟩ | ⟨a,len',cap',zs,hcs,_,hl,hm,hlen,hxe,hx,hwf⟩
 ·simp at hcs
  obtain ⟨rfl,rfl,rfl⟩:=hcs
  exact ⟨[],rfl,by simp,by simp,.inl ⟨rfl,rfl⟩⟩
 ·simp at hcs
  obtain ⟨rfl,rfl,rfl⟩:=hcs
  have hlz:len≤zs.length:=by rw [hlen];split <;> omega
  have hb:len≤20000000000000:=by
   have:=hs _ _ (by rw [hxe])
   simp only [lits,List.length_map,List.length_take,List.length_drop,reachBytes] at this
   omega
  refine ⟨zs.take len,by simp;omega,by simp;omega,fun n hn=>i64_of_wf (hwf n (List.mem_of_mem_take hn)),.inr ⟨a,cap,by simp;omega,fun i hi=>?_⟩⟩
  have hi':i<len:=by simp at hi;omega
  rw [hx i (by omega)]
  simp [List.getD_eq_getElem?_getD,hi']
end Go.Proofs.YtgliljnbajohhaaGreatDoor
namespace Go.Proofs.YtgliljnbajohhaaGreatDoor
open Go.RowKit Go.Proofs.Geo
theorem infoInt8:(Tryz.prog.info? 3).map (fun i=>(i.zero,i.size,i.bytes))=some (some (.int .i64 0),1,8):=by kernel_rfl
def intsV (l:List Int):List Value:=l.map (Value.int .i64)
theorem intsV_len (l:List Int):(intsV l).length=l.length:=by simp [intsV]
theorem intsV_one (l:List Int):∀ u∈intsV l,u.oneCell'=true:=by
 intro u hu;obtain ⟨x,_,rfl⟩:=List.mem_map.1 hu;rfl
def OwnI (w:World) (B:Nat) (v:Value) (l:List Int):Prop:=w.ownsRow B 3 1 v l.length (intsV l)
theorem OwnI.kp {w w':World} {B:Nat} {v:Value} {l:List Int} (h:OwnI w B v l) (k:Kp w w'):OwnI w' B v l:=by
 refine World.ownsRow.kept h (row:=none) ⟨k.os,k.tape,k.output,k.size,fun i hi _=>k.block i hi⟩ ?_
 cases v.ownBlock
 ·exact .inl rfl
 ·exact .inr (by simp)
theorem OwnI.append {w:World} {B:Nat} {v:Value} {l m:List Int} (h:w.ownsRow B 3 1 v (l.length+m.length) (intsV l++intsV m)):OwnI w B v (l++m):=by
 unfold OwnI;rw [List.length_append];simpa [intsV] using h
theorem kp_grown_ownI {W w w':World} {v:Value} {n:Nat} {xs:List Value} (h:Kp W w) (hg:w.grownBy w' v.ownBlock) (ho:w.ownsRow W.heap.size 3 1 v n xs):Kp W w' :=
 Below.grown h hg (Below.size h) fun k hk=>(World.ownsRow.lt ho k hk).1
theorem OwnI.lit (w:World) (l:List Int) (cs:Array Value) (hc:cs.toList=intsV l) (hl:l.length≤1000000):OwnI (w.alloc (.cells cs 3)) w.heap.size (.slice (some ⟨w.heap.size,0,none⟩) l.length l.length) l:=by
 refine ⟨by rw [intsV_len,Nat.mul_one],.inr ⟨w.heap.size,l.length,cs,rfl,Nat.le_refl _,heap_alloc_new w _,Nat.le_refl _,by unfold maxLen;omega,?_,?_⟩⟩
 ·rw [← Array.length_toList,hc,intsV_len,Nat.mul_one]
 ·rw [hc,List.take_of_length_le (by rw [intsV_len];omega)]
end Go.Proofs.YtgliljnbajohhaaGreatDoor
namespace Go.Proofs.YtgliljnbajohhaaGreatDoor
open Go.RowKit
section
variable {k:IntKind} {t:TypeId} {g:Nat} {L:List Int} {w w':World}
end
end Go.Proofs.YtgliljnbajohhaaGreatDoor
