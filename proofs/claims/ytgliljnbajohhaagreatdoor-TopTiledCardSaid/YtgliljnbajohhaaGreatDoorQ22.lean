import Derived.Test.YtgliljnbajohhaaGreatDoorQ21
import Derived.Test.YtgliljnbajohhaaGreatDoorQ11
set_option linter.unusedVariables false
set_option linter.unusedSimpArgs false
namespace Go.Proofs.YtgliljnbajohhaaGreatDoor
open Go.RowKit Go.Proofs.Top Go.Proofs.Geo
def InBx (x y:Bx):Prop:=y.1≤x.1∧y.2.1≤x.2.1∧x.2.2.1≤y.2.2.1∧x.2.2.2≤y.2.2.2
def bxOf (l:List Bx) (i:Int):Bx:=l.getD i.toNat (0,0,0,0)
def joinBx (x y:Bx):Bx:=(min x.1 y.1,min x.2.1 y.2.1,max x.2.2.1 y.2.2.1,max x.2.2.2 y.2.2.2)
theorem in_join_l (x y:Bx):InBx x (joinBx x y):=⟨Nat.min_le_left _ _,Nat.min_le_left _ _,Nat.le_max_left _ _,Nat.le_max_left _ _⟩
theorem in_join_r (x y:Bx):InBx y (joinBx x y):=⟨Nat.min_le_right _ _,Nat.min_le_right _ _,Nat.le_max_right _ _,Nat.le_max_right _ _⟩
theorem InBx.trans {x y z:Bx} (h:InBx x y) (k:InBx y z):InBx x z:=⟨Nat.le_trans k.1 h.1,Nat.le_trans k.2.1 h.2.1,Nat.le_trans h.2.2.1 k.2.2.1,Nat.le_trans h.2.2.2 k.2.2.2⟩
theorem InBx.refl (x:Bx):InBx x x:=⟨Nat.le_refl _,Nat.le_refl _,Nat.le_refl _,Nat.le_refl _⟩
structure TrW (tb gl go n cl co:Nat) (l:List Bx) (L:List Int) (w:World):Prop where
 tl:w.cell? ⟨tb,1,none⟩=some (.slice (some ⟨gl,0,none⟩) n cl)
 ord:w.cell? ⟨tb,2,none⟩=some (.slice (some ⟨go,0,none⟩) n co)
 b:BxAt w gl l
 r:RowT go L w
theorem TrW.kp {tb gl go n cl co:Nat} {l:List Bx} {L:List Int} {w w':World} (h:TrW tb gl go n cl co l L w) (k:Kp w w'):TrW tb gl go n cl co l L w':=⟨kp_cell k h.tl,kp_cell k h.ord,h.b.kp k,h.r.kp k⟩
set_option maxHeartbeats 8000000 in
set_option maxRecDepth 100000 in
theorem around_any (tb gl go n cl co fr m:Nat) (l:List Bx) (L:List Int) (w:World) (hw:TrW tb gl go n cl co l L w) (hln:l.length=n) (hn:n≤1000) (hL:n≤L.length) (hco:n≤co) (hm:0<m) (htn:fr+m≤n) (hpl:∀ k,k<n→∃ i:Nat,L.getD k 0=i∧i<n) :
  Calls Tryz.prog 220 #[.pointer (some ⟨tb,0,none⟩),.int .i64 fr,.int .i64 (fr+m:Nat)] w fun e w'=>∃ x:Bx,e=.returned (.agg #[.int .i64 x.1,.int .i64 x.2.1,.int .i64 x.2.2.1,.int .i64 x.2.2.2])∧(∀ k,fr≤k→k<fr+m→InBx (bxOf l (L.getD k 0)) x)∧(m=1→x=bxOf l (L.getD fr 0))∧Kp w w':=by
 obtain ⟨i0,hi0,hin⟩:=hpl fr (by omega)
 obtain ⟨⟨a0,a1,a2,a3⟩,hx⟩:∃ x,l[i0]? = some x:=⟨_,List.getElem?_eq_getElem (by omega)⟩
 have HW:=Lib.hid hw;have HPL:=Lib.hid hpl;have HLN:=Lib.hid hln
 have HBX0:Hid (bxOf l (L.getD fr 0)=(a0,a1,a2,a3)):=Lib.hid (by unfold bxOf;rw [hi0,Int.toNat_natCast,List.getD_eq_getElem?_getD,hx];rfl)
 go_enter Tryz.func220,Tryz.ntmps220
 go_upto_region 1 with fail
 obtain ⟨wb,hwb⟩:∃ X,w.alloc (.cells #[.int .i64 0,.int .i64 0,.int .i64 0,.int .i64 0] 160)=X:=⟨_,rfl⟩
 obtain ⟨pr,hpr⟩:∃ p,w.heap.size=p:=⟨_,rfl⟩
 have KB:Kp w wb:=by rw [← hwb];exact kp_alloc (kp_refl _) _
 have rr:wb.heap[pr]? = some (.cells #[.int .i64 0,.int .i64 0,.int .i64 0,.int .i64 0] 160 (0,0)):=by rw [← hwb,← hpr];exact heap_alloc_new _ _
 have hprl:w.heap.size≤pr:=by omega
 have hprs:pr<wb.heap.size:=(Array.getElem?_eq_some_iff.1 rr).1
 simp only [hwb,hpr]
 clear hwb hpr
 have HWB:=Lib.hid (HW.out.kp KB)
 obtain ⟨ca0,ca1,ca2,ca3⟩:=HWB.out.b i0 _ hx
 have ctl:=HWB.out.tl
 have cto:=HWB.out.ord
 have coo:=HWB.out.r.cell (i:=fr) (by omega)
 rw [hi0] at coo
 dsimp only at ca0 ca1 ca2 ca3
 have l1:=cell_lt ctl
 have l2:=cell_lt coo
 have l3:=cell_lt ca0
 have c1:(0:Int)≤(fr:Int):=by omega
 have c2:(fr:Int)<(n:Int):=by omega
 have c3:(0:Int)≤(i0:Int):=by omega
 have c4:(i0:Int)<(n:Int):=by omega
 clear hw hpl hln hi0 hx HW
 go_cut [7] (fun p wx=>∃ p1,p=.pointer (some ⟨p1,0,none⟩)∧wx.heap[p1]? = some (.cells #[.int .i64 a0,.int .i64 a1,.int .i64 a2,.int .i64 a3] 160 (0,0))∧Kp wb wx∧wb.heap.size≤p1)
 case first =>
  refine wp_region_noPanic ?_
  refine wp_region_held_drew (S:=fun w'=>Kp wb w') (by kernel_rfl) ?_ (fun hHeld=>?_)
  ·exact kp_drew (kp_refl _)
  obtain ⟨W0,hW0⟩:∃ W,wb.drew=W:=⟨_,rfl⟩
  have K0:Kp wb W0:=by rw [← hW0];exact kp_drew (kp_refl _)
  rw [hW0] at hHeld ⊢
  refine take_yes (i:=0) (d:=11) (v:=?_) rfl rfl (by kernel_rfl) (by kernel_rfl) (by kernel_rfl) (fun _ _ _ h=>h) (by rfl) ?_ hHeld ?_
  rotate_left
  ·intro wq hSw;(try dsimp only at hSw);go_simp;(try with_reducible rfl)
  (try simp only [Act.put,List.setIfInBounds_toArray,List.set_cons_zero,List.set_cons_succ])
  refine take_yes (i:=1) (d:=12) (v:=?_) rfl rfl (by kernel_rfl) (by kernel_rfl) (by kernel_rfl) (fun _ _ _ h=>h) (by rfl) ?_ hHeld ?_
  rotate_left
  ·intro wq hSw;(try dsimp only at hSw);go_simp;(try with_reducible rfl)
  (try simp only [Act.put,List.setIfInBounds_toArray,List.set_cons_zero,List.set_cons_succ])
  refine take_yes (i:=2) (d:=13) (v:=?_) rfl rfl (by kernel_rfl) (by kernel_rfl) (by kernel_rfl) (fun _ _ _ h=>h) (by rfl) ?_ hHeld ?_
  rotate_left
  ·intro wq hSw;(try dsimp only at hSw);go_simp;(try with_reducible rfl)
  (try simp only [Act.put,List.setIfInBounds_toArray,List.set_cons_zero,List.set_cons_succ])
  refine take_yes (i:=3) (d:=14) (v:=?_) rfl rfl (by kernel_rfl) (by kernel_rfl) (by kernel_rfl) (fun _ _ _ h=>h) (by rfl) ?_ hHeld ?_
  rotate_left
  ·intro wq hSw;(try dsimp only at hSw);have q0:=kp_cell hSw ctl;have q1:=kp_cell hSw cto;have q2:=kp_cell hSw coo;have q3:=kp_cell hSw ca0;have q4:=kp_cell hSw ca1;have q5:=kp_cell hSw ca2;have q6:=kp_cell hSw ca3;go_simp;(try with_reducible rfl)
  (try simp only [Act.put,List.setIfInBounds_toArray,List.set_cons_zero,List.set_cons_succ])
  refine take_yes (i:=4) (d:=15) (v:=?_) rfl rfl (by kernel_rfl) (by kernel_rfl) (by kernel_rfl) (fun _ _ _ h=>h) (by rfl) ?_ hHeld ?_
  rotate_left
  ·intro wq hSw;(try dsimp only at hSw);go_simp;(try with_reducible rfl)
  (try simp only [Act.put,List.setIfInBounds_toArray,List.set_cons_zero,List.set_cons_succ])
  refine take_yes (i:=5) (d:=16) (v:=?_) rfl rfl (by kernel_rfl) (by kernel_rfl) (by kernel_rfl) (fun _ _ _ h=>h) (by rfl) ?_ hHeld ?_
  rotate_left
  ·intro wq hSw;(try dsimp only at hSw);go_simp;(try with_reducible rfl)
  (try simp only [Act.put,List.setIfInBounds_toArray,List.set_cons_zero,List.set_cons_succ])
  refine take_yes (i:=6) (d:=17) (v:=?_) rfl rfl (by kernel_rfl) (by kernel_rfl) (by kernel_rfl) (fun _ _ _ h=>h) (by rfl) ?_ hHeld ?_
  rotate_left
  ·intro wq hSw;(try dsimp only at hSw);go_simp;(try with_reducible rfl)
  (try simp only [Act.put,List.setIfInBounds_toArray,List.set_cons_zero,List.set_cons_succ])
  refine take_yes (i:=7) (d:=18) (v:=?_) rfl rfl (by kernel_rfl) (by kernel_rfl) (by kernel_rfl) (fun _ _ _ h=>h) (by rfl) ?_ hHeld ?_
  rotate_left
  ·intro wq hSw;(try dsimp only at hSw);have q0:=kp_cell hSw ctl;have q1:=kp_cell hSw cto;have q2:=kp_cell hSw coo;have q3:=kp_cell hSw ca0;have q4:=kp_cell hSw ca1;have q5:=kp_cell hSw ca2;have q6:=kp_cell hSw ca3;go_simp;(try with_reducible rfl)
  (try simp only [Act.put,List.setIfInBounds_toArray,List.set_cons_zero,List.set_cons_succ])
  refine take_yes (i:=8) (d:=19) (v:=?_) rfl rfl (by kernel_rfl) (by kernel_rfl) (by kernel_rfl) (fun _ _ _ h=>h) (by rfl) ?_ hHeld ?_
  rotate_left
  ·intro wq hSw;(try dsimp only at hSw);go_simp;(try with_reducible rfl)
  (try simp only [Act.put,List.setIfInBounds_toArray,List.set_cons_zero,List.set_cons_succ])
  refine take_yes (i:=9) (d:=20) (v:=?_) rfl rfl (by kernel_rfl) (by kernel_rfl) (by kernel_rfl) (fun _ _ _ h=>h) (by rfl) ?_ hHeld ?_
  rotate_left
  ·intro wq hSw;(try dsimp only at hSw);go_simp;(try with_reducible rfl)
  (try simp only [Act.put,List.setIfInBounds_toArray,List.set_cons_zero,List.set_cons_succ])
  refine take_yes (i:=10) (d:=21) (v:=?_) rfl rfl (by kernel_rfl) (by kernel_rfl) (by kernel_rfl) (fun _ _ _ h=>h) (by rfl) ?_ hHeld ?_
  rotate_left
  ·intro wq hSw;(try dsimp only at hSw);have q0:=kp_cell hSw ctl;have q1:=kp_cell hSw cto;have q2:=kp_cell hSw coo;have q3:=kp_cell hSw ca0;have q4:=kp_cell hSw ca1;have q5:=kp_cell hSw ca2;have q6:=kp_cell hSw ca3;go_simp;(try with_reducible rfl)
  (try simp only [Act.put,List.setIfInBounds_toArray,List.set_cons_zero,List.set_cons_succ])
  refine take_yes (i:=11) (d:=22) (v:=?_) rfl rfl (by kernel_rfl) (by kernel_rfl) (by kernel_rfl) (fun _ _ _ h=>h) (by rfl) ?_ hHeld ?_
  rotate_left
  ·intro wq hSw;(try dsimp only at hSw);go_simp;(try with_reducible rfl)
  (try simp only [Act.put,List.setIfInBounds_toArray,List.set_cons_zero,List.set_cons_succ])
  refine take_yes (i:=12) (d:=23) (v:=?_) rfl rfl (by kernel_rfl) (by kernel_rfl) (by kernel_rfl) (fun _ _ _ h=>h) (by rfl) ?_ hHeld ?_
  rotate_left
  ·intro wq hSw;(try dsimp only at hSw);have q0:=kp_cell hSw ctl;have q1:=kp_cell hSw cto;have q2:=kp_cell hSw coo;have q3:=kp_cell hSw ca0;have q4:=kp_cell hSw ca1;have q5:=kp_cell hSw ca2;have q6:=kp_cell hSw ca3;go_simp;(try with_reducible rfl)
  (try simp only [Act.put,List.setIfInBounds_toArray,List.set_cons_zero,List.set_cons_succ])
  refine wpAnyH_ready (rs:=[13]) (by kernel_rfl) (by simp) ?_
  refine (AllReadyH.cons rfl (fun K' hK=>?_) AllReadyH.nil)
  go_simp
  refine hK.out _ _ ?_ (fun hHeld=>?_)
  ·exact kp_alloc K0 _
  obtain ⟨W1,hW1⟩:∃ X,W0.alloc (.cells #[.int .i64 0,.int .i64 0,.int .i64 0,.int .i64 0] 160)=X:=⟨_,rfl⟩
  obtain ⟨p1,hp1⟩:∃ p,W0.heap.size=p:=⟨_,rfl⟩
  have r1:W1.heap[p1]? = some (.cells #[.int .i64 0,.int .i64 0,.int .i64 0,.int .i64 0] 160 (0,0)):=by rw [← hW1,← hp1];exact heap_alloc_new _ _
  have f1:=fun o=>frozen_of_row W1 p1 o _ _ r1
  have K1:Kp wb W1:=kp_trans K0 (by rw [← hW1];exact kp_alloc (kp_refl _) _)
  have lp1:wb.heap.size≤p1:=by rw [← hp1];exact Below.size K0
  have z0:W1.cell? ⟨p1,0,none⟩=some (.int .i64 0):=by rw [cell_of_row W1 p1 _ _ _ _ r1];rfl
  have z1:W1.cell? ⟨p1,1,none⟩=some (.int .i64 0):=by rw [cell_of_row W1 p1 _ _ _ _ r1];rfl
  have z2:W1.cell? ⟨p1,2,none⟩=some (.int .i64 0):=by rw [cell_of_row W1 p1 _ _ _ _ r1];rfl
  have z3:W1.cell? ⟨p1,3,none⟩=some (.int .i64 0):=by rw [cell_of_row W1 p1 _ _ _ _ r1];rfl
  have lz:=cell_lt z0
  rw [hW1,hp1]
  rw [hW1] at hHeld
  clear hW1 hp1
  clear hK K'
  (try simp only [Act.put,List.setIfInBounds_toArray,List.set_cons_zero,List.set_cons_succ])
  refine wpAnyH_ready (rs:=[14]) (by kernel_rfl) (by simp) ?_
  refine (AllReadyH.cons rfl (fun K' hK=>?_) AllReadyH.nil)
  go_simp
  refine hK.out _ _ ?_ (fun hHeld=>?_)
  ·exact kp_set (kp_set (kp_set (kp_set K1 lp1 _) lp1 _) lp1 _) lp1 _
  clear hK K'
  (try simp only [Act.put,List.setIfInBounds_toArray,List.set_cons_zero,List.set_cons_succ])
  refine wpAnyH_done (by kernel_rfl) ?_ _
  refine NoPanic.normal ?_
  go_wp2_with fail
  go_meet
  refine ⟨p1,rfl,?_,hHeld,lp1⟩
  rw [heap_setCell_same _ p1 _ _ _ _ (heap_setCell_same _ p1 _ _ _ _ (heap_setCell_same _ p1 _ _ _ _ (heap_setCell_same _ p1 _ _ _ _ r1)))]
  rfl
 case rest =>
  obtain ⟨p1,rfl,r1,K1,hp1⟩:=hcut
  have d1:=kp_cell K1 ctl
  have d2:=kp_cell K1 cto
  have ld2:=cell_lt d2
  have e0:(0:Int)≤(fr:Int)+(m:Int):=by omega
  have e1:(fr:Int)≤(fr:Int)+(m:Int):=by omega
  have e2:(fr:Int)+(m:Int)≤(n:Int):=by omega
  have e3:(fr:Int)+(m:Int)≤(co:Int):=by omega
  have e4:((fr:Int)+(m:Int)).toNat - fr=m:=by omega
  have e5:((fr:Int)+(m:Int) - (fr:Int)).toNat=m:=by omega
  have e6:fr+m - fr=m:=by omega
  clear coo ca0 ca1 ca2 ca3 l1 l2 l3
  go_wp2_with fail
  go_loopw [32] (fun i wr=>∃ (k:Nat) (x:Bx),k≤m∧i=.int .i64 k∧wr.heap[p1]? = some (.cells #[.int .i64 x.1,.int .i64 x.2.1,.int .i64 x.2.2.1,.int .i64 x.2.2.2] 160 (0,0))∧InBx (a0,a1,a2,a3) x∧(∀ j,fr≤j→j<fr+k→InBx (bxOf l (L.getD j 0)) x)∧(k≤1→x=(a0,a1,a2,a3))∧KX [p1] wc wr) (fun i _=>m - (intOf i).toNat)
  case atStart=>exact ⟨0,(a0,a1,a2,a3),by omega,rfl,r1,InBx.refl _,fun j h1 h2=>by omega,fun _=>rfl,KX.refl _⟩
  case round =>
   obtain ⟨k,⟨x0,x1,x2,x3⟩,hk,rfl,hrow,hin0,hall,hone,hkx⟩:=hrel
   have HONE:=Lib.hid hone
   clear hone
   dsimp only at hrow
   have z0:wr.cell? ⟨p1,0,none⟩=some (.int .i64 x0):=by rw [cell_of_row wr p1 _ _ _ _ hrow];rfl
   have z1:wr.cell? ⟨p1,1,none⟩=some (.int .i64 x1):=by rw [cell_of_row wr p1 _ _ _ _ hrow];rfl
   have z2:wr.cell? ⟨p1,2,none⟩=some (.int .i64 x2):=by rw [cell_of_row wr p1 _ _ _ _ hrow];rfl
   have z3:wr.cell? ⟨p1,3,none⟩=some (.int .i64 x3):=by rw [cell_of_row wr p1 _ _ _ _ hrow];rfl
   have zf:=fun o=>frozen_of_row wr p1 o _ _ hrow
   have lz:p1<wr.heap.size:=cell_lt z0
   have HIN:=Lib.hid hin0;have HALL:=Lib.hid hall;have HX:=Lib.hid hkx;have HROW:=Lib.hid hrow
   clear hin0 hall hkx hrow
   by_cases hlt:k<m
   ·obtain ⟨i1,hi1,hin1⟩:=HPL.out (fr+k) (by omega)
    obtain ⟨⟨b0,b1,b2,b3⟩,hy⟩:∃ x,l[i1]? = some x:=⟨_,List.getElem?_eq_getElem (by rw [HLN.out];omega)⟩
    have HBX:Hid (bxOf l (L.getD (fr+k) 0)=(b0,b1,b2,b3)):=Lib.hid (by unfold bxOf;rw [hi1,Int.toNat_natCast,List.getD_eq_getElem?_getD,hy];rfl)
    have HWC:=HWB.out.kp K1
    have hn1:∀ b,b<wb.heap.size→b∉[p1]:=fun b hb=>by simp;omega
    have g0:=HX.out.cell (HWC.r.cell (i:=fr+k) (by omega)) (hn1 _ (cell_lt (HWB.out.r.cell (i:=fr+k) (by omega))))
    rw [hi1] at g0
    have hgl:=cell_lt ((HWB.out.b i1 _ hy).1)
    obtain ⟨cb0,cb1,cb2,cb3⟩:=HWC.b i1 _ hy
    dsimp only at cb0 cb1 cb2 cb3
    have y0:=HX.out.cell cb0 (hn1 _ hgl)
    have y1:=HX.out.cell cb1 (hn1 _ hgl)
    have y2:=HX.out.cell cb2 (hn1 _ hgl)
    have y3:=HX.out.cell cb3 (hn1 _ hgl)
    have dtl:=HX.out.cell d1 (hn1 _ (cell_lt ctl))
    have ly:=cell_lt y0
    have lg:=cell_lt g0
    have ldl:=cell_lt dtl
    have c5:(0:Int)≤(k:Int):=by omega
    have c6:(k:Int)<(m:Int):=by omega
    have c7:(0:Int)≤(i1:Int):=by omega
    have c8:(i1:Int)<(n:Int):=by omega
    have wi:IntKind.i64.wrap ((k:Int)+1)=(k:Int)+1:=IntWalk.i64_in _ (by omega)
    clear cb0 cb1 cb2 cb3 hi1 hy HWC hn1 d1 d2 ctl cto
    go_wp2_with fail
    have R4:=heap_setCell_same _ p1 3 _ _ (.int .i64 (max (x3:Int) (b3:Int))) (heap_setCell_same _ p1 2 _ _ (.int .i64 (max (x2:Int) (b2:Int))) (heap_setCell_same _ p1 1 _ _ (.int .i64 (min (x1:Int) (b1:Int))) (heap_setCell_same wr p1 0 _ _ (.int .i64 (min (x0:Int) (b0:Int))) HROW.out)))
    have X4:=((((KX.refl (S:=[p1]) wr).set (a:=⟨p1,0,none⟩) (.inl (by simp)) (.int .i64 (min (x0:Int) (b0:Int)))).set (a:=⟨p1,1,none⟩) (.inl (by simp)) (.int .i64 (min (x1:Int) (b1:Int)))).set (a:=⟨p1,2,none⟩) (.inl (by simp)) (.int .i64 (max (x2:Int) (b2:Int)))).set (a:=⟨p1,3,none⟩) (.inl (by simp)) (.int .i64 (max (x3:Int) (b3:Int)))
    have m0:((min x0 b0:Nat):Int)=min (x0:Int) (b0:Int):=by omega
    have m1:((min x1 b1:Nat):Int)=min (x1:Int) (b1:Int):=by omega
    have m2:((max x2 b2:Nat):Int)=max (x2:Int) (b2:Int):=by omega
    have m3:((max x3 b3:Nat):Int)=max (x3:Int) (b3:Int):=by omega
    refine ⟨⟨k+1,joinBx (x0,x1,x2,x3) (b0,b1,b2,b3),by omega,by go_num,?_,HIN.out.trans (in_join_l _ _),?_,?_,(HX.out.then X4).kp (kp_alloc (kp_refl _) _)⟩,by simp [intOf];omega⟩
    ·have hk:=kp_alloc (kp_refl ((((wr.setCell ⟨p1,0,none⟩ (.int .i64 (min (x0:Int) (b0:Int)))).setCell ⟨p1,1,none⟩ (.int .i64 (min (x1:Int) (b1:Int)))).setCell ⟨p1,2,none⟩ (.int .i64 (max (x2:Int) (b2:Int)))).setCell ⟨p1,3,none⟩ (.int .i64 (max (x3:Int) (b3:Int))))) (.cells #[.int .i64 b0,.int .i64 b1,.int .i64 b2,.int .i64 b3] 160)
     rw [hk.block p1 (Array.getElem?_eq_some_iff.1 R4).1,R4]
     unfold joinBx
     dsimp only
     rw [m0,m1,m2,m3]
     rfl
    ·intro j h1 h2
     by_cases hj:j=fr+k
     ·subst hj
      rw [HBX.out]
      exact in_join_r _ _
     ·exact (HALL.out j h1 (by omega)).trans (in_join_l _ _)
    ·intro hk1
     have hk0:k=0:=by omega
     subst hk0
     have hx:=HONE.out (by omega)
     have hb:=HBX.out.symm.trans HBX0.out
     rw [hx,hb]
     simp [joinBx]
   ·obtain rfl:k=m:=by omega
    have r2:=HX.out.row (K1.block pr hprs |>.trans rr) (by simp;omega)
    have t0:wr.cell? ⟨pr,0,none⟩=some (.int .i64 0):=by rw [cell_of_row wr pr _ _ _ _ r2];rfl
    have t1:wr.cell? ⟨pr,1,none⟩=some (.int .i64 0):=by rw [cell_of_row wr pr _ _ _ _ r2];rfl
    have t2:wr.cell? ⟨pr,2,none⟩=some (.int .i64 0):=by rw [cell_of_row wr pr _ _ _ _ r2];rfl
    have t3:wr.cell? ⟨pr,3,none⟩=some (.int .i64 0):=by rw [cell_of_row wr pr _ _ _ _ r2];rfl
    have tf:=fun o=>frozen_of_row wr pr o _ _ r2
    have lt0:=cell_lt t0
    have HR2:=Lib.hid r2
    have KX2:Kp w wr:=KX.after (kp_trans KB K1) HX.out (by simp;omega)
    have HKK:=Lib.hid KX2
    clear r2 r1 KX2
    go_wp2_with fail
    have R4:=heap_setCell_same _ pr 3 _ _ (.int .i64 x3) (heap_setCell_same _ pr 2 _ _ (.int .i64 x2) (heap_setCell_same _ pr 1 _ _ (.int .i64 x1) (heap_setCell_same wr pr 0 _ _ (.int .i64 x0) HR2.out)))
    refine bodyPost_ret (v:=.agg #[.int .i64 x0,.int .i64 x1,.int .i64 x2,.int .i64 x3]) ?_ rfl ?_
    ·simp [results,Tryz.results220,go_sem,cell_of_row _ pr _ _ _ _ R4]
    ·refine ⟨x0,x1,x2,x3,rfl,HALL.out,(fun h1=>(HONE.out (by omega)).trans HBX0.out.symm),kp_set (kp_set (kp_set (kp_set HKK.out ?_ _) ?_ _) ?_ _) ?_ _⟩ <;> exact hprl
theorem ownsRow_set {w:World} {B:Nat} {e:TypeId} {size n:Nat} {v:Value} {xs:List Value} (h:w.ownsRow B e size v n xs) {g j:Nat} (hg:v.ownBlock=some g) (hj:j<n * size) (u:Value):(w.setCell ⟨g,j,none⟩ u).ownsRow B e size v n (xs.set j u):=by
 obtain ⟨h1,⟨hv,hn⟩ | ⟨g',cap,cur,hv,hb,hh,hc,hm,hs,ht⟩⟩:=h
 ·rw [hv] at hg;cases hg
 ·rw [hv] at hg
  simp only [Value.ownBlock,Option.some.injEq] at hg
  subst hg
  refine ⟨by rw [List.length_set];exact h1,.inr ⟨g',cap,cur.setIfInBounds j u,hv,hb,heap_setCell_same w g' j cur e u hh,hc,hm,by simpa using hs,?_⟩⟩
  rw [Array.toList_setIfInBounds,List.take_set,ht]
def NodeAt (xs:List Value) (k:Nat) (f t:Nat) (x:Bx):Prop:=xs[k * 6]? = some (.int .i64 f)∧xs[k * 6+1]? = some (.int .i64 t)∧xs[k * 6+2]? = some (.int .i64 x.1)∧xs[k * 6+3]? = some (.int .i64 x.2.1)∧xs[k * 6+4]? = some (.int .i64 x.2.2.1)∧xs[k * 6+5]? = some (.int .i64 x.2.2.2)
def SameN (xs ys:List Value) (k:Nat):Prop:=∀ c,c<6→ys[k * 6+c]? = xs[k * 6+c]?
theorem SameN.trans {xs ys zs:List Value} {k:Nat} (h:SameN xs ys k) (h':SameN ys zs k):SameN xs zs k:=fun c hc=>(h' c hc).trans (h c hc)
theorem NodeAt.same {xs ys:List Value} {k f t:Nat} {x:Bx} (h:NodeAt xs k f t x) (s:SameN xs ys k):NodeAt ys k f t x :=
 ⟨(s 0 (by omega)).trans h.1,(s 1 (by omega)).trans h.2.1,(s 2 (by omega)).trans h.2.2.1,(s 3 (by omega)).trans h.2.2.2.1,(s 4 (by omega)).trans h.2.2.2.2.1,(s 5 (by omega)).trans h.2.2.2.2.2⟩
def setNode (xs:List Value) (k f t:Nat) (x:Bx):List Value:=((((((xs.set (k * 6) (.int .i64 f)).set (k * 6+1) (.int .i64 t)).set (k * 6+2) (.int .i64 x.1)).set (k * 6+3) (.int .i64 x.2.1)).set (k * 6+4) (.int .i64 x.2.2.1)).set (k * 6+5) (.int .i64 x.2.2.2))
theorem setNode_at (xs:List Value) (k f t:Nat) (x:Bx) (h:k * 6+5<xs.length):NodeAt (setNode xs k f t x) k f t x:=by
 unfold setNode NodeAt
 have l0:k * 6<xs.length:=by omega
 have l1:k * 6+1<xs.length:=by omega
 have l2:k * 6+2<xs.length:=by omega
 have l3:k * 6+3<xs.length:=by omega
 have l4:k * 6+4<xs.length:=by omega
 refine ⟨?_,?_,?_,?_,?_,?_⟩ <;> simp [List.getElem?_set,l0,l1,l2,l3,l4,h]
theorem setNode_same (xs:List Value) (k f t:Nat) (x:Bx) (j:Nat) (h:j≠k):SameN xs (setNode xs k f t x) j:=by
 intro c hc
 unfold setNode
 simp only [List.getElem?_set,List.length_set]
 repeat' split
 all_goals first | rfl | omega
inductive Desc:Nat→Nat→Prop
 | self (i:Nat):Desc i i
 | left {i k:Nat}:Desc (2 * i+1) k→Desc i k
 | right {i k:Nat}:Desc (2 * i+2) k→Desc i k
theorem Desc.ge {i k:Nat} (h:Desc i k):i≤k:=by
 induction h with
 | self i=>exact Nat.le_refl _
 | left _ ih=>omega
 | right _ ih=>omega
def parN (k:Nat):Nat:=(k - 1) / 2
theorem Desc.up {i k:Nat} (h:Desc i k):k=i∨(i<k∧Desc i (parN k)):=by
 induction h with
 | self i=>exact .inl rfl
 | @left i k h ih =>
  right
  have:=h.ge
  refine ⟨by omega,?_⟩
  rcases ih with rfl | ⟨h1,h2⟩
  ·have:parN (2 * i+1)=i:=by unfold parN;omega
   rw [this];exact .self _
  ·exact .left h2
 | @right i k h ih =>
  right
  have:=h.ge
  refine ⟨by omega,?_⟩
  rcases ih with rfl | ⟨h1,h2⟩
  ·have:parN (2 * i+2)=i:=by unfold parN;omega
   rw [this];exact .self _
  ·exact .right h2
theorem Desc.apart {i:Nat}:∀ k,Desc (2 * i+1) k→¬ Desc (2 * i+2) k:=by
 intro k
 induction k using Nat.strongRecOn with
 | ind k ih =>
  intro h1 h2
  rcases h1.up with e1 | ⟨l1,d1⟩ <;> rcases h2.up with e2 | ⟨l2,d2⟩
  ·omega
  ·have:=h2.ge;omega
  ·subst e2
   have h3:parN (2 * i+2)=i:=by unfold parN;omega
   rw [h3] at d1
   have:=d1.ge
   omega
  ·exact ih (parN k) (by unfold parN;omega) d1 d2
theorem Desc.left_ne {i k:Nat} (h:Desc (2 * i+1) k):k≠i:=by have:=h.ge;omega
theorem Desc.right_ne {i k:Nat} (h:Desc (2 * i+2) k):k≠i:=by have:=h.ge;omega
inductive Cov (l:List Bx) (L:List Int) (xs:List Value):Nat→Nat→Nat→Prop
 | leaf {i fr:Nat}:NodeAt xs i fr (fr+1) (bxOf l (L.getD fr 0))→Cov l L xs i fr 1
 | node {i fr m:Nat} {x:Bx}:2≤m→NodeAt xs i fr (fr+m) x→(∀ k,fr≤k→k<fr+m→InBx (bxOf l (L.getD k 0)) x)→Cov l L xs (2 * i+1) fr ((m+1) / 2)→Cov l L xs (2 * i+2) (fr+(m+1) / 2) (m / 2)→Cov l L xs i fr m
theorem Cov.keep {l:List Bx} {L L':List Int} {xs ys:List Value} {i fr m:Nat} (h:Cov l L xs i fr m) (hn:∀ k,Desc i k→k * 6<xs.length→SameN xs ys k) (hL:∀ k,fr≤k→k<fr+m→L'.getD k 0=L.getD k 0):Cov l L' ys i fr m:=by
 induction h with
 | leaf h1=>exact .leaf (by rw [hL _ (Nat.le_refl _) (by omega)];exact h1.same (hn _ (.self _) (List.getElem?_eq_some_iff.1 h1.1).1))
 | @node i fr m x hm h1 h2 hl hr ihl ihr =>
  refine .node hm (h1.same (hn _ (.self _) (List.getElem?_eq_some_iff.1 h1.1).1)) (fun k a b=>by rw [hL k a b];exact h2 k a b) (ihl (fun k d=>hn k (.left d)) (fun k a b=>hL k a (by omega))) (ihr (fun k d=>hn k (.right d)) (fun k a b=>hL k (by omega) (by omega)))
end Go.Proofs.YtgliljnbajohhaaGreatDoor
namespace Go.Proofs.Top
def PermAt (L L':List Int) (fr m:Nat):Prop:=∃ P M M' S,L=P++M++S∧L'=P++M'++S∧P.length=fr∧M.length=m∧M'.Perm M
theorem PermAt.refl (L:List Int) (fr m:Nat) (h:fr+m≤L.length):PermAt L L fr m :=
 ⟨L.take fr,(L.drop fr).take m,(L.drop fr).take m,(L.drop fr).drop m,by rw [List.append_assoc,List.take_append_drop,List.take_append_drop],by rw [List.append_assoc,List.take_append_drop,List.take_append_drop],by simp;omega,by simp;omega,List.Perm.refl _⟩
theorem PermAt.len {L L':List Int} {fr m:Nat} (h:PermAt L L' fr m):L'.length=L.length:=by
 obtain ⟨P,M,M',S,rfl,rfl,h1,h2,hp⟩:=h
 simp [hp.length_eq]
theorem PermAt.trans {L L' L'':List Int} {fr m:Nat} (h:PermAt L L' fr m) (k:PermAt L' L'' fr m):PermAt L L'' fr m:=by
 obtain ⟨P,M,M',S,rfl,rfl,h1,h2,hp⟩:=h
 obtain ⟨P2,M2,M2',S2,e,rfl,k1,k2,kp⟩:=k
 rw [List.append_assoc,List.append_assoc] at e
 obtain ⟨rfl,e2⟩:=List.append_inj e (by omega)
 obtain ⟨rfl,rfl⟩:=List.append_inj e2 (by rw [hp.length_eq];omega)
 exact ⟨P,M,M2',S,rfl,rfl,h1,h2,kp.trans hp⟩
theorem PermAt.wide {L L':List Int} {fr m fr' m':Nat} (h:PermAt L L' fr' m') (h1:fr≤fr') (h2:fr'+m'≤fr+m) (h3:fr+m≤L.length):PermAt L L' fr m:=by
 obtain ⟨P,M,M',S,rfl,rfl,e1,e2,hp⟩:=h
 simp only [List.length_append] at h3
 refine ⟨P.take fr,P.drop fr++M++S.take (fr+m - (fr'+m')),P.drop fr++M'++S.take (fr+m - (fr'+m')),S.drop (fr+m - (fr'+m')),?_,?_,by simp;omega,by simp;omega,?_⟩
 ·conv=>lhs;rw [← List.take_append_drop fr P,← List.take_append_drop (fr+m - (fr'+m')) S]
  simp only [List.append_assoc]
 ·conv=>lhs;rw [← List.take_append_drop fr P,← List.take_append_drop (fr+m - (fr'+m')) S]
  simp only [List.append_assoc]
 ·exact List.Perm.append_right _ (List.Perm.append_left _ hp)
theorem PermAt.out {L L':List Int} {fr m:Nat} (h:PermAt L L' fr m) (k:Nat) (hk:k<fr∨fr+m≤k):L'.getD k 0=L.getD k 0:=by
 obtain ⟨P,M,M',S,rfl,rfl,h1,h2,hp⟩:=h
 simp only [List.getD_eq_getElem?_getD,List.append_assoc]
 rcases hk with hk | hk
 ·rw [List.getElem?_append_left (by omega),List.getElem?_append_left (by omega)]
 ·have hl:=hp.length_eq
  rw [List.getElem?_append_right (show P.length≤k by omega),List.getElem?_append_right (show M'.length≤k - P.length by omega),List.getElem?_append_right (show P.length≤k by omega),List.getElem?_append_right (show M.length≤k - P.length by omega),hl]
theorem PermAt.all {L L':List Int} {fr m:Nat} {Q:Int→Prop} (h:PermAt L L' fr m) (hQ:∀ k,fr≤k→k<fr+m→Q (L.getD k 0)):∀ k,fr≤k→k<fr+m→Q (L'.getD k 0):=by
 obtain ⟨P,M,M',S,rfl,rfl,h1,h2,hp⟩:=h
 have hm:∀ x∈M,Q x:=by
  intro x hx
  obtain ⟨j,hj,e⟩:=List.mem_iff_getElem.1 hx
  have h:=hQ (fr+j) (by omega) (by omega)
  rw [List.getD_eq_getElem?_getD,List.append_assoc,List.getElem?_append_right (by omega),List.getElem?_append_left (by omega),show fr+j - P.length=j by omega,List.getElem?_eq_getElem hj,e] at h
  exact h
 intro k a b
 have hl:=hp.length_eq
 have hj:k - P.length<M'.length:=by omega
 rw [List.getD_eq_getElem?_getD,List.append_assoc,List.getElem?_append_right (by omega),List.getElem?_append_left hj,List.getElem?_eq_getElem hj]
 exact hm _ (hp.mem_iff.1 (List.getElem_mem hj))
end Go.Proofs.Top
