import Derived.Test.YtgliljnbajohhaaGreatDoorQ00
set_option linter.unusedVariables false
set_option linter.unusedSimpArgs false
namespace Go.Proofs.YtgliljnbajohhaaGreatDoor
open Go.RowKit Go.Proofs.Geo
def BX (w1 wr:World) (v0 v1 v2 v3:Int):Prop :=
 Kp w1 wr∧(wr.cell? ⟨w1.heap.size,0,none⟩=some (.int .i64 v0)∧wr.cell? ⟨w1.heap.size,1,none⟩=some (.int .i64 v1)∧wr.cell? ⟨w1.heap.size,2,none⟩=some (.int .i64 v2)∧wr.cell? ⟨w1.heap.size,3,none⟩=some (.int .i64 v3)) ∧
  (wr.frozen? ⟨w1.heap.size,0,none⟩=false∧wr.frozen? ⟨w1.heap.size,1,none⟩=false∧wr.frozen? ⟨w1.heap.size,2,none⟩=false∧wr.frozen? ⟨w1.heap.size,3,none⟩=false)
theorem BX.alloc {w1 wr:World} {v0 v1 v2 v3:Int} (h:BX w1 wr v0 v1 v2 v3) (o:Obj):BX w1 (wr.alloc o) v0 v1 v2 v3:=by
 obtain ⟨k,⟨c0,c1,c2,c3⟩,f0,f1,f2,f3⟩:=h
 exact ⟨kp_alloc k o,⟨cell_a c0 o,cell_a c1 o,cell_a c2 o,cell_a c3 o⟩,froz_a c0 f0 o,froz_a c1 f1 o,froz_a c2 f2 o,froz_a c3 f3 o⟩
theorem BX.drew {w1 wr:World} {v0 v1 v2 v3:Int} (h:BX w1 wr v0 v1 v2 v3):BX w1 wr.drew v0 v1 v2 v3:=by
 obtain ⟨k,c,f⟩:=h
 exact ⟨kp_drew k,c,f⟩
theorem BX.set0 {w1 wr:World} {v0 v1 v2 v3:Int} (h:BX w1 wr v0 v1 v2 v3) (u:Int):BX w1 (wr.setCell ⟨w1.heap.size,0,none⟩ (.int .i64 u)) u v1 v2 v3:=by
 obtain ⟨k,⟨c0,c1,c2,c3⟩,f0,f1,f2,f3⟩:=h
 exact ⟨kp_set k (by simp) _,⟨by simp [go_sem,c0],by simp [go_sem,c1],by simp [go_sem,c2],by simp [go_sem,c3]⟩,by simp [f0],by simp [f1],by simp [f2],by simp [f3]⟩
theorem BX.set1 {w1 wr:World} {v0 v1 v2 v3:Int} (h:BX w1 wr v0 v1 v2 v3) (u:Int):BX w1 (wr.setCell ⟨w1.heap.size,1,none⟩ (.int .i64 u)) v0 u v2 v3:=by
 obtain ⟨k,⟨c0,c1,c2,c3⟩,f0,f1,f2,f3⟩:=h
 exact ⟨kp_set k (by simp) _,⟨by simp [go_sem,c0],by simp [go_sem,c1],by simp [go_sem,c2],by simp [go_sem,c3]⟩,by simp [f0],by simp [f1],by simp [f2],by simp [f3]⟩
theorem BX.set2 {w1 wr:World} {v0 v1 v2 v3:Int} (h:BX w1 wr v0 v1 v2 v3) (u:Int):BX w1 (wr.setCell ⟨w1.heap.size,2,none⟩ (.int .i64 u)) v0 v1 u v3:=by
 obtain ⟨k,⟨c0,c1,c2,c3⟩,f0,f1,f2,f3⟩:=h
 exact ⟨kp_set k (by simp) _,⟨by simp [go_sem,c0],by simp [go_sem,c1],by simp [go_sem,c2],by simp [go_sem,c3]⟩,by simp [f0],by simp [f1],by simp [f2],by simp [f3]⟩
theorem BX.set3 {w1 wr:World} {v0 v1 v2 v3:Int} (h:BX w1 wr v0 v1 v2 v3) (u:Int):BX w1 (wr.setCell ⟨w1.heap.size,3,none⟩ (.int .i64 u)) v0 v1 v2 u:=by
 obtain ⟨k,⟨c0,c1,c2,c3⟩,f0,f1,f2,f3⟩:=h
 exact ⟨kp_set k (by simp) _,⟨by simp [go_sem,c0],by simp [go_sem,c1],by simp [go_sem,c2],by simp [go_sem,c3]⟩,by simp [f0],by simp [f1],by simp [f2],by simp [f3]⟩
def MinSt (N x:Int) (s:Value) (f:Int→Prop):Prop:=∃ n,n=min N x∧s=.int .i64 n∧f n
def bxAt (a:Pt) (l:List Pt) (k:Nat):Int×Int×Int×Int :=
 if k=0 then (a.1,a.2,a.1,a.2) else if k=1 then (mnC Prod.fst a.1 l,a.2,mxC Prod.fst a.1 l+1,a.2) else (mnC Prod.fst a.1 l,mnC Prod.snd a.2 l,mxC Prod.fst a.1 l+1,mxC Prod.snd a.2 l+1)
set_option maxHeartbeats 8000000 in
set_option maxRecDepth 100000 in
theorem bounds_good (b off cap:Nat) (a:Pt) (m:List Pt) (w:World) (hl:(a :: m).length≤10000000000000) (h:PtsAt w b off (a :: m)) (hb:(a :: m).all okP=true) :
  Calls Tryz.prog 137 #[.slice (some ⟨b,off,none⟩) (a :: m).length cap] w (BndEnd w (a :: m)):=by
 obtain ⟨len,hlen⟩:∃ len,(a :: m).length=len:=⟨_,rfl⟩
 have HV:=Lib.hid (fun W (k:Kp w W)=>valids_any b off cap (a :: m) W hl (h.kp k))
 rw [hlen,hb] at HV
 have HP:=Lib.hid h
 have HB:=Lib.hid hb
 have hpos:0<len:=by rw [← hlen];simp
 rw [hlen] at hl ⊢
 have HL:=Lib.hid hlen
 have h0:=h 0 (by simp)
 simp only [List.getElem_cons_zero,Nat.zero_mul,Nat.add_zero] at h0
 obtain ⟨q0,q1⟩:=h0
 have HQ0:=Lib.hid q0
 have HQ1:=Lib.hid q1
 clear hlen h hb q0 q1
 have e1:(len == 0)=false:=beq_eq_false_iff_ne.2 (by omega)
 have e2:((len:Int) == 0)=false:=beq_eq_false_iff_ne.2 (by omega)
 go_enter Tryz.func137,Tryz.ntmps137
 go_upto_region 3 with (go_at_call 217;refine (HV.out _ (kp_alloc (kp_refl _) _)).mono ?_;rintro e w1 ⟨rfl,hk⟩;have HK:=Lib.hid (kp_trans (kp_alloc (kp_refl _) _) hk);have d0:w1.cell? ⟨w.heap.size,0,none⟩=some (.int .i64 0):=kp_cell hk (by simp [go_sem]);have d1:w1.cell? ⟨w.heap.size,1,none⟩=some (.int .i64 0):=kp_cell hk (by simp [go_sem]);have d2:w1.cell? ⟨w.heap.size,2,none⟩=some (.int .i64 0):=kp_cell hk (by simp [go_sem]);have d3:w1.cell? ⟨w.heap.size,3,none⟩=some (.int .i64 0):=kp_cell hk (by simp [go_sem]);have z0:w1.frozen? ⟨w.heap.size,0,none⟩=false:=kp_froz (v:=.int .i64 0) hk (by simp [go_sem]) (by simp [go_sem]);have z1:w1.frozen? ⟨w.heap.size,1,none⟩=false:=kp_froz (v:=.int .i64 0) hk (by simp [go_sem]) (by simp [go_sem]);have z2:w1.frozen? ⟨w.heap.size,2,none⟩=false:=kp_froz (v:=.int .i64 0) hk (by simp [go_sem]) (by simp [go_sem]);have z3:w1.frozen? ⟨w.heap.size,3,none⟩=false:=kp_froz (v:=.int .i64 0) hk (by simp [go_sem]) (by simp [go_sem]);have q0:=kp_cell HK.out HQ0.out;have q1:=kp_cell HK.out HQ1.out;have hbz:b<w1.heap.size:=cell_lt q0;have hwz:w.heap.size<w1.heap.size:=cell_lt d0;clear hk)
 go_region
 have hbx:BX w1 (w1.alloc (.cells #[.int .i64 a.1,.int .i64 a.2,.int .i64 a.1,.int .i64 a.2] 160)).drew a.1 a.2 a.1 a.2 :=
  ⟨kp_drew (kp_alloc (kp_refl _) _),⟨by simp [go_sem],by simp [go_sem],by simp [go_sem],by simp [go_sem]⟩,by simp,by simp,by simp,by simp⟩
 have HX:=Lib.hid hbx
 clear hbx
 have i0:∀ w,(Instr.index 376 (.agg #[.func (.func 218) #[.int .i64 0] #[],.func (.func 218) #[.int .i64 1] #[]]) (.int .i64 0)).run Tryz.prog w=.ok (.func (.func 218) #[.int .i64 0] #[]) w:=fun _=>by kernel_rfl
 have i1:∀ w,(Instr.index 376 (.agg #[.func (.func 218) #[.int .i64 0] #[],.func (.func 218) #[.int .i64 1] #[]]) (.int .i64 1)).run Tryz.prog w=.ok (.func (.func 218) #[.int .i64 1] #[]) w:=fun _=>by kernel_rfl
 go_wp2_with fail
 go_loopw [28] (fun i wr=>∃ k:Nat,k≤2∧i=.int .i64 k∧BX w1 wr (bxAt a (a :: m) k).1 (bxAt a (a :: m) k).2.1 (bxAt a (a :: m) k).2.2.1 (bxAt a (a :: m) k).2.2.2) (fun i _=>2 - (intOf i).toNat)
 case atStart=>exact ⟨0,by omega,rfl,HX.out⟩
 case round =>
  obtain ⟨k,hk,rfl,hx⟩:=hrel
  have hk':k=0∨k=1∨k=2:=by omega
  rcases hk' with rfl | rfl | rfl
  ·have HX1:=Lib.hid hx
   clear hx
   go_wp2_with fail
   go_loopw [33] (fun i wx=>∃ j:Nat,j≤len∧i=.int .i64 j∧BX w1 wx (mnC Prod.fst a.1 ((a :: m).take j)) a.2 (mxC Prod.fst a.1 ((a :: m).take j)) a.2) (fun i _=>len - (intOf i).toNat)
   case atStart=>exact ⟨0,by omega,rfl,HX1.out⟩
   case round =>
    obtain ⟨j,hj,rfl,hx⟩:=hrel
    by_cases hlt:j<len
    ·have HX2:=Lib.hid hx
     obtain ⟨kx,⟨x0,x1,x2,x3⟩,f0,f1,f2,f3⟩:=hx
     have hz1:w1.heap.size<wr.heap.size:=cell_lt x0
     have HKX:=Lib.hid kx
     clear kx
     have hjl:j<(a :: m).length:=by rw [HL.out];exact hlt
     obtain ⟨p0,p1⟩:=((HP.out.kp HK.out).kp HKX.out) j hjl
     have hsn:=mnC_snoc Prod.fst a.1 ((a :: m).take j) ((a :: m)[j])
     have hsx:=mxC_snoc Prod.fst a.1 ((a :: m).take j) ((a :: m)[j])
     rw [← List.take_succ_eq_append_getElem hjl] at hsn hsx
     generalize (a :: m)[j]=p at p0 p1 hsn hsx
     obtain ⟨px,py⟩:=p
     dsimp only at p0 p1 hsn hsx
     have HSN:=Lib.hid hsn;have HSX:=Lib.hid hsx
     clear hsn hsx hjl
     generalize hmn:mnC Prod.fst a.1 ((a :: m).take j)=N at *
     generalize hmx:mxC Prod.fst a.1 ((a :: m).take j)=X at *
     clear hmn hmx
     go_upto_region 10 with fail
     go_cut [49] (fun s wx=>MinSt N px s (fun n=>BX w1 wx n a.2 X a.2∧(wx.cell? ⟨wr.heap.size,0,none⟩=some (.int .i64 px)∧wx.cell? ⟨wr.heap.size,1,none⟩=some (.int .i64 py))))
     case first =>
      go_region_with (go_at_call 218;refine (axis_x _ _ _).mono ?_;rintro e w' ⟨rfl,rfl⟩)
      all_goals go_wp2_with fail
      all_goals go_meet
      all_goals exact ⟨_,by omega,rfl,((HX2.out.set0 _).alloc _).drew,by simp [go_sem],by simp [go_sem]⟩
     case rest =>
      obtain ⟨N',hmn,rfl,hx3,r0,r1⟩:=hcut
      have HMN:=Lib.hid hmn.symm;clear hmn
      have HX3:=Lib.hid hx3
      obtain ⟨kx,⟨x0,x1,x2,x3⟩,f0,f1,f2,f3⟩:=hx3
      have hz1:w1.heap.size<wc.heap.size:=cell_lt x0
      have hz2:wr.heap.size<wc.heap.size:=cell_lt r0
      clear kx
      go_upto_region 11 with fail
      go_region_with (go_at_call 218;refine (axis_x _ _ _).mono ?_;rintro e w' ⟨rfl,rfl⟩)
      all_goals go_wp2_with fail
      all_goals
       go_roundw
       case rel=>first | (exact ⟨j+1,by omega,by go_num,by rw [HSN.out,HSX.out,HMN.out,show max X px=px by omega];exact (HX3.out.set2 _).drew⟩) | (exact ⟨j+1,by omega,by go_num,by rw [HSN.out,HSX.out,HMN.out,show max X px=X by omega];exact (HX3.out.set2 _).drew⟩)
       case measure=>simp [intOf];omega
    ·have hje:j=len:=by omega
     have HX5:Hid (BX w1 wr (mnC Prod.fst a.1 (a :: m)) a.2 (mxC Prod.fst a.1 (a :: m)) a.2):=by
      rw [hje,List.take_of_length_le (by rw [HL.out];omega)] at hx;exact Lib.hid hx
     clear hx hje
     have hr:-1099511627775≤mxC Prod.fst a.1 (a :: m)∧mxC Prod.fst a.1 (a :: m)≤1099511627775:=mxC_range ((bnd_ok_range HB.out (p:=a) (by simp)).1) (fun p hp=>(bnd_ok_range HB.out hp).1)
     generalize hX:mxC Prod.fst a.1 (a :: m)=X at *
     have HXX:=Lib.hid hX;clear hX
     have hx6:=HX5.out
     obtain ⟨kx,⟨x0,x1,x2,x3⟩,f0,f1,f2,f3⟩:=hx6
     obtain ⟨hr1,hr2⟩:=hr
     clear kx
     go_wp2_with (go_at_call 218;refine (axis_x _ _ _).mono ?_;rintro e w' ⟨rfl,rfl⟩)
     go_roundw
     case rel=>exact ⟨1,by omega,by simp,by have:=HX5.out.set2 (X+1);simpa [bxAt,HXX.out] using this⟩
     case measure=>simp [intOf]
  ·have HX1:=Lib.hid hx
   clear hx
   go_wp2_with fail
   go_loopw [33] (fun i wx=>∃ j:Nat,j≤len∧i=.int .i64 j∧BX w1 wx (mnC Prod.fst a.1 (a :: m)) (mnC Prod.snd a.2 ((a :: m).take j)) (mxC Prod.fst a.1 (a :: m)+1) (mxC Prod.snd a.2 ((a :: m).take j))) (fun i _=>len - (intOf i).toNat)
   case atStart=>exact ⟨0,by omega,rfl,HX1.out⟩
   case round =>
    obtain ⟨j,hj,rfl,hx⟩:=hrel
    by_cases hlt:j<len
    ·have HX2:=Lib.hid hx
     obtain ⟨kx,⟨x0,x1,x2,x3⟩,f0,f1,f2,f3⟩:=hx
     have hz1:w1.heap.size<wr.heap.size:=cell_lt x0
     have HKX:=Lib.hid kx
     clear kx
     have hjl:j<(a :: m).length:=by rw [HL.out];exact hlt
     obtain ⟨p0,p1⟩:=((HP.out.kp HK.out).kp HKX.out) j hjl
     have hsn:=mnC_snoc Prod.snd a.2 ((a :: m).take j) ((a :: m)[j])
     have hsx:=mxC_snoc Prod.snd a.2 ((a :: m).take j) ((a :: m)[j])
     rw [← List.take_succ_eq_append_getElem hjl] at hsn hsx
     generalize (a :: m)[j]=p at p0 p1 hsn hsx
     obtain ⟨px,py⟩:=p
     dsimp only at p0 p1 hsn hsx
     have HSN:=Lib.hid hsn;have HSX:=Lib.hid hsx
     clear hsn hsx hjl
     generalize hmn:mnC Prod.snd a.2 ((a :: m).take j)=N at *
     generalize hmx:mxC Prod.snd a.2 ((a :: m).take j)=X at *
     clear hmn hmx
     go_upto_region 10 with fail
     go_cut [49] (fun s wx=>MinSt N py s (fun n=>BX w1 wx (mnC Prod.fst a.1 (a :: m)) n (mxC Prod.fst a.1 (a :: m)+1) X∧(wx.cell? ⟨wr.heap.size,0,none⟩=some (.int .i64 px)∧wx.cell? ⟨wr.heap.size,1,none⟩=some (.int .i64 py))))
     case first =>
      go_region_with (go_at_call 218;refine (axis_y _ _ _).mono ?_;rintro e w' ⟨rfl,rfl⟩)
      all_goals go_wp2_with fail
      all_goals go_meet
      all_goals exact ⟨_,by omega,rfl,((HX2.out.set1 _).alloc _).drew,by simp [go_sem],by simp [go_sem]⟩
     case rest =>
      obtain ⟨N',hmn,rfl,hx3,r0,r1⟩:=hcut
      have HMN:=Lib.hid hmn.symm;clear hmn
      have HX3:=Lib.hid hx3
      obtain ⟨kx,⟨x0,x1,x2,x3⟩,f0,f1,f2,f3⟩:=hx3
      have hz1:w1.heap.size<wc.heap.size:=cell_lt x0
      have hz2:wr.heap.size<wc.heap.size:=cell_lt r0
      clear kx
      go_upto_region 11 with fail
      go_region_with (go_at_call 218;refine (axis_y _ _ _).mono ?_;rintro e w' ⟨rfl,rfl⟩)
      all_goals go_wp2_with fail
      all_goals
       go_roundw
       case rel=>first | (exact ⟨j+1,by omega,by go_num,by rw [HSN.out,HSX.out,HMN.out,show max X py=py by omega];exact (HX3.out.set3 _).drew⟩) | (exact ⟨j+1,by omega,by go_num,by rw [HSN.out,HSX.out,HMN.out,show max X py=X by omega];exact (HX3.out.set3 _).drew⟩)
       case measure=>simp [intOf];omega
    ·have hje:j=len:=by omega
     have HX5:Hid (BX w1 wr (mnC Prod.fst a.1 (a :: m)) (mnC Prod.snd a.2 (a :: m)) (mxC Prod.fst a.1 (a :: m)+1) (mxC Prod.snd a.2 (a :: m))):=by
      rw [hje,List.take_of_length_le (by rw [HL.out];omega)] at hx;exact Lib.hid hx
     clear hx hje
     have hr:-1099511627775≤mxC Prod.snd a.2 (a :: m)∧mxC Prod.snd a.2 (a :: m)≤1099511627775:=mxC_range ((bnd_ok_range HB.out (p:=a) (by simp)).2) (fun p hp=>(bnd_ok_range HB.out hp).2)
     generalize hX:mxC Prod.snd a.2 (a :: m)=X at *
     have HXX:=Lib.hid hX;clear hX
     have hx6:=HX5.out
     obtain ⟨kx,⟨x0,x1,x2,x3⟩,f0,f1,f2,f3⟩:=hx6
     obtain ⟨hr1,hr2⟩:=hr
     clear kx
     go_wp2_with (go_at_call 218;refine (axis_y _ _ _).mono ?_;rintro e w' ⟨rfl,rfl⟩)
     go_roundw
     case rel=>exact ⟨2,by omega,by simp,by have:=HX5.out.set3 (X+1);simpa [bxAt,HXX.out] using this⟩
     case measure=>simp [intOf]
  ·have HX7:=Lib.hid hx
   obtain ⟨kx,⟨x0,x1,x2,x3⟩,f0,f1,f2,f3⟩:=hx
   have HKX:=Lib.hid kx
   have y0:=kp_cell kx d0
   have g0:=kp_froz kx d0 z0
   have y1:=kp_cell kx d1
   have g1:=kp_froz kx d1 z1
   have y2:=kp_cell kx d2
   have g2:=kp_froz kx d2 z2
   have y3:=kp_cell kx d3
   have g3:=kp_froz kx d3 z3
   clear kx
   have HN:=Lib.hid (bndB_ok HB.out)
   have HO:=Lib.hid (show bndOk (a :: m)=true by simp only [bndOk,List.isEmpty_cons,Bool.not_false,Bool.true_and];exact HB.out)
   have HB2:Hid (bxAt a (a :: m) 2=bndB (a :: m)):=by show _=_;rw [bndB_ok HB.out];rfl
   go_wp2_with fail
   refine bodyPost_ret (v:=.tuple #[bxV (bxAt a (a :: m) 2),.bool true]) (by simp [results,Tryz.results137,go_sem,y0,y1,y2,y3]) rfl ⟨by rw [HB2.out,HO.out],?_⟩
   repeat (first | (refine kp_set ?_ (by simp) _) | exact kp_trans HK.out HKX.out)
theorem bounds_rdC (v:Value) (l:List Pt) (w:World) (h:RdC w v l):Calls Tryz.prog 137 #[v] w (BndEnd w l):=by
 by_cases hl:l=[]
 ·subst hl
  obtain ⟨_,⟨rfl,_⟩ | ⟨ad,cap,rfl,_⟩⟩:=h
  ·exact bounds_none _ _ w
  ·exact bounds_none _ _ w
 ·obtain ⟨hb,⟨_,g⟩ | ⟨b,off,cap,rfl,hp⟩⟩:=h.rd hl
  ·exact absurd g hl
  ·cases hok:l.all okP
   ·exact bounds_bad b off cap l w hb hp (List.length_pos_iff.2 hl) hok
   ·cases l with
    | nil=>exact absurd rfl hl
    | cons a m=>exact bounds_good b off cap a m w hb hp hok
end Go.Proofs.YtgliljnbajohhaaGreatDoor
