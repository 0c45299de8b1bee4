import Derived.Test.YtgliljnbajohhaaGreatDoorQ11
set_option linter.unusedVariables false
set_option linter.unusedSimpArgs false
namespace Go.Proofs.YtgliljnbajohhaaGreatDoor
open Go.RowKit Go.Proofs.Top Go.Proofs.Geo
theorem infoJuris:(Tryz.prog.info? 39).map (fun i=>(i.zero,i.size,i.bytes))=some (some (.agg #[.int .i64 0,.int .i64 0,.int .i64 0,.int .i64 0,.slice none 0 0]),5,56):=by kernel_rfl
set_option maxHeartbeats 16000000 in
set_option maxRecDepth 100000 in
theorem cr_listJuris {α:Type} (I:World→List Nat→List Value→α→Prop) (encI:α→List Int) (hlaw:ItemLaw I) (hsh:∀ w bl c a,I w bl c a→∃ (x1 x2 x3 x4:Int) (p1:Option Addr) (n1 c1:Nat),c=[.int .i64 x1,.int .i64 x2,.int .i64 x3,.int .i64 x4,.slice p1 n1 c1])
  (gr g lb lo m:Nat) (v:Value) (bs pre post:List Int) (l:List α) (cs:Array Value) (T:TypeId) (hit:∀ a∈l,ItemC 119 39 #[.int .i64 0,.int .i64 0,.int .i64 0,.int .i64 0,.slice none 0 0] gr g v bs I encI a) (hlen:l.length=m) (hm:0<m) (hm2:m≤1000)
  (w:World) (hR:RdU w v bs) (hbs:bs=pre++((enc m++encL encI l)++post)) (hl:bs.length≤100000) (hg:RdrB g v pre.length w) (hvq:∀ b off n c,v=.slice (some ⟨b,off,none⟩) n c→b≠g∧b≠lb)
  (hr:w.cell? ⟨gr,0,none⟩=some (.pointer (some ⟨g,0,none⟩))) (hp:w.heap[lb]? = some (.cells cs T (0,0))) (hcs:cs[lo]? = some (.slice none 0 0)) (hne:lb≠g) (hgr:gr≠g∧gr≠lb) :
  Calls Tryz.prog 118 #[.iface 146 (.pointer (some ⟨gr,0,none⟩)),.pointer (some ⟨lb,lo,none⟩),.func (.func 119) #[] #[]] w fun e w' =>
   e=.returned (.tuple #[])∧RdrB g v (pre++(enc m++encL encI l)).length w'∧∃ u bl,w'.heap[lb]? = some (.cells (cs.setIfInBounds lo u) T (0,0))∧ListIs I 39 5 w.heap.size w' bl u l∧KX [g,lb] w w':=by
 have lg:=hg.lt
 have llb:lb<w.heap.size:=(Array.getElem?_eq_some_iff.1 hp).1
 have LG:=Lib.hid lg;have LLB:=Lib.hid llb
 have c0:w.cell? ⟨lb,lo,none⟩=some (.slice none 0 0):=by rw [cell_of_row w lb _ _ _ _ hp];exact hcs
 have HC:=Lib.hid (fun w' (k:Kp w w')=>cr_count gr g v bs pre (encL encI l++post) m (by omega) 0 w' (hR.kp k) (by rw [hbs,List.append_assoc]) hl (hg.kp k) (kp_cell k hr))
 have HLAW:=Lib.hid hlaw;have HSH:=Lib.hid hsh;have HIT:=Lib.hid hit
 have HLEN:=Lib.hid hlen;have HR:=Lib.hid hR;have HBS:=Lib.hid hbs;have HL:=Lib.hid hl;have HVQ:=Lib.hid hvq;have HCR:=Lib.hid hr;have HP:=Lib.hid hp;have HCS:=Lib.hid hcs
 have hm1:=mth_rcount (some ⟨gr,0,none⟩)
 have hm3:=mth_rfine (some ⟨gr,0,none⟩)
 have hm2':=nil_rcount ⟨gr,0,none⟩
 clear hlen hlaw hsh hit hR hbs hl hg hvq hr hp hcs
 go_enter Tryz.func118,Tryz.ntmps118
 go_upto_region 0 with fail
 go_cut [6] (fun n wx=>n=.int .i64 m∧RdrB g v (pre++enc m).length wx∧KX [g] w wx)
 case first =>
  go_region_with (go_at_call 519;refine (HC.out _ (by (repeat (first | exact kp_refl _ | apply kp_alloc | apply kp_drew | apply kp_drewN)))).mono ?_;rintro e w4 ⟨rfl,h1,h2⟩)
  all_goals
   go_wp2_with fail
   go_meet
   exact ⟨rfl,h1,KX.then (KX.of (by (repeat (first | exact kp_refl _ | apply kp_alloc | apply kp_drew | apply kp_drewN)))) h2⟩
 case rest =>
  obtain ⟨rfl,hrd,hkx⟩:=hcut
  have hlg:lb∉[g]:=by simpa using hne
  have hp1:=hkx.row HP.out hlg
  have c1:wc.cell? ⟨lb,lo,none⟩=some (.slice none 0 0):=by rw [cell_of_row wc lb _ _ _ _ hp1];exact HCS.out
  have llb1:=cell_lt c1
  have z0:(0:Int)<(m:Int):=by omega
  have HRD:=Lib.hid hrd;have HKX:=Lib.hid hkx;have HP1:=Lib.hid hp1
  have hpl:=HKX.out.size
  clear hrd hkx hp1 HC c0
  go_wp2_with fail
  go_loopw [8] (fun i wr=>∃ (k:Nat) (u:Value) (bl:List Nat),k≤m∧i=.int .i64 k∧RdrB g v (pre++(enc m++encL encI (l.take k))).length wr∧wr.heap[lb]? = some (.cells (cs.setIfInBounds lo u) T (0,0))∧ListIs I 39 5 w.heap.size wr bl u (l.take k)∧KX [g,lb] w wr) (fun i _=>m - (intOf i).toNat)
  case atStart =>
   refine ⟨0,.slice none 0 0,[],by omega,rfl,by simpa [encL] using HRD.out,?_,ListIs.nil _,HKX.out.mono (by simp)⟩
   rw [HP1.out]
   congr 2
   apply Array.ext_getElem?
   intro j
   rw [Array.getElem?_setIfInBounds]
   by_cases e:lo=j
   ·subst e
    rw [if_pos rfl,HCS.out]
    have hlo:lo<cs.size:=(Array.getElem?_eq_some_iff.1 HCS.out).1
    rw [if_pos hlo]
   ·rw [if_neg e]
  case round =>
   obtain ⟨k,u,bl,hk,rfl,hrd,hpr,hown,hkx⟩:=hrel
   have HRD2:=Lib.hid hrd;have HPR:=Lib.hid hpr;have HOW:=Lib.hid hown;have HX2:=Lib.hid hkx
   clear hrd hpr hown hkx HRD HKX HP1 c1 llb1
   have hgr1:gr∉[g,lb]:=by simp;exact hgr
   by_cases hlt:k<m
   ·have z1:(k:Int)<(m:Int):=by omega
    have z2:¬ (k:Int)<0:=by omega
    have wi:IntKind.i64.wrap ((k:Int)+1)=(k:Int)+1:=IntWalk.i64_in _ (by omega)
    have z3:decide ((k:Int)<0)=false:=decide_eq_false z2
    have HF:=Lib.hid (cr_fine gr g v _ wr HRD2.out (HX2.out.cell HCR.out hgr1))
    go_upto_region 9 with (go_at_call 520;refine HF.out.mono ?_;rintro e w1 ⟨rfl,hk1⟩)
    have hgl:g≠lb:=fun e=>hne e.symm
    have HR1:=Lib.hid (HRD2.out.kp hk1);have HX1:=Lib.hid (HX2.out.kp hk1);have HO1:=Lib.hid (HOW.out.kp HLAW.out hk1);have HP1:=Lib.hid ((hk1.block lb (Array.getElem?_eq_some_iff.1 HPR.out).1).trans HPR.out)
    have hen:1≤(enc m).length:=(vz_len (by omega)).1
    have HVL:Hid (∀ b off n c,v=.slice (some ⟨b,off,none⟩) n c→b<w1.heap.size):=by
     refine Lib.hid ?_
     intro b off n c hv
     obtain ⟨b',off',c',hv',_,hc⟩:=HR.out
     rw [hv'] at hv
     simp only [Value.slice.injEq,Option.some.injEq,Addr.mk.injEq] at hv
     have h0:0<bs.length:=by rw [HBS.out];simp only [List.length_append];omega
     rw [← hv.1.1]
     exact Nat.lt_of_lt_of_le (cell_lt (hc 0 h0)) HX1.out.size
    clear hk1 HRD2 HX2 HOW HPR HF
    obtain ⟨px,hpx⟩:∃ px,w1.heap.size=px:=⟨_,rfl⟩
    have lg1:g<px:=by rw [← hpx];exact HR1.out.lt
    have llb1:lb<px:=by rw [← hpx];exact (Array.getElem?_eq_some_iff.1 HP1.out).1
    have lgr1:gr<px:=by rw [← hpx];exact cell_lt (HX1.out.cell HCR.out hgr1)
    obtain ⟨a,ha⟩:∃ a,l[k]? = some a:=⟨_,List.getElem?_eq_getElem (by rw [HLEN.out];exact hlt)⟩
    have hpre:(pre++(enc m++encL encI (l.take k)))++(encI a++(encL encI (l.drop (k+1))++post))=bs:=by rw [HBS.out,encL_split encI ha];simp
    have HPL:=Lib.hid (fun w2 (k2:Kp w1 w2) (h2:w2.heap[px]? = some (.cells #[.int .i64 0,.int .i64 0,.int .i64 0,.int .i64 0,.slice none 0 0] 39 (0,0))) =>
     HIT.out a (List.mem_of_getElem? ha) px (pre++(enc m++encL encI (l.take k))) (encL encI (l.drop (k+1))++post) w2 ((HR.out.kx HX1.out (fun b off n c hv=>by have:=HVQ.out b off n c hv;simp;exact this)).kp k2) hpre.symm (HR1.out.kp k2)
      (fun b off n c hv=>⟨(HVQ.out b off n c hv).1,by have:=HVL.out b off n c hv;omega⟩) (kp_cell k2 (HX1.out.cell HCR.out hgr1)) h2 (by omega) ⟨hgr.1,by omega⟩)
    clear hpre
    go_upto_region 11 with (go_at_call 119;refine (HPL.out _ (kp_alloc (kp_refl _) _) (by rw [← hpx];exact heap_alloc_new _ _)).mono ?_;rintro e w2 ⟨rfl,h1,⟨c,bl2,h2,hI2,hb2⟩,h3⟩)
    obtain ⟨x1,x2,x3,x4,p1,n1,c1,rfl⟩:=HSH.out _ _ _ _ hI2
    obtain ⟨W,hW⟩:∃ W,w1.alloc (.cells #[.int .i64 0,.int .i64 0,.int .i64 0,.int .i64 0,.slice none 0 0] 39)=W:=⟨_,rfl⟩
    have KW:Kp w1 W:=by rw [← hW];exact kp_alloc (kp_refl _) _
    have sW:px+1=W.heap.size:=by rw [← hW,← hpx];simp
    have HB2:Hid (∀ b∈bl2,px+1≤b∧b<w2.heap.size):=Lib.hid (fun b hb=>by have:=hb2 b hb;rw [hW] at this;omega)
    have hub:∀ b,u.ownBlock=some b→w.heap.size≤b∧b<px:=fun b hb=>by rw [← hpx];exact HO1.out.lt b hb
    have h3':KX [g,px] W w2:=by rw [← hW];exact h3
    have h31:KX [g] w1 w2:=(KX.of KW).trans h3' (fun b hb=>by simp at hb ⊢;rcases hb with rfl | rfl;exact .inl rfl;exact .inr (by omega))
    have HOW2:=Lib.hid (HO1.out.kx HLAW.out h31 (by simp;exact LG.out))
    have hlo:lo<cs.size:=(Array.getElem?_eq_some_iff.1 HCS.out).1
    have p2:w2.heap[lb]? = some (.cells (cs.setIfInBounds lo u) T (0,0)):=h3'.row ((KW.block lb (by rw [hpx];exact llb1)).trans HP1.out) (by simp;omega)
    have c2:w2.cell? ⟨lb,lo,none⟩=some u:=by rw [cell_of_row w2 lb _ _ _ _ p2];simp [hlo]
    have f2:w2.frozen? ⟨lb,lo,none⟩=false:=frozen_of_row w2 lb _ _ _ p2
    have x0':w2.cell? ⟨px,0,none⟩=some (.int .i64 x1):=by rw [cell_of_row w2 px _ _ _ _ h2];rfl
    have x1':w2.cell? ⟨px,1,none⟩=some (.int .i64 x2):=by rw [cell_of_row w2 px _ _ _ _ h2];rfl
    have x2':w2.cell? ⟨px,2,none⟩=some (.int .i64 x3):=by rw [cell_of_row w2 px _ _ _ _ h2];rfl
    have x3':w2.cell? ⟨px,3,none⟩=some (.int .i64 x4):=by rw [cell_of_row w2 px _ _ _ _ h2];rfl
    have x4':w2.cell? ⟨px,4,none⟩=some (.slice p1 n1 c1):=by rw [cell_of_row w2 px _ _ _ _ h2];rfl
    have hpn:px∉lb :: u.ownBlock.toList:=by simp only [List.mem_cons,Option.mem_toList,not_or];exact ⟨by omega,fun hb=>by have:=hub px hb;omega⟩
    have lpx:=cell_lt x0'
    have hs2:w.heap.size≤w2.heap.size:=Nat.le_trans HX1.out.size (Nat.le_trans (Below.size KW) h3'.size)
    have hwpx:w.heap.size≤px:=by rw [← hpx];exact HX1.out.size
    have KW':=KW
    have HLK:=Lib.hid (show (l.take k).length≤10000 by simp;omega)
    have HI2:=Lib.hid hI2
    obtain ⟨i0,hi,hz0,hz1,hz2⟩:=info_parts infoJuris
    have HI:=Lib.hid hi;have HZ0:=Lib.hid hz0;have HZ1:=Lib.hid hz1;have HZ2:=Lib.hid hz2
    clear hi hz0 hz1 hz2 h3 HPL hb2 hI2 h31
    refine wp_region_noPanic ?_
    refine wp_region_held_drew (S:=fun w'=>KX (lb :: u.ownBlock.toList) w2 w') (by kernel_rfl) ?_ (fun hHeld=>?_)
    ·exact (KX.refl _).drew
    obtain ⟨WD,hWD⟩:∃ W,w2.drew=W:=⟨_,rfl⟩
    have KD:Kp w2 WD:=by rw [← hWD];exact kp_drew (kp_refl _)
    have cD:=kp_cell KD c2
    have pD:=(KD.block lb (Array.getElem?_eq_some_iff.1 p2).1).trans p2
    have szD:=Below.size KD
    have hbD:w.heap.size≤WD.heap.size:=Nat.le_trans hs2 szD
    have fD:=kp_froz KD c2 f2
    have HOD:=Lib.hid (HOW2.out.kp HLAW.out KD)
    have HID:=Lib.hid (HLAW.out.keep HI2.out fun b hb=>KD.block b (HB2.out b hb).2)
    have hSD:KX (lb :: u.ownBlock.toList) w2 WD:=KX.of KD
    rw [hWD] at hHeld ⊢
    refine take_yes (i:=0) (d:=48) (v:=?_) rfl rfl (by kernel_rfl) (by kernel_rfl) (by kernel_rfl) (fun _ _ _ h=>h) (by rfl) ?_ hHeld ?_
    rotate_left
    ·intro wq hSw;(try dsimp only at hSw);go_simp;(try with_reducible rfl)
    (try simp only [Act.put,List.setIfInBounds_toArray,List.set_cons_zero,List.set_cons_succ])
    refine take_yes (i:=1) (d:=49) (v:=?_) rfl rfl (by kernel_rfl) (by kernel_rfl) (by kernel_rfl) (fun _ _ _ h=>h) (by rfl) ?_ hHeld ?_
    rotate_left
    ·intro wq hSw;(try dsimp only at hSw);go_simp;(try with_reducible rfl)
    (try simp only [Act.put,List.setIfInBounds_toArray,List.set_cons_zero,List.set_cons_succ])
    refine take_yes (i:=2) (d:=50) (v:=?_) rfl rfl (by kernel_rfl) (by kernel_rfl) (by kernel_rfl) (fun _ _ _ h=>h) (by rfl) ?_ hHeld ?_
    rotate_left
    ·intro wq hSw;(try dsimp only at hSw);go_simp;(try with_reducible rfl)
    (try simp only [Act.put,List.setIfInBounds_toArray,List.set_cons_zero,List.set_cons_succ])
    refine take_yes (i:=4) (d:=52) (v:=?_) rfl rfl (by kernel_rfl) (by kernel_rfl) (by kernel_rfl) (fun _ _ _ h=>h) (by rfl) ?_ hHeld ?_
    rotate_left
    ·intro wq hSw;(try dsimp only at hSw);have q0:=hSw.cell x0' hpn;have q1:=hSw.cell x1' hpn;have q2:=hSw.cell x2' hpn;have q3:=hSw.cell x3' hpn;have q4:=hSw.cell x4' hpn;go_simp;(try with_reducible rfl)
    (try simp only [Act.put,List.setIfInBounds_toArray,List.set_cons_zero,List.set_cons_succ])
    refine wpAnyH_ready (rs:=[3,5]) (by kernel_rfl) (by simp) ?_
    refine (AllReadyH.cons rfl (fun K' hK=>?_) (AllReadyH.cons rfl (fun K' hK=>?_) AllReadyH.nil))
    ·go_simp
     refine hK.out _ _ ?_ (fun hHeld=>?_)
     ·exact hSD
     clear hK K'
     (try simp only [Act.put,List.setIfInBounds_toArray,List.set_cons_zero,List.set_cons_succ])
     refine wpAnyH_ready (rs:=[5]) (by kernel_rfl) (by simp) ?_
     refine (AllReadyH.cons rfl (fun K' hK=>?_) AllReadyH.nil)
     go_simp
     refine hK.out _ _ ?_ (fun hHeld=>?_)
     ·exact hSD.alloc _
     obtain ⟨bn,hbn⟩:∃ b,WD.heap.size=b:=⟨_,rfl⟩
     obtain ⟨WB,hWB⟩:∃ W,WD.alloc (.cells #[.int .i64 x1,.int .i64 x2,.int .i64 x3,.int .i64 x4,.slice p1 n1 c1] 39)=W:=⟨_,rfl⟩
     have hnew:=cells_new WD [.int .i64 x1,.int .i64 x2,.int .i64 x3,.int .i64 x4,.slice p1 n1 c1] 39
     rw [show ([.int .i64 x1,.int .i64 x2,.int .i64 x3,.int .i64 x4,.slice p1 n1 c1]:List Value).toArray = #[.int .i64 x1,.int .i64 x2,.int .i64 x3,.int .i64 x4,.slice p1 n1 c1] from rfl] at hnew
     have KB:Kp WD WB:=by rw [← hWB];exact kp_alloc (kp_refl _) _
     have cB:=kp_cell KB cD
     have fB:=kp_froz KB cD fD
     have HOB:=Lib.hid (HOD.out.kp HLAW.out KB)
     have HIB:=Lib.hid (HLAW.out.keep HID.out fun b hb=>KB.block b (Nat.lt_of_lt_of_le (HB2.out b hb).2 szD))
     have hSB:=hSD.kp KB
     have pB:=(KB.block lb (Array.getElem?_eq_some_iff.1 pD).1).trans pD
     have hbB:=Nat.le_trans hbD (Below.size KB)
     have szB:=Nat.le_trans szD (Below.size KB)
     rw [hbn,hWB] at hnew
     rw [hbn,hWB]
     rw [hWB] at hHeld
     clear hbn hWB KB
     clear hK K'
     (try simp only [Act.put,List.setIfInBounds_toArray,List.set_cons_zero,List.set_cons_succ])
     refine wpAnyH_ready (rs:=[6]) (by kernel_rfl) (by simp) ?_
     refine (AllReadyH.cons rfl (fun K' hK=>?_) AllReadyH.nil)
     obtain ⟨css,hcl,hci,how,hbb⟩:=HOB.out
     refine arm_append_own_at _ _ 24 rfl w.heap.size 39 i0 (.agg #[.int .i64 0,.int .i64 0,.int .i64 0,.int .i64 0,.slice none 0 0]) 5 56 Tryz.underlying24 HI.out HZ0.out HZ1.out HZ2.out rfl (by decide) _ _ _ rfl how ⟨bn,0,none⟩ 1 1 [.int .i64 x1,.int .i64 x2,.int .i64 x3,.int .i64 x4,.slice p1 n1 c1] rfl rfl hnew (by simp [Value.oneCell']) (by have:=HLK.out;unfold maxLen;omega) (by have:=HLK.out;omega) hbB ?_
     intro v' w5 hown hgrow hnil hat
     have HO5:=Lib.hid (ListIs.snoc HLAW.out (a:=a) hcl hci hbb HIB.out (fun b hb=>⟨by have:=(HB2.out b hb).1;omega,Nat.lt_of_lt_of_le (HB2.out b hb).2 szB,fun e=>by have:=hub b e;have:=(HB2.out b hb).1;omega⟩) hgrow hat hown)
     have hvc:v'.cells = #[v']:=by rcases hown.2 with ⟨hv,_⟩ | ⟨g',cap,cur,hv,_⟩ <;> subst hv <;> rfl
     simp only [Value.cells] at hvc
     have hv1:v'.oneCell'=true:=by rcases hown.2 with ⟨hv,_⟩ | ⟨g',cap,cur,hv,_⟩ <;> subst hv <;> rfl
     have hS5:=hSB.grown hgrow (fun b hb=>.inl (by simp only [List.mem_cons,Option.mem_toList];exact .inr hb))
     have p5:w5.heap[lb]? = some (.cells (cs.setIfInBounds lo u) T (0,0)):=(hgrow.block lb (Array.getElem?_eq_some_iff.1 pB).1 (fun e=>by have:=hub lb e.symm;omega)).trans pB
     have c5:w5.cell? ⟨lb,lo,none⟩=some u:=by rw [cell_of_row w5 lb _ _ _ _ p5];simp [hlo]
     have f5:w5.frozen? ⟨lb,lo,none⟩=false:=frozen_of_row w5 lb _ _ _ p5
     have l5:w.heap.size≤w5.heap.size:=Nat.le_trans hbB hgrow.size
     clear hown hgrow hnil hat hnew HOB HIB hSB pB cB fB how hci hbb hcl
     refine hK.out _ _ ?_ (fun hHeld=>?_)
     ·exact hS5
     clear hK K'
     (try simp only [Act.put,List.setIfInBounds_toArray,List.set_cons_zero,List.set_cons_succ])
     refine take_yes (i:=7) (d:=55) (v:=?_) rfl rfl (by kernel_rfl) (by kernel_rfl) (by kernel_rfl) (fun _ _ _ h=>h) (by rfl) ?_ hHeld ?_
     rotate_left
     ·intro wq hSw;(try dsimp only at hSw);go_simp;(try with_reducible rfl)
     (try simp only [Act.put,List.setIfInBounds_toArray,List.set_cons_zero,List.set_cons_succ])
     refine wpAnyH_ready (rs:=[8]) (by kernel_rfl) (by simp) ?_
     refine (AllReadyH.cons rfl (fun K' hK=>?_) AllReadyH.nil)
     go_simp
     rw [run_store _ _ _ _ _ hv1]
     go_simp
     refine hK.out _ _ ?_ (fun hHeld=>?_)
     ·exact hS5.set (.inl (by simp)) _
     clear hK K'
     (try simp only [Act.put,List.setIfInBounds_toArray,List.set_cons_zero,List.set_cons_succ])
     refine wpAnyH_done (by kernel_rfl) ?_ _
     refine NoPanic.normal ?_
     go_wp2_with fail
     have hK5:KX [lb] w5 (w5.setCell ⟨lb,lo,none⟩ v'):=(KX.refl w5).set (.inl (by simp)) _
     have hS6:=hS5.trans hK5 (by simp)
     refine ⟨⟨k+1,v',bl++bl2,by omega,by go_num,?_,?_,?_,?_⟩,by simp [intOf];omega⟩
     ·rw [encL_snoc encI ha,← List.append_assoc,← List.append_assoc,List.append_assoc pre]
      exact h1.kx hS6 (by simp only [List.mem_cons,Option.mem_toList,not_or];exact ⟨hgl,fun hb=>by have:=hub g hb;omega⟩)
     ·rw [heap_setCell_same w5 lb _ _ _ _ p5];simp
     ·rw [take_snoc ha]
      exact HO5.out.kx HLAW.out hK5 (by simp;exact LLB.out)
     ·exact ((HX1.out.kp KW').trans h3' (fun b hb=>by simp at hb ⊢;rcases hb with rfl | rfl;exact .inl (.inl rfl);exact .inr (by have:=HX1.out.size;omega))).trans hS6 (fun b hb=>by simp only [List.mem_cons,Option.mem_toList] at hb ⊢;rcases hb with rfl | hb;exact .inl (.inr (.inl rfl));exact .inr (hub b hb).1)
    ·go_simp
     refine hK.out _ _ ?_ (fun hHeld=>?_)
     ·exact hSD.alloc _
     obtain ⟨bn,hbn⟩:∃ b,WD.heap.size=b:=⟨_,rfl⟩
     obtain ⟨WB,hWB⟩:∃ W,WD.alloc (.cells #[.int .i64 x1,.int .i64 x2,.int .i64 x3,.int .i64 x4,.slice p1 n1 c1] 39)=W:=⟨_,rfl⟩
     have hnew:=cells_new WD [.int .i64 x1,.int .i64 x2,.int .i64 x3,.int .i64 x4,.slice p1 n1 c1] 39
     rw [show ([.int .i64 x1,.int .i64 x2,.int .i64 x3,.int .i64 x4,.slice p1 n1 c1]:List Value).toArray = #[.int .i64 x1,.int .i64 x2,.int .i64 x3,.int .i64 x4,.slice p1 n1 c1] from rfl] at hnew
     have KB:Kp WD WB:=by rw [← hWB];exact kp_alloc (kp_refl _) _
     have cB:=kp_cell KB cD
     have fB:=kp_froz KB cD fD
     have HOB:=Lib.hid (HOD.out.kp HLAW.out KB)
     have HIB:=Lib.hid (HLAW.out.keep HID.out fun b hb=>KB.block b (Nat.lt_of_lt_of_le (HB2.out b hb).2 szD))
     have hSB:=hSD.kp KB
     have pB:=(KB.block lb (Array.getElem?_eq_some_iff.1 pD).1).trans pD
     have hbB:=Nat.le_trans hbD (Below.size KB)
     have szB:=Nat.le_trans szD (Below.size KB)
     rw [hbn,hWB] at hnew
     rw [hbn,hWB]
     rw [hWB] at hHeld
     clear hbn hWB KB
     clear hK K'
     (try simp only [Act.put,List.setIfInBounds_toArray,List.set_cons_zero,List.set_cons_succ])
     refine wpAnyH_ready (rs:=[3]) (by kernel_rfl) (by simp) ?_
     refine (AllReadyH.cons rfl (fun K' hK=>?_) AllReadyH.nil)
     go_simp
     refine hK.out _ _ ?_ (fun hHeld=>?_)
     ·exact hSB
     clear hK K'
     (try simp only [Act.put,List.setIfInBounds_toArray,List.set_cons_zero,List.set_cons_succ])
     refine wpAnyH_ready (rs:=[6]) (by kernel_rfl) (by simp) ?_
     refine (AllReadyH.cons rfl (fun K' hK=>?_) AllReadyH.nil)
     obtain ⟨css,hcl,hci,how,hbb⟩:=HOB.out
     refine arm_append_own_at _ _ 24 rfl w.heap.size 39 i0 (.agg #[.int .i64 0,.int .i64 0,.int .i64 0,.int .i64 0,.slice none 0 0]) 5 56 Tryz.underlying24 HI.out HZ0.out HZ1.out HZ2.out rfl (by decide) _ _ _ rfl how ⟨bn,0,none⟩ 1 1 [.int .i64 x1,.int .i64 x2,.int .i64 x3,.int .i64 x4,.slice p1 n1 c1] rfl rfl hnew (by simp [Value.oneCell']) (by have:=HLK.out;unfold maxLen;omega) (by have:=HLK.out;omega) hbB ?_
     intro v' w5 hown hgrow hnil hat
     have HO5:=Lib.hid (ListIs.snoc HLAW.out (a:=a) hcl hci hbb HIB.out (fun b hb=>⟨by have:=(HB2.out b hb).1;omega,Nat.lt_of_lt_of_le (HB2.out b hb).2 szB,fun e=>by have:=hub b e;have:=(HB2.out b hb).1;omega⟩) hgrow hat hown)
     have hvc:v'.cells = #[v']:=by rcases hown.2 with ⟨hv,_⟩ | ⟨g',cap,cur,hv,_⟩ <;> subst hv <;> rfl
     simp only [Value.cells] at hvc
     have hv1:v'.oneCell'=true:=by rcases hown.2 with ⟨hv,_⟩ | ⟨g',cap,cur,hv,_⟩ <;> subst hv <;> rfl
     have hS5:=hSB.grown hgrow (fun b hb=>.inl (by simp only [List.mem_cons,Option.mem_toList];exact .inr hb))
     have p5:w5.heap[lb]? = some (.cells (cs.setIfInBounds lo u) T (0,0)):=(hgrow.block lb (Array.getElem?_eq_some_iff.1 pB).1 (fun e=>by have:=hub lb e.symm;omega)).trans pB
     have c5:w5.cell? ⟨lb,lo,none⟩=some u:=by rw [cell_of_row w5 lb _ _ _ _ p5];simp [hlo]
     have f5:w5.frozen? ⟨lb,lo,none⟩=false:=frozen_of_row w5 lb _ _ _ p5
     have l5:w.heap.size≤w5.heap.size:=Nat.le_trans hbB hgrow.size
     clear hown hgrow hnil hat hnew HOB HIB hSB pB cB fB how hci hbb hcl
     refine hK.out _ _ ?_ (fun hHeld=>?_)
     ·exact hS5
     clear hK K'
     (try simp only [Act.put,List.setIfInBounds_toArray,List.set_cons_zero,List.set_cons_succ])
     refine take_yes (i:=7) (d:=55) (v:=?_) rfl rfl (by kernel_rfl) (by kernel_rfl) (by kernel_rfl) (fun _ _ _ h=>h) (by rfl) ?_ hHeld ?_
     rotate_left
     ·intro wq hSw;(try dsimp only at hSw);go_simp;(try with_reducible rfl)
     (try simp only [Act.put,List.setIfInBounds_toArray,List.set_cons_zero,List.set_cons_succ])
     refine wpAnyH_ready (rs:=[8]) (by kernel_rfl) (by simp) ?_
     refine (AllReadyH.cons rfl (fun K' hK=>?_) AllReadyH.nil)
     go_simp
     rw [run_store _ _ _ _ _ hv1]
     go_simp
     refine hK.out _ _ ?_ (fun hHeld=>?_)
     ·exact hS5.set (.inl (by simp)) _
     clear hK K'
     (try simp only [Act.put,List.setIfInBounds_toArray,List.set_cons_zero,List.set_cons_succ])
     refine wpAnyH_done (by kernel_rfl) ?_ _
     refine NoPanic.normal ?_
     go_wp2_with fail
     have hK5:KX [lb] w5 (w5.setCell ⟨lb,lo,none⟩ v'):=(KX.refl w5).set (.inl (by simp)) _
     have hS6:=hS5.trans hK5 (by simp)
     refine ⟨⟨k+1,v',bl++bl2,by omega,by go_num,?_,?_,?_,?_⟩,by simp [intOf];omega⟩
     ·rw [encL_snoc encI ha,← List.append_assoc,← List.append_assoc,List.append_assoc pre]
      exact h1.kx hS6 (by simp only [List.mem_cons,Option.mem_toList,not_or];exact ⟨hgl,fun hb=>by have:=hub g hb;omega⟩)
     ·rw [heap_setCell_same w5 lb _ _ _ _ p5];simp
     ·rw [take_snoc ha]
      exact HO5.out.kx HLAW.out hK5 (by simp;exact LLB.out)
     ·exact ((HX1.out.kp KW').trans h3' (fun b hb=>by simp at hb ⊢;rcases hb with rfl | rfl;exact .inl (.inl rfl);exact .inr (by have:=HX1.out.size;omega))).trans hS6 (fun b hb=>by simp only [List.mem_cons,Option.mem_toList] at hb ⊢;rcases hb with rfl | hb;exact .inl (.inr (.inl rfl));exact .inr (hub b hb).1)
   ·obtain rfl:k=m:=by omega
    have z1:¬ (k:Int)<(k:Int):=by omega
    go_wp2_with fail
    go_end0
    have e1:l.take k=l:=List.take_of_length_le (by rw [HLEN.out];exact Nat.le_refl _)
    have h1:=HRD2.out
    have h2:=HOW.out
    rw [e1] at h1 h2
    exact ⟨rfl,by have h:=h1;simpa [List.length_append] using h,u,HPR.out,⟨bl,h2⟩,HX2.out⟩
end Go.Proofs.YtgliljnbajohhaaGreatDoor
