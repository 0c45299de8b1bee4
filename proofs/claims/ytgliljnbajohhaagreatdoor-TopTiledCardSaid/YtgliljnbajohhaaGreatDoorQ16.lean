import Derived.Test.YtgliljnbajohhaaGreatDoorQ11
import Derived.Test.YtgliljnbajohhaaGreatDoorQ13
import Derived.Test.YtgliljnbajohhaaGreatDoorQ09
import Derived.Test.YtgliljnbajohhaaGreatDoorQ10
set_option linter.unusedVariables false
set_option linter.unusedSimpArgs false
namespace Go.Proofs.YtgliljnbajohhaaGreatDoor
open Go.RowKit Go.Proofs.Top Go.Proofs.Geo
theorem infoRated:(Tryz.prog.info? 44).map (fun i=>(i.zero,i.size,i.bytes))=some (some (.agg #[.int .i64 0,.slice none 0 0]),2,32):=by kernel_rfl
set_option maxHeartbeats 16000000 in
set_option maxRecDepth 100000 in
theorem cr_listRated {α:Type} (I:World→List Nat→List Value→α→Prop) (encI:α→List Int) (hlaw:ItemLaw I) (hsh:∀ w bl c a,I w bl c a→∃ (x1:Int) (p1:Option Addr) (n1 c1:Nat),c=[.int .i64 x1,.slice p1 n1 c1])
  (gr g lb lo m:Nat) (v:Value) (bs pre post:List Int) (l:List α) (cs:Array Value) (T:TypeId) (hit:∀ a∈l,ItemC 121 44 #[.int .i64 0,.slice none 0 0] gr g v bs I encI a) (hlen:l.length=m) (hm:0<m) (hm2:m≤1000)
  (w:World) (hR:RdU w v bs) (hbs:bs=pre++((enc m++encL encI l)++post)) (hl:bs.length≤100000) (hg:RdrB g v pre.length w) (hvq:∀ b off n c,v=.slice (some ⟨b,off,none⟩) n c→b≠g∧b≠lb)
  (hr:w.cell? ⟨gr,0,none⟩=some (.pointer (some ⟨g,0,none⟩))) (hp:w.heap[lb]? = some (.cells cs T (0,0))) (hcs:cs[lo]? = some (.slice none 0 0)) (hne:lb≠g) (hgr:gr≠g∧gr≠lb) :
  Calls Tryz.prog 120 #[.iface 146 (.pointer (some ⟨gr,0,none⟩)),.pointer (some ⟨lb,lo,none⟩),.func (.func 121) #[] #[]] w fun e w' =>
   e=.returned (.tuple #[])∧RdrB g v (pre++(enc m++encL encI l)).length w'∧∃ u bl,w'.heap[lb]? = some (.cells (cs.setIfInBounds lo u) T (0,0))∧ListIs I 44 2 w.heap.size w' bl u l∧KX [g,lb] w w':=by
 have lg:=hg.lt
 have llb:lb<w.heap.size:=(Array.getElem?_eq_some_iff.1 hp).1
 have LG:=Lib.hid lg;have LLB:=Lib.hid llb
 have c0:w.cell? ⟨lb,lo,none⟩=some (.slice none 0 0):=by rw [cell_of_row w lb _ _ _ _ hp];exact hcs
 have HC:=Lib.hid (fun w' (k:Kp w w')=>cr_count gr g v bs pre (encL encI l++post) m (by omega) 0 w' (hR.kp k) (by rw [hbs,List.append_assoc]) hl (hg.kp k) (kp_cell k hr))
 have HLAW:=Lib.hid hlaw;have HSH:=Lib.hid hsh;have HIT:=Lib.hid hit
 have HLEN:=Lib.hid hlen;have HR:=Lib.hid hR;have HBS:=Lib.hid hbs;have HL:=Lib.hid hl;have HVQ:=Lib.hid hvq;have HCR:=Lib.hid hr;have HP:=Lib.hid hp;have HCS:=Lib.hid hcs
 have hm1:=mth_rcount (some ⟨gr,0,none⟩)
 have hm3:=mth_rfine (some ⟨gr,0,none⟩)
 have hm2':=nil_rcount ⟨gr,0,none⟩
 clear hlen hlaw hsh hit hR hbs hl hg hvq hr hp hcs
 go_enter Tryz.func120,Tryz.ntmps120
 go_upto_region 0 with fail
 go_cut [6] (fun n wx=>n=.int .i64 m∧RdrB g v (pre++enc m).length wx∧KX [g] w wx)
 case first =>
  go_region_with (go_at_call 519;refine (HC.out _ (by (repeat (first | exact kp_refl _ | apply kp_alloc | apply kp_drew | apply kp_drewN)))).mono ?_;rintro e w4 ⟨rfl,h1,h2⟩)
  all_goals
   go_wp2_with fail
   go_meet
   exact ⟨rfl,h1,KX.then (KX.of (by (repeat (first | exact kp_refl _ | apply kp_alloc | apply kp_drew | apply kp_drewN)))) h2⟩
 case rest =>
  obtain ⟨rfl,hrd,hkx⟩:=hcut
  have hlg:lb∉[g]:=by simpa using hne
  have hp1:=hkx.row HP.out hlg
  have c1:wc.cell? ⟨lb,lo,none⟩=some (.slice none 0 0):=by rw [cell_of_row wc lb _ _ _ _ hp1];exact HCS.out
  have llb1:=cell_lt c1
  have z0:(0:Int)<(m:Int):=by omega
  have HRD:=Lib.hid hrd;have HKX:=Lib.hid hkx;have HP1:=Lib.hid hp1
  have hpl:=HKX.out.size
  clear hrd hkx hp1 HC c0
  go_wp2_with fail
  go_loopw [8] (fun i wr=>∃ (k:Nat) (u:Value) (bl:List Nat),k≤m∧i=.int .i64 k∧RdrB g v (pre++(enc m++encL encI (l.take k))).length wr∧wr.heap[lb]? = some (.cells (cs.setIfInBounds lo u) T (0,0))∧ListIs I 44 2 w.heap.size wr bl u (l.take k)∧KX [g,lb] w wr) (fun i _=>m - (intOf i).toNat)
  case atStart =>
   refine ⟨0,.slice none 0 0,[],by omega,rfl,by simpa [encL] using HRD.out,?_,ListIs.nil _,HKX.out.mono (by simp)⟩
   rw [HP1.out]
   congr 2
   apply Array.ext_getElem?
   intro j
   rw [Array.getElem?_setIfInBounds]
   by_cases e:lo=j
   ·subst e
    rw [if_pos rfl,HCS.out]
    have hlo:lo<cs.size:=(Array.getElem?_eq_some_iff.1 HCS.out).1
    rw [if_pos hlo]
   ·rw [if_neg e]
  case round =>
   obtain ⟨k,u,bl,hk,rfl,hrd,hpr,hown,hkx⟩:=hrel
   have HRD2:=Lib.hid hrd;have HPR:=Lib.hid hpr;have HOW:=Lib.hid hown;have HX2:=Lib.hid hkx
   clear hrd hpr hown hkx HRD HKX HP1 c1 llb1
   have hgr1:gr∉[g,lb]:=by simp;exact hgr
   by_cases hlt:k<m
   ·have z1:(k:Int)<(m:Int):=by omega
    have z2:¬ (k:Int)<0:=by omega
    have wi:IntKind.i64.wrap ((k:Int)+1)=(k:Int)+1:=IntWalk.i64_in _ (by omega)
    have z3:decide ((k:Int)<0)=false:=decide_eq_false z2
    have HF:=Lib.hid (cr_fine gr g v _ wr HRD2.out (HX2.out.cell HCR.out hgr1))
    go_upto_region 9 with (go_at_call 520;refine HF.out.mono ?_;rintro e w1 ⟨rfl,hk1⟩)
    have hgl:g≠lb:=fun e=>hne e.symm
    have HR1:=Lib.hid (HRD2.out.kp hk1);have HX1:=Lib.hid (HX2.out.kp hk1);have HO1:=Lib.hid (HOW.out.kp HLAW.out hk1);have HP1:=Lib.hid ((hk1.block lb (Array.getElem?_eq_some_iff.1 HPR.out).1).trans HPR.out)
    have hen:1≤(enc m).length:=(vz_len (by omega)).1
    have HVL:Hid (∀ b off n c,v=.slice (some ⟨b,off,none⟩) n c→b<w1.heap.size):=by
     refine Lib.hid ?_
     intro b off n c hv
     obtain ⟨b',off',c',hv',_,hc⟩:=HR.out
     rw [hv'] at hv
     simp only [Value.slice.injEq,Option.some.injEq,Addr.mk.injEq] at hv
     have h0:0<bs.length:=by rw [HBS.out];simp only [List.length_append];omega
     rw [← hv.1.1]
     exact Nat.lt_of_lt_of_le (cell_lt (hc 0 h0)) HX1.out.size
    clear hk1 HRD2 HX2 HOW HPR HF
    obtain ⟨px,hpx⟩:∃ px,w1.heap.size=px:=⟨_,rfl⟩
    have lg1:g<px:=by rw [← hpx];exact HR1.out.lt
    have llb1:lb<px:=by rw [← hpx];exact (Array.getElem?_eq_some_iff.1 HP1.out).1
    have lgr1:gr<px:=by rw [← hpx];exact cell_lt (HX1.out.cell HCR.out hgr1)
    obtain ⟨a,ha⟩:∃ a,l[k]? = some a:=⟨_,List.getElem?_eq_getElem (by rw [HLEN.out];exact hlt)⟩
    have hpre:(pre++(enc m++encL encI (l.take k)))++(encI a++(encL encI (l.drop (k+1))++post))=bs:=by rw [HBS.out,encL_split encI ha];simp
    have HPL:=Lib.hid (fun w2 (k2:Kp w1 w2) (h2:w2.heap[px]? = some (.cells #[.int .i64 0,.slice none 0 0] 44 (0,0))) =>
     HIT.out a (List.mem_of_getElem? ha) px (pre++(enc m++encL encI (l.take k))) (encL encI (l.drop (k+1))++post) w2 ((HR.out.kx HX1.out (fun b off n c hv=>by have:=HVQ.out b off n c hv;simp;exact this)).kp k2) hpre.symm (HR1.out.kp k2)
      (fun b off n c hv=>⟨(HVQ.out b off n c hv).1,by have:=HVL.out b off n c hv;omega⟩) (kp_cell k2 (HX1.out.cell HCR.out hgr1)) h2 (by omega) ⟨hgr.1,by omega⟩)
    clear hpre
    go_upto_region 11 with (go_at_call 121;refine (HPL.out _ (kp_alloc (kp_refl _) _) (by rw [← hpx];exact heap_alloc_new _ _)).mono ?_;rintro e w2 ⟨rfl,h1,⟨c,bl2,h2,hI2,hb2⟩,h3⟩)
    obtain ⟨x1,p1,n1,c1,rfl⟩:=HSH.out _ _ _ _ hI2
    obtain ⟨W,hW⟩:∃ W,w1.alloc (.cells #[.int .i64 0,.slice none 0 0] 44)=W:=⟨_,rfl⟩
    have KW:Kp w1 W:=by rw [← hW];exact kp_alloc (kp_refl _) _
    have sW:px+1=W.heap.size:=by rw [← hW,← hpx];simp
    have HB2:Hid (∀ b∈bl2,px+1≤b∧b<w2.heap.size):=Lib.hid (fun b hb=>by have:=hb2 b hb;rw [hW] at this;omega)
    have hub:∀ b,u.ownBlock=some b→w.heap.size≤b∧b<px:=fun b hb=>by rw [← hpx];exact HO1.out.lt b hb
    have h3':KX [g,px] W w2:=by rw [← hW];exact h3
    have h31:KX [g] w1 w2:=(KX.of KW).trans h3' (fun b hb=>by simp at hb ⊢;rcases hb with rfl | rfl;exact .inl rfl;exact .inr (by omega))
    have HOW2:=Lib.hid (HO1.out.kx HLAW.out h31 (by simp;exact LG.out))
    have hlo:lo<cs.size:=(Array.getElem?_eq_some_iff.1 HCS.out).1
    have p2:w2.heap[lb]? = some (.cells (cs.setIfInBounds lo u) T (0,0)):=h3'.row ((KW.block lb (by rw [hpx];exact llb1)).trans HP1.out) (by simp;omega)
    have c2:w2.cell? ⟨lb,lo,none⟩=some u:=by rw [cell_of_row w2 lb _ _ _ _ p2];simp [hlo]
    have f2:w2.frozen? ⟨lb,lo,none⟩=false:=frozen_of_row w2 lb _ _ _ p2
    have x0':w2.cell? ⟨px,0,none⟩=some (.int .i64 x1):=by rw [cell_of_row w2 px _ _ _ _ h2];rfl
    have x1':w2.cell? ⟨px,1,none⟩=some (.slice p1 n1 c1):=by rw [cell_of_row w2 px _ _ _ _ h2];rfl
    have hpn:px∉lb :: u.ownBlock.toList:=by simp only [List.mem_cons,Option.mem_toList,not_or];exact ⟨by omega,fun hb=>by have:=hub px hb;omega⟩
    have lpx:=cell_lt x0'
    have hs2:w.heap.size≤w2.heap.size:=Nat.le_trans HX1.out.size (Nat.le_trans (Below.size KW) h3'.size)
    have hwpx:w.heap.size≤px:=by rw [← hpx];exact HX1.out.size
    have KW':=KW
    have HLK:=Lib.hid (show (l.take k).length≤10000 by simp;omega)
    have HI2:=Lib.hid hI2
    obtain ⟨i0,hi,hz0,hz1,hz2⟩:=info_parts infoRated
    have HI:=Lib.hid hi;have HZ0:=Lib.hid hz0;have HZ1:=Lib.hid hz1;have HZ2:=Lib.hid hz2
    clear hi hz0 hz1 hz2 h3 HPL hb2 hI2 h31
    refine wp_region_noPanic ?_
    refine wp_region_held_drew (S:=fun w'=>KX (lb :: u.ownBlock.toList) w2 w') (by kernel_rfl) ?_ (fun hHeld=>?_)
    ·exact (KX.refl _).drew
    obtain ⟨WD,hWD⟩:∃ W,w2.drew=W:=⟨_,rfl⟩
    have KD:Kp w2 WD:=by rw [← hWD];exact kp_drew (kp_refl _)
    have cD:=kp_cell KD c2
    have pD:=(KD.block lb (Array.getElem?_eq_some_iff.1 p2).1).trans p2
    have szD:=Below.size KD
    have hbD:w.heap.size≤WD.heap.size:=Nat.le_trans hs2 szD
    have fD:=kp_froz KD c2 f2
    have HOD:=Lib.hid (HOW2.out.kp HLAW.out KD)
    have HID:=Lib.hid (HLAW.out.keep HI2.out fun b hb=>KD.block b (HB2.out b hb).2)
    have hSD:KX (lb :: u.ownBlock.toList) w2 WD:=KX.of KD
    rw [hWD] at hHeld ⊢
    refine take_yes (i:=0) (d:=48) (v:=?_) rfl rfl (by kernel_rfl) (by kernel_rfl) (by kernel_rfl) (fun _ _ _ h=>h) (by rfl) ?_ hHeld ?_
    rotate_left
    ·intro wq hSw;(try dsimp only at hSw);go_simp;(try with_reducible rfl)
    (try simp only [Act.put,List.setIfInBounds_toArray,List.set_cons_zero,List.set_cons_succ])
    refine take_yes (i:=1) (d:=49) (v:=?_) rfl rfl (by kernel_rfl) (by kernel_rfl) (by kernel_rfl) (fun _ _ _ h=>h) (by rfl) ?_ hHeld ?_
    rotate_left
    ·intro wq hSw;(try dsimp only at hSw);go_simp;(try with_reducible rfl)
    (try simp only [Act.put,List.setIfInBounds_toArray,List.set_cons_zero,List.set_cons_succ])
    refine take_yes (i:=2) (d:=50) (v:=?_) rfl rfl (by kernel_rfl) (by kernel_rfl) (by kernel_rfl) (fun _ _ _ h=>h) (by rfl) ?_ hHeld ?_
    rotate_left
    ·intro wq hSw;(try dsimp only at hSw);go_simp;(try with_reducible rfl)
    (try simp only [Act.put,List.setIfInBounds_toArray,List.set_cons_zero,List.set_cons_succ])
    refine take_yes (i:=4) (d:=52) (v:=?_) rfl rfl (by kernel_rfl) (by kernel_rfl) (by kernel_rfl) (fun _ _ _ h=>h) (by rfl) ?_ hHeld ?_
    rotate_left
    ·intro wq hSw;(try dsimp only at hSw);have q0:=hSw.cell x0' hpn;have q1:=hSw.cell x1' hpn;go_simp;(try with_reducible rfl)
    (try simp only [Act.put,List.setIfInBounds_toArray,List.set_cons_zero,List.set_cons_succ])
    refine wpAnyH_ready (rs:=[3,5]) (by kernel_rfl) (by simp) ?_
    refine (AllReadyH.cons rfl (fun K' hK=>?_) (AllReadyH.cons rfl (fun K' hK=>?_) AllReadyH.nil))
    ·go_simp
     refine hK.out _ _ ?_ (fun hHeld=>?_)
     ·exact hSD
     clear hK K'
     (try simp only [Act.put,List.setIfInBounds_toArray,List.set_cons_zero,List.set_cons_succ])
     refine wpAnyH_ready (rs:=[5]) (by kernel_rfl) (by simp) ?_
     refine (AllReadyH.cons rfl (fun K' hK=>?_) AllReadyH.nil)
     go_simp
     refine hK.out _ _ ?_ (fun hHeld=>?_)
     ·exact hSD.alloc _
     obtain ⟨bn,hbn⟩:∃ b,WD.heap.size=b:=⟨_,rfl⟩
     obtain ⟨WB,hWB⟩:∃ W,WD.alloc (.cells #[.int .i64 x1,.slice p1 n1 c1] 44)=W:=⟨_,rfl⟩
     have hnew:=cells_new WD [.int .i64 x1,.slice p1 n1 c1] 44
     rw [show ([.int .i64 x1,.slice p1 n1 c1]:List Value).toArray = #[.int .i64 x1,.slice p1 n1 c1] from rfl] at hnew
     have KB:Kp WD WB:=by rw [← hWB];exact kp_alloc (kp_refl _) _
     have cB:=kp_cell KB cD
     have fB:=kp_froz KB cD fD
     have HOB:=Lib.hid (HOD.out.kp HLAW.out KB)
     have HIB:=Lib.hid (HLAW.out.keep HID.out fun b hb=>KB.block b (Nat.lt_of_lt_of_le (HB2.out b hb).2 szD))
     have hSB:=hSD.kp KB
     have pB:=(KB.block lb (Array.getElem?_eq_some_iff.1 pD).1).trans pD
     have hbB:=Nat.le_trans hbD (Below.size KB)
     have szB:=Nat.le_trans szD (Below.size KB)
     rw [hbn,hWB] at hnew
     rw [hbn,hWB]
     rw [hWB] at hHeld
     clear hbn hWB KB
     clear hK K'
     (try simp only [Act.put,List.setIfInBounds_toArray,List.set_cons_zero,List.set_cons_succ])
     refine wpAnyH_ready (rs:=[6]) (by kernel_rfl) (by simp) ?_
     refine (AllReadyH.cons rfl (fun K' hK=>?_) AllReadyH.nil)
     obtain ⟨css,hcl,hci,how,hbb⟩:=HOB.out
     refine arm_append_own_at _ _ 25 rfl w.heap.size 44 i0 (.agg #[.int .i64 0,.slice none 0 0]) 2 32 Tryz.underlying25 HI.out HZ0.out HZ1.out HZ2.out rfl (by decide) _ _ _ rfl how ⟨bn,0,none⟩ 1 1 [.int .i64 x1,.slice p1 n1 c1] rfl rfl hnew (by simp [Value.oneCell']) (by have:=HLK.out;unfold maxLen;omega) (by have:=HLK.out;omega) hbB ?_
     intro v' w5 hown hgrow hnil hat
     have HO5:=Lib.hid (ListIs.snoc HLAW.out (a:=a) hcl hci hbb HIB.out (fun b hb=>⟨by have:=(HB2.out b hb).1;omega,Nat.lt_of_lt_of_le (HB2.out b hb).2 szB,fun e=>by have:=hub b e;have:=(HB2.out b hb).1;omega⟩) hgrow hat hown)
     have hvc:v'.cells = #[v']:=by rcases hown.2 with ⟨hv,_⟩ | ⟨g',cap,cur,hv,_⟩ <;> subst hv <;> rfl
     simp only [Value.cells] at hvc
     have hv1:v'.oneCell'=true:=by rcases hown.2 with ⟨hv,_⟩ | ⟨g',cap,cur,hv,_⟩ <;> subst hv <;> rfl
     have hS5:=hSB.grown hgrow (fun b hb=>.inl (by simp only [List.mem_cons,Option.mem_toList];exact .inr hb))
     have p5:w5.heap[lb]? = some (.cells (cs.setIfInBounds lo u) T (0,0)):=(hgrow.block lb (Array.getElem?_eq_some_iff.1 pB).1 (fun e=>by have:=hub lb e.symm;omega)).trans pB
     have c5:w5.cell? ⟨lb,lo,none⟩=some u:=by rw [cell_of_row w5 lb _ _ _ _ p5];simp [hlo]
     have f5:w5.frozen? ⟨lb,lo,none⟩=false:=frozen_of_row w5 lb _ _ _ p5
     have l5:w.heap.size≤w5.heap.size:=Nat.le_trans hbB hgrow.size
     clear hown hgrow hnil hat hnew HOB HIB hSB pB cB fB how hci hbb hcl
     refine hK.out _ _ ?_ (fun hHeld=>?_)
     ·exact hS5
     clear hK K'
     (try simp only [Act.put,List.setIfInBounds_toArray,List.set_cons_zero,List.set_cons_succ])
     refine take_yes (i:=7) (d:=55) (v:=?_) rfl rfl (by kernel_rfl) (by kernel_rfl) (by kernel_rfl) (fun _ _ _ h=>h) (by rfl) ?_ hHeld ?_
     rotate_left
     ·intro wq hSw;(try dsimp only at hSw);go_simp;(try with_reducible rfl)
     (try simp only [Act.put,List.setIfInBounds_toArray,List.set_cons_zero,List.set_cons_succ])
     refine wpAnyH_ready (rs:=[8]) (by kernel_rfl) (by simp) ?_
     refine (AllReadyH.cons rfl (fun K' hK=>?_) AllReadyH.nil)
     go_simp
     rw [run_store _ _ _ _ _ hv1]
     go_simp
     refine hK.out _ _ ?_ (fun hHeld=>?_)
     ·exact hS5.set (.inl (by simp)) _
     clear hK K'
     (try simp only [Act.put,List.setIfInBounds_toArray,List.set_cons_zero,List.set_cons_succ])
     refine wpAnyH_done (by kernel_rfl) ?_ _
     refine NoPanic.normal ?_
     go_wp2_with fail
     have hK5:KX [lb] w5 (w5.setCell ⟨lb,lo,none⟩ v'):=(KX.refl w5).set (.inl (by simp)) _
     have hS6:=hS5.trans hK5 (by simp)
     refine ⟨⟨k+1,v',bl++bl2,by omega,by go_num,?_,?_,?_,?_⟩,by simp [intOf];omega⟩
     ·rw [encL_snoc encI ha,← List.append_assoc,← List.append_assoc,List.append_assoc pre]
      exact h1.kx hS6 (by simp only [List.mem_cons,Option.mem_toList,not_or];exact ⟨hgl,fun hb=>by have:=hub g hb;omega⟩)
     ·rw [heap_setCell_same w5 lb _ _ _ _ p5];simp
     ·rw [take_snoc ha]
      exact HO5.out.kx HLAW.out hK5 (by simp;exact LLB.out)
     ·exact ((HX1.out.kp KW').trans h3' (fun b hb=>by simp at hb ⊢;rcases hb with rfl | rfl;exact .inl (.inl rfl);exact .inr (by have:=HX1.out.size;omega))).trans hS6 (fun b hb=>by simp only [List.mem_cons,Option.mem_toList] at hb ⊢;rcases hb with rfl | hb;exact .inl (.inr (.inl rfl));exact .inr (hub b hb).1)
    ·go_simp
     refine hK.out _ _ ?_ (fun hHeld=>?_)
     ·exact hSD.alloc _
     obtain ⟨bn,hbn⟩:∃ b,WD.heap.size=b:=⟨_,rfl⟩
     obtain ⟨WB,hWB⟩:∃ W,WD.alloc (.cells #[.int .i64 x1,.slice p1 n1 c1] 44)=W:=⟨_,rfl⟩
     have hnew:=cells_new WD [.int .i64 x1,.slice p1 n1 c1] 44
     rw [show ([.int .i64 x1,.slice p1 n1 c1]:List Value).toArray = #[.int .i64 x1,.slice p1 n1 c1] from rfl] at hnew
     have KB:Kp WD WB:=by rw [← hWB];exact kp_alloc (kp_refl _) _
     have cB:=kp_cell KB cD
     have fB:=kp_froz KB cD fD
     have HOB:=Lib.hid (HOD.out.kp HLAW.out KB)
     have HIB:=Lib.hid (HLAW.out.keep HID.out fun b hb=>KB.block b (Nat.lt_of_lt_of_le (HB2.out b hb).2 szD))
     have hSB:=hSD.kp KB
     have pB:=(KB.block lb (Array.getElem?_eq_some_iff.1 pD).1).trans pD
     have hbB:=Nat.le_trans hbD (Below.size KB)
     have szB:=Nat.le_trans szD (Below.size KB)
     rw [hbn,hWB] at hnew
     rw [hbn,hWB]
     rw [hWB] at hHeld
     clear hbn hWB KB
     clear hK K'
     (try simp only [Act.put,List.setIfInBounds_toArray,List.set_cons_zero,List.set_cons_succ])
     refine wpAnyH_ready (rs:=[3]) (by kernel_rfl) (by simp) ?_
     refine (AllReadyH.cons rfl (fun K' hK=>?_) AllReadyH.nil)
     go_simp
     refine hK.out _ _ ?_ (fun hHeld=>?_)
     ·exact hSB
     clear hK K'
     (try simp only [Act.put,List.setIfInBounds_toArray,List.set_cons_zero,List.set_cons_succ])
     refine wpAnyH_ready (rs:=[6]) (by kernel_rfl) (by simp) ?_
     refine (AllReadyH.cons rfl (fun K' hK=>?_) AllReadyH.nil)
     obtain ⟨css,hcl,hci,how,hbb⟩:=HOB.out
     refine arm_append_own_at _ _ 25 rfl w.heap.size 44 i0 (.agg #[.int .i64 0,.slice none 0 0]) 2 32 Tryz.underlying25 HI.out HZ0.out HZ1.out HZ2.out rfl (by decide) _ _ _ rfl how ⟨bn,0,none⟩ 1 1 [.int .i64 x1,.slice p1 n1 c1] rfl rfl hnew (by simp [Value.oneCell']) (by have:=HLK.out;unfold maxLen;omega) (by have:=HLK.out;omega) hbB ?_
     intro v' w5 hown hgrow hnil hat
     have HO5:=Lib.hid (ListIs.snoc HLAW.out (a:=a) hcl hci hbb HIB.out (fun b hb=>⟨by have:=(HB2.out b hb).1;omega,Nat.lt_of_lt_of_le (HB2.out b hb).2 szB,fun e=>by have:=hub b e;have:=(HB2.out b hb).1;omega⟩) hgrow hat hown)
     have hvc:v'.cells = #[v']:=by rcases hown.2 with ⟨hv,_⟩ | ⟨g',cap,cur,hv,_⟩ <;> subst hv <;> rfl
     simp only [Value.cells] at hvc
     have hv1:v'.oneCell'=true:=by rcases hown.2 with ⟨hv,_⟩ | ⟨g',cap,cur,hv,_⟩ <;> subst hv <;> rfl
     have hS5:=hSB.grown hgrow (fun b hb=>.inl (by simp only [List.mem_cons,Option.mem_toList];exact .inr hb))
     have p5:w5.heap[lb]? = some (.cells (cs.setIfInBounds lo u) T (0,0)):=(hgrow.block lb (Array.getElem?_eq_some_iff.1 pB).1 (fun e=>by have:=hub lb e.symm;omega)).trans pB
     have c5:w5.cell? ⟨lb,lo,none⟩=some u:=by rw [cell_of_row w5 lb _ _ _ _ p5];simp [hlo]
     have f5:w5.frozen? ⟨lb,lo,none⟩=false:=frozen_of_row w5 lb _ _ _ p5
     have l5:w.heap.size≤w5.heap.size:=Nat.le_trans hbB hgrow.size
     clear hown hgrow hnil hat hnew HOB HIB hSB pB cB fB how hci hbb hcl
     refine hK.out _ _ ?_ (fun hHeld=>?_)
     ·exact hS5
     clear hK K'
     (try simp only [Act.put,List.setIfInBounds_toArray,List.set_cons_zero,List.set_cons_succ])
     refine take_yes (i:=7) (d:=55) (v:=?_) rfl rfl (by kernel_rfl) (by kernel_rfl) (by kernel_rfl) (fun _ _ _ h=>h) (by rfl) ?_ hHeld ?_
     rotate_left
     ·intro wq hSw;(try dsimp only at hSw);go_simp;(try with_reducible rfl)
     (try simp only [Act.put,List.setIfInBounds_toArray,List.set_cons_zero,List.set_cons_succ])
     refine wpAnyH_ready (rs:=[8]) (by kernel_rfl) (by simp) ?_
     refine (AllReadyH.cons rfl (fun K' hK=>?_) AllReadyH.nil)
     go_simp
     rw [run_store _ _ _ _ _ hv1]
     go_simp
     refine hK.out _ _ ?_ (fun hHeld=>?_)
     ·exact hS5.set (.inl (by simp)) _
     clear hK K'
     (try simp only [Act.put,List.setIfInBounds_toArray,List.set_cons_zero,List.set_cons_succ])
     refine wpAnyH_done (by kernel_rfl) ?_ _
     refine NoPanic.normal ?_
     go_wp2_with fail
     have hK5:KX [lb] w5 (w5.setCell ⟨lb,lo,none⟩ v'):=(KX.refl w5).set (.inl (by simp)) _
     have hS6:=hS5.trans hK5 (by simp)
     refine ⟨⟨k+1,v',bl++bl2,by omega,by go_num,?_,?_,?_,?_⟩,by simp [intOf];omega⟩
     ·rw [encL_snoc encI ha,← List.append_assoc,← List.append_assoc,List.append_assoc pre]
      exact h1.kx hS6 (by simp only [List.mem_cons,Option.mem_toList,not_or];exact ⟨hgl,fun hb=>by have:=hub g hb;omega⟩)
     ·rw [heap_setCell_same w5 lb _ _ _ _ p5];simp
     ·rw [take_snoc ha]
      exact HO5.out.kx HLAW.out hK5 (by simp;exact LLB.out)
     ·exact ((HX1.out.kp KW').trans h3' (fun b hb=>by simp at hb ⊢;rcases hb with rfl | rfl;exact .inl (.inl rfl);exact .inr (by have:=HX1.out.size;omega))).trans hS6 (fun b hb=>by simp only [List.mem_cons,Option.mem_toList] at hb ⊢;rcases hb with rfl | hb;exact .inl (.inr (.inl rfl));exact .inr (hub b hb).1)
   ·obtain rfl:k=m:=by omega
    have z1:¬ (k:Int)<(k:Int):=by omega
    go_wp2_with fail
    go_end0
    have e1:l.take k=l:=List.take_of_length_le (by rw [HLEN.out];exact Nat.le_refl _)
    have h1:=HRD2.out
    have h2:=HOW.out
    rw [e1] at h1 h2
    exact ⟨rfl,by have h:=h1;simpa [List.length_append] using h,u,HPR.out,⟨bl,h2⟩,HX2.out⟩
theorem row4_ok (x1 x2 x3 x4:Nat) (t:Value):∀ k,k<4→∃ z:Int,(setAll #[.int .i64 0,.int .i64 0,.int .i64 0,.int .i64 0,t] ([0,1,2,3].take k) ([x1,x2,x3,x4].take k))[[0,1,2,3].getD k 0]? = some (.int .i64 z):=by
 intro k hk
 match k,hk with
 | 0,_=>exact ⟨0,rfl⟩
 | 1,_=>exact ⟨0,rfl⟩
 | 2,_=>exact ⟨0,rfl⟩
 | 3,_=>exact ⟨0,rfl⟩
theorem row1_ok (x1:Nat) (t:Value):∀ k,k<1→∃ z:Int,(setAll #[.int .i64 0,t] ([0].take k) ([x1].take k))[[0].getD k 0]? = some (.int .i64 z):=by
 intro k hk
 match k,hk with
 | 0,_=>exact ⟨0,rfl⟩
set_option maxHeartbeats 8000000 in
set_option maxRecDepth 100000 in
theorem item_jur (gr g:Nat) (v:Value) (bs:List Int) (hl:bs.length≤100000) (j:JU) (hj:j.Ok):ItemC 119 39 #[.int .i64 0,.int .i64 0,.int .i64 0,.int .i64 0,.slice none 0 0] gr g v bs I_jur JU.encJ j:=by
 intro px pr po w hR hbs hg hvq hr hp hne hgr
 have lg:=hg.lt
 have lp:px<w.heap.size:=(Array.getElem?_eq_some_iff.1 hp).1
 have hvq2:∀ b off n c,v=.slice (some ⟨b,off,none⟩) n c→b∉[g,px]:=fun b off n c hv=>by have:=hvq b off n c hv;simp;exact this
 have hgr2:gr∉[g,px]:=by simp;exact hgr
 have HC1:=Lib.hid (fun lb w' (k:Kp w w') (c0:w'.cell? ⟨lb,0,none⟩=some (.pointer (some ⟨px,0,none⟩))) (c1:w'.cell? ⟨lb,1,none⟩=some (.pointer (some ⟨px,1,none⟩))) (c2:w'.cell? ⟨lb,2,none⟩=some (.pointer (some ⟨px,2,none⟩))) (c3:w'.cell? ⟨lb,3,none⟩=some (.pointer (some ⟨px,3,none⟩))) (n1:lb≠g∧lb≠px) =>
  cr_numbers gr g px lb 4 4 v bs pr ((enc j.rings.length++encL encRing j.rings)++po) [j.id,j.kind,j.par,j.fil] [0,1,2,3] #[.int .i64 0,.int .i64 0,.int .i64 0,.int .i64 0,.slice none 0 0] 39 rfl rfl (by decide)
   (fun k hk=>by match k,hk with | 0,_=>exact hj.id | 1,_=>exact hj.kind | 2,_=>exact hj.par | 3,_=>exact hj.fil) (row4_ok _ _ _ _ _) w' (hR.kp k) (by rw [hbs];unfold JU.encJ;simp) hl (hg.kp k) hvq (kp_cell k hr) ((k.block px lp).trans hp)
   (fun k hk=>by match k,hk with | 0,_=>exact c0 | 1,_=>exact c1 | 2,_=>exact c2 | 3,_=>exact c3) hne hgr n1)
 have HC2:=Lib.hid (fun w' (k:KX [g,px] w w') (h1:RdrB g v (pr++encs [j.id,j.kind,j.par,j.fil]).length w') (h2:w'.heap[px]? = some (.cells #[.int .i64 j.id,.int .i64 j.kind,.int .i64 j.par,.int .i64 j.fil,.slice none 0 0] 39 (0,0))) =>
  cr_listRings I_ring encRing law_ring sh_ring gr g px 4 j.rings.length v bs (pr++encs [j.id,j.kind,j.par,j.fil]) po j.rings #[.int .i64 j.id,.int .i64 j.kind,.int .i64 j.par,.int .i64 j.fil,.slice none 0 0] 39 (fun a ha=>item_ring gr g v bs hl a (hj.rings a ha)) rfl hj.pos hj.le w' (hR.kx k hvq2) (by rw [hbs];unfold JU.encJ;simp) hl h1 hvq (k.cell hr hgr2) h2 rfl hne hgr)
 clear hR hbs hl hg hvq hr hp hvq2
 go_enter Tryz.func119,Tryz.ntmps119
 go_upto_region 0 with fail
 go_region_with (go_at_call 202;refine (HC1.out w.heap.size _ (by (repeat (first | exact kp_refl _ | apply kp_alloc | apply kp_drew | apply kp_drewN))) (by simp [go_sem]) (by simp [go_sem]) (by simp [go_sem]) (by simp [go_sem]) (by omega)).mono ?_;rintro e w4 ⟨rfl,h1,h2,h3⟩)
 have h3':KX [g,px] w w4:=KX.then (KX.of (by (repeat (first | exact kp_refl _ | apply kp_alloc | apply kp_drew | apply kp_drewN)))) h3
 have h2':w4.heap[px]? = some (.cells #[.int .i64 j.id,.int .i64 j.kind,.int .i64 j.par,.int .i64 j.fil,.slice none 0 0] 39 (0,0)):=h2
 have hs4:=h3'.size
 clear h2 h3
 go_wp2_with (go_at_call 203;refine (HC2.out _ h3' h1 h2').mono ?_;rintro e w5 ⟨rfl,h5,u,bl,h6,h7,h8⟩)
 go_end0
 refine ⟨rfl,by have h:=h5;unfold JU.encJ;simpa using h,⟨[.int .i64 j.id,.int .i64 j.kind,.int .i64 j.par,.int .i64 j.fil,u],u.ownBlock.toList++bl,h6,⟨u,bl,rfl,h7.mono (Nat.zero_le _),?_⟩,?_⟩,h3'.then h8⟩
 ·rintro b (hb | hb)
  ·exact List.mem_append_right _ hb
  ·exact List.mem_append_left _ (by simpa using hb)
 ·intro b hb
  rcases List.mem_append.1 hb with hb | hb
  ·have:=h7.lt b (by simpa using hb);exact ⟨Nat.le_trans hs4 this.1,this.2⟩
  ·obtain ⟨css,_,_,_,hbb⟩:=h7
   have:=hbb b hb;exact ⟨Nat.le_trans hs4 this.1,this.2.1⟩
set_option maxHeartbeats 8000000 in
set_option maxRecDepth 100000 in
theorem item_rat (gr g:Nat) (v:Value) (bs:List Int) (hl:bs.length≤100000) (r:RT) (hj:r.Ok):ItemC 121 44 #[.int .i64 0,.slice none 0 0] gr g v bs I_rat RT.encT r:=by
 intro px pr po w hR hbs hg hvq hr hp hne hgr
 have lg:=hg.lt
 have lp:px<w.heap.size:=(Array.getElem?_eq_some_iff.1 hp).1
 have hvq2:∀ b off n c,v=.slice (some ⟨b,off,none⟩) n c→b∉[g,px]:=fun b off n c hv=>by have:=hvq b off n c hv;simp;exact this
 have hgr2:gr∉[g,px]:=by simp;exact hgr
 have HC1:=Lib.hid (fun lb w' (k:Kp w w') (c0:w'.cell? ⟨lb,0,none⟩=some (.pointer (some ⟨px,0,none⟩))) (n1:lb≠g∧lb≠px) =>
  cr_numbers gr g px lb 1 1 v bs pr ((enc r.ds.length++encL (fun d:NPt=>encs [d.1,d.2]) r.ds)++po) [r.id] [0] #[.int .i64 0,.slice none 0 0] 44 rfl rfl (by decide)
   (fun k hk=>by match k,hk with | 0,_=>exact hj.id) (row1_ok _ _) w' (hR.kp k) (by rw [hbs];unfold RT.encT;simp) hl (hg.kp k) hvq (kp_cell k hr) ((k.block px lp).trans hp)
   (fun k hk=>by match k,hk with | 0,_=>exact c0) hne hgr n1)
 have HC2:=Lib.hid (fun w' (k:KX [g,px] w w') (h1:RdrB g v (pr++encs [r.id]).length w') (h2:w'.heap[px]? = some (.cells #[.int .i64 r.id,.slice none 0 0] 44 (0,0))) =>
  cr_listDated I_day (fun d:NPt=>encs [d.1,d.2]) law_day sh_day gr g px 1 r.ds.length v bs (pr++encs [r.id]) po r.ds #[.int .i64 r.id,.slice none 0 0] 44 (fun a ha=>item_day gr g v bs hl a (hj.ds a ha)) rfl hj.pos hj.le w' (hR.kx k hvq2) (by rw [hbs];unfold RT.encT;simp) hl h1 hvq (k.cell hr hgr2) h2 rfl hne hgr)
 clear hR hbs hl hg hvq hr hp hvq2
 go_enter Tryz.func121,Tryz.ntmps121
 go_wp2_with (first | (go_at_call 202;refine (HC1.out w.heap.size _ (by (repeat (first | exact kp_refl _ | apply kp_alloc | apply kp_drew | apply kp_drewN))) (by simp [go_sem]) (by omega)).mono ?_;rintro e w4 ⟨rfl,h1,h2,h3⟩;have h3':KX [g,px] w w4:=KX.then (KX.of (by (repeat (first | exact kp_refl _ | apply kp_alloc | apply kp_drew | apply kp_drewN)))) h3;have h2':w4.heap[px]? = some (.cells #[.int .i64 r.id,.slice none 0 0] 44 (0,0)):=h2;have hs4:=h3'.size;clear h2 h3) | (go_at_call 205;refine (HC2.out _ h3' h1 h2').mono ?_;rintro e w5 ⟨rfl,h5,u,bl,h6,h7,h8⟩))
 go_end0
 refine ⟨rfl,by have h:=h5;unfold RT.encT;simpa using h,⟨[.int .i64 r.id,u],u.ownBlock.toList++bl,h6,⟨u,bl,rfl,h7.mono (Nat.zero_le _),?_⟩,?_⟩,h3'.then h8⟩
 ·rintro b (hb | hb)
  ·exact List.mem_append_right _ hb
  ·exact List.mem_append_left _ (by simpa using hb)
 ·intro b hb
  rcases List.mem_append.1 hb with hb | hb
  ·have:=h7.lt b (by simpa using hb);exact ⟨Nat.le_trans hs4 this.1,this.2⟩
  ·obtain ⟨css,_,_,_,hbb⟩:=h7
   have:=hbb b hb;exact ⟨Nat.le_trans hs4 this.1,this.2.1⟩
end Go.Proofs.YtgliljnbajohhaaGreatDoor
namespace Go.Proofs.YtgliljnbajohhaaGreatDoor
open Go.RowKit Go.Proofs.Top
set_option maxHeartbeats 8000000 in
set_option maxRecDepth 100000 in
theorem cr_noneRule (gr g lb lo:Nat) (v:Value) (bs pre post:List Int) (cs:Array Value) (T:TypeId) (w:World) (hR:RdU w v bs) (hbs:bs=pre++(enc 0++post)) (hl:bs.length≤100000) (hg:RdrB g v pre.length w)
  (hr:w.cell? ⟨gr,0,none⟩=some (.pointer (some ⟨g,0,none⟩))) (hp:w.heap[lb]? = some (.cells cs T (0,0))) (hcs:cs[lo]? = some (.slice none 0 0)) (hne:lb≠g) (hgr:gr≠g∧gr≠lb) :
  Calls Tryz.prog 122 #[.iface 146 (.pointer (some ⟨gr,0,none⟩)),.pointer (some ⟨lb,lo,none⟩),.func (.func 123) #[] #[]] w fun e w' =>
   e=.returned (.tuple #[])∧RdrB g v (pre++enc 0).length w'∧KX [g] w w':=by
 have lg:=hg.lt
 have llb:lb<w.heap.size:=(Array.getElem?_eq_some_iff.1 hp).1
 have c0:w.cell? ⟨lb,lo,none⟩=some (.slice none 0 0):=by rw [cell_of_row w lb _ _ _ _ hp];exact hcs
 have HC:=Lib.hid (fun w' (k:Kp w w')=>cr_count gr g v bs pre post 0 (by omega) 0 w' (hR.kp k) hbs hl (hg.kp k) (kp_cell k hr))
 have HCR:=Lib.hid hr;have HP:=Lib.hid hp;have HCS:=Lib.hid hcs
 have hm1:=mth_rcount (some ⟨gr,0,none⟩)
 have hm3:=mth_rfine (some ⟨gr,0,none⟩)
 have hm2':=nil_rcount ⟨gr,0,none⟩
 clear hR hbs hl hg hr hp hcs
 go_enter Tryz.func122,Tryz.ntmps122
 go_upto_region 0 with fail
 go_cut [6] (fun n wx=>n=.int .i64 0∧RdrB g v (pre++enc 0).length wx∧KX [g] w wx)
 case first =>
  go_region_with (go_at_call 519;refine (HC.out _ (by (repeat (first | exact kp_refl _ | apply kp_alloc | apply kp_drew | apply kp_drewN)))).mono ?_;rintro e w4 ⟨rfl,h1,h2⟩)
  all_goals
   go_wp2_with fail
   go_meet
   exact ⟨rfl,h1,KX.then (KX.of (by (repeat (first | exact kp_refl _ | apply kp_alloc | apply kp_drew | apply kp_drewN)))) h2⟩
 case rest =>
  obtain ⟨rfl,hrd,hkx⟩:=hcut
  have hlg:lb∉[g]:=by simpa using hne
  have hp1:=hkx.row HP.out hlg
  have c1:wc.cell? ⟨lb,lo,none⟩=some (.slice none 0 0):=by rw [cell_of_row wc lb _ _ _ _ hp1];exact HCS.out
  have llb1:=cell_lt c1
  have HRD:=Lib.hid hrd;have HKX:=Lib.hid hkx
  clear hrd hkx hp1 HC c0
  go_wp2_with fail
  go_loopw [8] (fun i wr=>i=.int .i64 0∧RdrB g v (pre++enc 0).length wr∧KX [g] w wr) (fun i _=>0)
  case atStart=>exact ⟨rfl,HRD.out,HKX.out⟩
  case round =>
   obtain ⟨rfl,hrd,hkx⟩:=hrel
   have HRD2:=Lib.hid hrd;have HX2:=Lib.hid hkx
   clear hrd hkx HRD HKX c1 llb1
   go_wp2_with fail
   go_end0
   exact ⟨rfl,by have h:=HRD2.out;simpa [List.length_append] using h,HX2.out⟩
set_option maxHeartbeats 8000000 in
set_option maxRecDepth 100000 in
theorem cr_noneCert (gr g lb lo:Nat) (v:Value) (bs pre post:List Int) (cs:Array Value) (T:TypeId) (w:World) (hR:RdU w v bs) (hbs:bs=pre++(enc 0++post)) (hl:bs.length≤100000) (hg:RdrB g v pre.length w)
  (hr:w.cell? ⟨gr,0,none⟩=some (.pointer (some ⟨g,0,none⟩))) (hp:w.heap[lb]? = some (.cells cs T (0,0))) (hcs:cs[lo]? = some (.slice none 0 0)) (hne:lb≠g) (hgr:gr≠g∧gr≠lb) :
  Calls Tryz.prog 124 #[.iface 146 (.pointer (some ⟨gr,0,none⟩)),.pointer (some ⟨lb,lo,none⟩),.func (.func 125) #[] #[]] w fun e w' =>
   e=.returned (.tuple #[])∧RdrB g v (pre++enc 0).length w'∧KX [g] w w':=by
 have lg:=hg.lt
 have llb:lb<w.heap.size:=(Array.getElem?_eq_some_iff.1 hp).1
 have c0:w.cell? ⟨lb,lo,none⟩=some (.slice none 0 0):=by rw [cell_of_row w lb _ _ _ _ hp];exact hcs
 have HC:=Lib.hid (fun w' (k:Kp w w')=>cr_count gr g v bs pre post 0 (by omega) 0 w' (hR.kp k) hbs hl (hg.kp k) (kp_cell k hr))
 have HCR:=Lib.hid hr;have HP:=Lib.hid hp;have HCS:=Lib.hid hcs
 have hm1:=mth_rcount (some ⟨gr,0,none⟩)
 have hm3:=mth_rfine (some ⟨gr,0,none⟩)
 have hm2':=nil_rcount ⟨gr,0,none⟩
 clear hR hbs hl hg hr hp hcs
 go_enter Tryz.func124,Tryz.ntmps124
 go_upto_region 0 with fail
 go_cut [6] (fun n wx=>n=.int .i64 0∧RdrB g v (pre++enc 0).length wx∧KX [g] w wx)
 case first =>
  go_region_with (go_at_call 519;refine (HC.out _ (by (repeat (first | exact kp_refl _ | apply kp_alloc | apply kp_drew | apply kp_drewN)))).mono ?_;rintro e w4 ⟨rfl,h1,h2⟩)
  all_goals
   go_wp2_with fail
   go_meet
   exact ⟨rfl,h1,KX.then (KX.of (by (repeat (first | exact kp_refl _ | apply kp_alloc | apply kp_drew | apply kp_drewN)))) h2⟩
 case rest =>
  obtain ⟨rfl,hrd,hkx⟩:=hcut
  have hlg:lb∉[g]:=by simpa using hne
  have hp1:=hkx.row HP.out hlg
  have c1:wc.cell? ⟨lb,lo,none⟩=some (.slice none 0 0):=by rw [cell_of_row wc lb _ _ _ _ hp1];exact HCS.out
  have llb1:=cell_lt c1
  have HRD:=Lib.hid hrd;have HKX:=Lib.hid hkx
  clear hrd hkx hp1 HC c0
  go_wp2_with fail
  go_loopw [8] (fun i wr=>i=.int .i64 0∧RdrB g v (pre++enc 0).length wr∧KX [g] w wr) (fun i _=>0)
  case atStart=>exact ⟨rfl,HRD.out,HKX.out⟩
  case round =>
   obtain ⟨rfl,hrd,hkx⟩:=hrel
   have HRD2:=Lib.hid hrd;have HX2:=Lib.hid hkx
   clear hrd hkx HRD HKX c1 llb1
   go_wp2_with fail
   go_end0
   exact ⟨rfl,by have h:=HRD2.out;simpa [List.length_append] using h,HX2.out⟩
set_option maxHeartbeats 8000000 in
set_option maxRecDepth 100000 in
theorem cr_noneHoliday (gr g lb lo:Nat) (v:Value) (bs pre post:List Int) (cs:Array Value) (T:TypeId) (w:World) (hR:RdU w v bs) (hbs:bs=pre++(enc 0++post)) (hl:bs.length≤100000) (hg:RdrB g v pre.length w)
  (hr:w.cell? ⟨gr,0,none⟩=some (.pointer (some ⟨g,0,none⟩))) (hp:w.heap[lb]? = some (.cells cs T (0,0))) (hcs:cs[lo]? = some (.slice none 0 0)) (hne:lb≠g) (hgr:gr≠g∧gr≠lb) :
  Calls Tryz.prog 126 #[.iface 146 (.pointer (some ⟨gr,0,none⟩)),.pointer (some ⟨lb,lo,none⟩),.func (.func 127) #[] #[]] w fun e w' =>
   e=.returned (.tuple #[])∧RdrB g v (pre++enc 0).length w'∧KX [g] w w':=by
 have lg:=hg.lt
 have llb:lb<w.heap.size:=(Array.getElem?_eq_some_iff.1 hp).1
 have c0:w.cell? ⟨lb,lo,none⟩=some (.slice none 0 0):=by rw [cell_of_row w lb _ _ _ _ hp];exact hcs
 have HC:=Lib.hid (fun w' (k:Kp w w')=>cr_count gr g v bs pre post 0 (by omega) 0 w' (hR.kp k) hbs hl (hg.kp k) (kp_cell k hr))
 have HCR:=Lib.hid hr;have HP:=Lib.hid hp;have HCS:=Lib.hid hcs
 have hm1:=mth_rcount (some ⟨gr,0,none⟩)
 have hm3:=mth_rfine (some ⟨gr,0,none⟩)
 have hm2':=nil_rcount ⟨gr,0,none⟩
 clear hR hbs hl hg hr hp hcs
 go_enter Tryz.func126,Tryz.ntmps126
 go_upto_region 0 with fail
 go_cut [6] (fun n wx=>n=.int .i64 0∧RdrB g v (pre++enc 0).length wx∧KX [g] w wx)
 case first =>
  go_region_with (go_at_call 519;refine (HC.out _ (by (repeat (first | exact kp_refl _ | apply kp_alloc | apply kp_drew | apply kp_drewN)))).mono ?_;rintro e w4 ⟨rfl,h1,h2⟩)
  all_goals
   go_wp2_with fail
   go_meet
   exact ⟨rfl,h1,KX.then (KX.of (by (repeat (first | exact kp_refl _ | apply kp_alloc | apply kp_drew | apply kp_drewN)))) h2⟩
 case rest =>
  obtain ⟨rfl,hrd,hkx⟩:=hcut
  have hlg:lb∉[g]:=by simpa using hne
  have hp1:=hkx.row HP.out hlg
  have c1:wc.cell? ⟨lb,lo,none⟩=some (.slice none 0 0):=by rw [cell_of_row wc lb _ _ _ _ hp1];exact HCS.out
  have llb1:=cell_lt c1
  have HRD:=Lib.hid hrd;have HKX:=Lib.hid hkx
  clear hrd hkx hp1 HC c0
  go_wp2_with fail
  go_loopw [8] (fun i wr=>i=.int .i64 0∧RdrB g v (pre++enc 0).length wr∧KX [g] w wr) (fun i _=>0)
  case atStart=>exact ⟨rfl,HRD.out,HKX.out⟩
  case round =>
   obtain ⟨rfl,hrd,hkx⟩:=hrel
   have HRD2:=Lib.hid hrd;have HX2:=Lib.hid hkx
   clear hrd hkx HRD HKX c1 llb1
   go_wp2_with fail
   go_end0
   exact ⟨rfl,by have h:=HRD2.out;simpa [List.length_append] using h,HX2.out⟩
set_option maxHeartbeats 8000000 in
set_option maxRecDepth 100000 in
theorem cr_noneStreet (gr g lb lo:Nat) (v:Value) (bs pre post:List Int) (cs:Array Value) (T:TypeId) (w:World) (hR:RdU w v bs) (hbs:bs=pre++(enc 0++post)) (hl:bs.length≤100000) (hg:RdrB g v pre.length w)
  (hr:w.cell? ⟨gr,0,none⟩=some (.pointer (some ⟨g,0,none⟩))) (hp:w.heap[lb]? = some (.cells cs T (0,0))) (hcs:cs[lo]? = some (.slice none 0 0)) (hne:lb≠g) (hgr:gr≠g∧gr≠lb) :
  Calls Tryz.prog 128 #[.iface 146 (.pointer (some ⟨gr,0,none⟩)),.pointer (some ⟨lb,lo,none⟩),.func (.func 129) #[] #[]] w fun e w' =>
   e=.returned (.tuple #[])∧RdrB g v (pre++enc 0).length w'∧KX [g] w w':=by
 have lg:=hg.lt
 have llb:lb<w.heap.size:=(Array.getElem?_eq_some_iff.1 hp).1
 have c0:w.cell? ⟨lb,lo,none⟩=some (.slice none 0 0):=by rw [cell_of_row w lb _ _ _ _ hp];exact hcs
 have HC:=Lib.hid (fun w' (k:Kp w w')=>cr_count gr g v bs pre post 0 (by omega) 0 w' (hR.kp k) hbs hl (hg.kp k) (kp_cell k hr))
 have HCR:=Lib.hid hr;have HP:=Lib.hid hp;have HCS:=Lib.hid hcs
 have hm1:=mth_rcount (some ⟨gr,0,none⟩)
 have hm3:=mth_rfine (some ⟨gr,0,none⟩)
 have hm2':=nil_rcount ⟨gr,0,none⟩
 clear hR hbs hl hg hr hp hcs
 go_enter Tryz.func128,Tryz.ntmps128
 go_upto_region 0 with fail
 go_cut [6] (fun n wx=>n=.int .i64 0∧RdrB g v (pre++enc 0).length wx∧KX [g] w wx)
 case first =>
  go_region_with (go_at_call 519;refine (HC.out _ (by (repeat (first | exact kp_refl _ | apply kp_alloc | apply kp_drew | apply kp_drewN)))).mono ?_;rintro e w4 ⟨rfl,h1,h2⟩)
  all_goals
   go_wp2_with fail
   go_meet
   exact ⟨rfl,h1,KX.then (KX.of (by (repeat (first | exact kp_refl _ | apply kp_alloc | apply kp_drew | apply kp_drewN)))) h2⟩
 case rest =>
  obtain ⟨rfl,hrd,hkx⟩:=hcut
  have hlg:lb∉[g]:=by simpa using hne
  have hp1:=hkx.row HP.out hlg
  have c1:wc.cell? ⟨lb,lo,none⟩=some (.slice none 0 0):=by rw [cell_of_row wc lb _ _ _ _ hp1];exact HCS.out
  have llb1:=cell_lt c1
  have HRD:=Lib.hid hrd;have HKX:=Lib.hid hkx
  clear hrd hkx hp1 HC c0
  go_wp2_with fail
  go_loopw [8] (fun i wr=>i=.int .i64 0∧RdrB g v (pre++enc 0).length wr∧KX [g] w wr) (fun i _=>0)
  case atStart=>exact ⟨rfl,HRD.out,HKX.out⟩
  case round =>
   obtain ⟨rfl,hrd,hkx⟩:=hrel
   have HRD2:=Lib.hid hrd;have HX2:=Lib.hid hkx
   clear hrd hkx HRD HKX c1 llb1
   go_wp2_with fail
   go_end0
   exact ⟨rfl,by have h:=HRD2.out;simpa [List.length_append] using h,HX2.out⟩
end Go.Proofs.YtgliljnbajohhaaGreatDoor
