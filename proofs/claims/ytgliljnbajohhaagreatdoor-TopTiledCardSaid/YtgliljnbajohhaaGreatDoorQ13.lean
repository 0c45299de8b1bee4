import Derived.Test.YtgliljnbajohhaaGreatDoorQ11
import Derived.Test.YtgliljnbajohhaaGreatDoorQ12
import Derived.Test.YtgliljnbajohhaaGreatDoorQ09
set_option linter.unusedVariables false
set_option linter.unusedSimpArgs false
namespace Go.Proofs.YtgliljnbajohhaaGreatDoor
open Go.RowKit Go.Proofs.Top Go.Proofs.Geo
theorem infoDated:(Tryz.prog.info? 41).map (fun i=>(i.zero,i.size,i.bytes))=some (some (.agg #[.int .i64 0,.int .i64 0]),2,16):=by kernel_rfl
set_option maxHeartbeats 16000000 in
set_option maxRecDepth 100000 in
theorem cr_listDated {α:Type} (I:World→List Nat→List Value→α→Prop) (encI:α→List Int) (hlaw:ItemLaw I) (hsh:∀ w bl c a,I w bl c a→∃ (x1 x2:Int),c=[.int .i64 x1,.int .i64 x2])
  (gr g lb lo m:Nat) (v:Value) (bs pre post:List Int) (l:List α) (cs:Array Value) (T:TypeId) (hit:∀ a∈l,ItemC 206 41 #[.int .i64 0,.int .i64 0] gr g v bs I encI a) (hlen:l.length=m) (hm:0<m) (hm2:m≤1000)
  (w:World) (hR:RdU w v bs) (hbs:bs=pre++((enc m++encL encI l)++post)) (hl:bs.length≤100000) (hg:RdrB g v pre.length w) (hvq:∀ b off n c,v=.slice (some ⟨b,off,none⟩) n c→b≠g∧b≠lb)
  (hr:w.cell? ⟨gr,0,none⟩=some (.pointer (some ⟨g,0,none⟩))) (hp:w.heap[lb]? = some (.cells cs T (0,0))) (hcs:cs[lo]? = some (.slice none 0 0)) (hne:lb≠g) (hgr:gr≠g∧gr≠lb) :
  Calls Tryz.prog 205 #[.iface 146 (.pointer (some ⟨gr,0,none⟩)),.pointer (some ⟨lb,lo,none⟩),.func (.func 206) #[] #[]] w fun e w' =>
   e=.returned (.tuple #[])∧RdrB g v (pre++(enc m++encL encI l)).length w'∧∃ u bl,w'.heap[lb]? = some (.cells (cs.setIfInBounds lo u) T (0,0))∧ListIs I 41 2 w.heap.size w' bl u l∧KX [g,lb] w w':=by
 have lg:=hg.lt
 have llb:lb<w.heap.size:=(Array.getElem?_eq_some_iff.1 hp).1
 have LG:=Lib.hid lg;have LLB:=Lib.hid llb
 have c0:w.cell? ⟨lb,lo,none⟩=some (.slice none 0 0):=by rw [cell_of_row w lb _ _ _ _ hp];exact hcs
 have HC:=Lib.hid (fun w' (k:Kp w w')=>cr_count gr g v bs pre (encL encI l++post) m (by omega) 0 w' (hR.kp k) (by rw [hbs,List.append_assoc]) hl (hg.kp k) (kp_cell k hr))
 have HLAW:=Lib.hid hlaw;have HSH:=Lib.hid hsh;have HIT:=Lib.hid hit
 have HLEN:=Lib.hid hlen;have HR:=Lib.hid hR;have HBS:=Lib.hid hbs;have HL:=Lib.hid hl;have HVQ:=Lib.hid hvq;have HCR:=Lib.hid hr;have HP:=Lib.hid hp;have HCS:=Lib.hid hcs
 have hm1:=mth_rcount (some ⟨gr,0,none⟩)
 have hm3:=mth_rfine (some ⟨gr,0,none⟩)
 have hm2':=nil_rcount ⟨gr,0,none⟩
 clear hlen hlaw hsh hit hR hbs hl hg hvq hr hp hcs
 go_enter Tryz.func205,Tryz.ntmps205
 go_upto_region 0 with fail
 go_cut [6] (fun n wx=>n=.int .i64 m∧RdrB g v (pre++enc m).length wx∧KX [g] w wx)
 case first =>
  go_region_with (go_at_call 519;refine (HC.out _ (by (repeat (first | exact kp_refl _ | apply kp_alloc | apply kp_drew | apply kp_drewN)))).mono ?_;rintro e w4 ⟨rfl,h1,h2⟩)
  all_goals
   go_wp2_with fail
   go_meet
   exact ⟨rfl,h1,KX.then (KX.of (by (repeat (first | exact kp_refl _ | apply kp_alloc | apply kp_drew | apply kp_drewN)))) h2⟩
 case rest =>
  obtain ⟨rfl,hrd,hkx⟩:=hcut
  have hlg:lb∉[g]:=by simpa using hne
  have hp1:=hkx.row HP.out hlg
  have c1:wc.cell? ⟨lb,lo,none⟩=some (.slice none 0 0):=by rw [cell_of_row wc lb _ _ _ _ hp1];exact HCS.out
  have llb1:=cell_lt c1
  have z0:(0:Int)<(m:Int):=by omega
  have HRD:=Lib.hid hrd;have HKX:=Lib.hid hkx;have HP1:=Lib.hid hp1
  have hpl:=HKX.out.size
  clear hrd hkx hp1 HC c0
  go_wp2_with fail
  go_loopw [8] (fun i wr=>∃ (k:Nat) (u:Value) (bl:List Nat),k≤m∧i=.int .i64 k∧RdrB g v (pre++(enc m++encL encI (l.take k))).length wr∧wr.heap[lb]? = some (.cells (cs.setIfInBounds lo u) T (0,0))∧ListIs I 41 2 w.heap.size wr bl u (l.take k)∧KX [g,lb] w wr) (fun i _=>m - (intOf i).toNat)
  case atStart =>
   refine ⟨0,.slice none 0 0,[],by omega,rfl,by simpa [encL] using HRD.out,?_,ListIs.nil _,HKX.out.mono (by simp)⟩
   rw [HP1.out]
   congr 2
   apply Array.ext_getElem?
   intro j
   rw [Array.getElem?_setIfInBounds]
   by_cases e:lo=j
   ·subst e
    rw [if_pos rfl,HCS.out]
    have hlo:lo<cs.size:=(Array.getElem?_eq_some_iff.1 HCS.out).1
    rw [if_pos hlo]
   ·rw [if_neg e]
  case round =>
   obtain ⟨k,u,bl,hk,rfl,hrd,hpr,hown,hkx⟩:=hrel
   have HRD2:=Lib.hid hrd;have HPR:=Lib.hid hpr;have HOW:=Lib.hid hown;have HX2:=Lib.hid hkx
   clear hrd hpr hown hkx HRD HKX HP1 c1 llb1
   have hgr1:gr∉[g,lb]:=by simp;exact hgr
   by_cases hlt:k<m
   ·have z1:(k:Int)<(m:Int):=by omega
    have z2:¬ (k:Int)<0:=by omega
    have wi:IntKind.i64.wrap ((k:Int)+1)=(k:Int)+1:=IntWalk.i64_in _ (by omega)
    have z3:decide ((k:Int)<0)=false:=decide_eq_false z2
    have HF:=Lib.hid (cr_fine gr g v _ wr HRD2.out (HX2.out.cell HCR.out hgr1))
    go_upto_region 9 with (go_at_call 520;refine HF.out.mono ?_;rintro e w1 ⟨rfl,hk1⟩)
    have hgl:g≠lb:=fun e=>hne e.symm
    have HR1:=Lib.hid (HRD2.out.kp hk1);have HX1:=Lib.hid (HX2.out.kp hk1);have HO1:=Lib.hid (HOW.out.kp HLAW.out hk1);have HP1:=Lib.hid ((hk1.block lb (Array.getElem?_eq_some_iff.1 HPR.out).1).trans HPR.out)
    have hen:1≤(enc m).length:=(vz_len (by omega)).1
    have HVL:Hid (∀ b off n c,v=.slice (some ⟨b,off,none⟩) n c→b<w1.heap.size):=by
     refine Lib.hid ?_
     intro b off n c hv
     obtain ⟨b',off',c',hv',_,hc⟩:=HR.out
     rw [hv'] at hv
     simp only [Value.slice.injEq,Option.some.injEq,Addr.mk.injEq] at hv
     have h0:0<bs.length:=by rw [HBS.out];simp only [List.length_append];omega
     rw [← hv.1.1]
     exact Nat.lt_of_lt_of_le (cell_lt (hc 0 h0)) HX1.out.size
    clear hk1 HRD2 HX2 HOW HPR HF
    obtain ⟨px,hpx⟩:∃ px,w1.heap.size=px:=⟨_,rfl⟩
    have lg1:g<px:=by rw [← hpx];exact HR1.out.lt
    have llb1:lb<px:=by rw [← hpx];exact (Array.getElem?_eq_some_iff.1 HP1.out).1
    have lgr1:gr<px:=by rw [← hpx];exact cell_lt (HX1.out.cell HCR.out hgr1)
    obtain ⟨a,ha⟩:∃ a,l[k]? = some a:=⟨_,List.getElem?_eq_getElem (by rw [HLEN.out];exact hlt)⟩
    have hpre:(pre++(enc m++encL encI (l.take k)))++(encI a++(encL encI (l.drop (k+1))++post))=bs:=by rw [HBS.out,encL_split encI ha];simp
    have HPL:=Lib.hid (fun w2 (k2:Kp w1 w2) (h2:w2.heap[px]? = some (.cells #[.int .i64 0,.int .i64 0] 41 (0,0))) =>
     HIT.out a (List.mem_of_getElem? ha) px (pre++(enc m++encL encI (l.take k))) (encL encI (l.drop (k+1))++post) w2 ((HR.out.kx HX1.out (fun b off n c hv=>by have:=HVQ.out b off n c hv;simp;exact this)).kp k2) hpre.symm (HR1.out.kp k2)
      (fun b off n c hv=>⟨(HVQ.out b off n c hv).1,by have:=HVL.out b off n c hv;omega⟩) (kp_cell k2 (HX1.out.cell HCR.out hgr1)) h2 (by omega) ⟨hgr.1,by omega⟩)
    clear hpre
    go_upto_region 11 with (go_at_call 206;refine (HPL.out _ (kp_alloc (kp_refl _) _) (by rw [← hpx];exact heap_alloc_new _ _)).mono ?_;rintro e w2 ⟨rfl,h1,⟨c,bl2,h2,hI2,hb2⟩,h3⟩)
    obtain ⟨x1,x2,rfl⟩:=HSH.out _ _ _ _ hI2
    obtain ⟨W,hW⟩:∃ W,w1.alloc (.cells #[.int .i64 0,.int .i64 0] 41)=W:=⟨_,rfl⟩
    have KW:Kp w1 W:=by rw [← hW];exact kp_alloc (kp_refl _) _
    have sW:px+1=W.heap.size:=by rw [← hW,← hpx];simp
    have HB2:Hid (∀ b∈bl2,px+1≤b∧b<w2.heap.size):=Lib.hid (fun b hb=>by have:=hb2 b hb;rw [hW] at this;omega)
    have hub:∀ b,u.ownBlock=some b→w.heap.size≤b∧b<px:=fun b hb=>by rw [← hpx];exact HO1.out.lt b hb
    have h3':KX [g,px] W w2:=by rw [← hW];exact h3
    have h31:KX [g] w1 w2:=(KX.of KW).trans h3' (fun b hb=>by simp at hb ⊢;rcases hb with rfl | rfl;exact .inl rfl;exact .inr (by omega))
    have HOW2:=Lib.hid (HO1.out.kx HLAW.out h31 (by simp;exact LG.out))
    have hlo:lo<cs.size:=(Array.getElem?_eq_some_iff.1 HCS.out).1
    have p2:w2.heap[lb]? = some (.cells (cs.setIfInBounds lo u) T (0,0)):=h3'.row ((KW.block lb (by rw [hpx];exact llb1)).trans HP1.out) (by simp;omega)
    have c2:w2.cell? ⟨lb,lo,none⟩=some u:=by rw [cell_of_row w2 lb _ _ _ _ p2];simp [hlo]
    have f2:w2.frozen? ⟨lb,lo,none⟩=false:=frozen_of_row w2 lb _ _ _ p2
    have x0':w2.cell? ⟨px,0,none⟩=some (.int .i64 x1):=by rw [cell_of_row w2 px _ _ _ _ h2];rfl
    have x1':w2.cell? ⟨px,1,none⟩=some (.int .i64 x2):=by rw [cell_of_row w2 px _ _ _ _ h2];rfl
    have hpn:px∉lb :: u.ownBlock.toList:=by simp only [List.mem_cons,Option.mem_toList,not_or];exact ⟨by omega,fun hb=>by have:=hub px hb;omega⟩
    have lpx:=cell_lt x0'
    have hs2:w.heap.size≤w2.heap.size:=Nat.le_trans HX1.out.size (Nat.le_trans (Below.size KW) h3'.size)
    have hwpx:w.heap.size≤px:=by rw [← hpx];exact HX1.out.size
    have KW':=KW
    have HLK:=Lib.hid (show (l.take k).length≤10000 by simp;omega)
    have HI2:=Lib.hid hI2
    obtain ⟨i0,hi,hz0,hz1,hz2⟩:=info_parts infoDated
    have HI:=Lib.hid hi;have HZ0:=Lib.hid hz0;have HZ1:=Lib.hid hz1;have HZ2:=Lib.hid hz2
    clear hi hz0 hz1 hz2 h3 HPL hb2 hI2 h31
    refine wp_region_noPanic ?_
    refine wp_region_held_drew (S:=fun w'=>KX (lb :: u.ownBlock.toList) w2 w') (by kernel_rfl) ?_ (fun hHeld=>?_)
    ·exact (KX.refl _).drew
    obtain ⟨WD,hWD⟩:∃ W,w2.drew=W:=⟨_,rfl⟩
    have KD:Kp w2 WD:=by rw [← hWD];exact kp_drew (kp_refl _)
    have cD:=kp_cell KD c2
    have pD:=(KD.block lb (Array.getElem?_eq_some_iff.1 p2).1).trans p2
    have szD:=Below.size KD
    have hbD:w.heap.size≤WD.heap.size:=Nat.le_trans hs2 szD
    have fD:=kp_froz KD c2 f2
    have HOD:=Lib.hid (HOW2.out.kp HLAW.out KD)
    have HID:=Lib.hid (HLAW.out.keep HI2.out fun b hb=>KD.block b (HB2.out b hb).2)
    have hSD:KX (lb :: u.ownBlock.toList) w2 WD:=KX.of KD
    rw [hWD] at hHeld ⊢
    refine take_yes (i:=0) (d:=48) (v:=?_) rfl rfl (by kernel_rfl) (by kernel_rfl) (by kernel_rfl) (fun _ _ _ h=>h) (by rfl) ?_ hHeld ?_
    rotate_left
    ·intro wq hSw;(try dsimp only at hSw);go_simp;(try with_reducible rfl)
    (try simp only [Act.put,List.setIfInBounds_toArray,List.set_cons_zero,List.set_cons_succ])
    refine take_yes (i:=1) (d:=49) (v:=?_) rfl rfl (by kernel_rfl) (by kernel_rfl) (by kernel_rfl) (fun _ _ _ h=>h) (by rfl) ?_ hHeld ?_
    rotate_left
    ·intro wq hSw;(try dsimp only at hSw);go_simp;(try with_reducible rfl)
    (try simp only [Act.put,List.setIfInBounds_toArray,List.set_cons_zero,List.set_cons_succ])
    refine take_yes (i:=2) (d:=50) (v:=?_) rfl rfl (by kernel_rfl) (by kernel_rfl) (by kernel_rfl) (fun _ _ _ h=>h) (by rfl) ?_ hHeld ?_
    rotate_left
    ·intro wq hSw;(try dsimp only at hSw);go_simp;(try with_reducible rfl)
    (try simp only [Act.put,List.setIfInBounds_toArray,List.set_cons_zero,List.set_cons_succ])
    refine take_yes (i:=4) (d:=52) (v:=?_) rfl rfl (by kernel_rfl) (by kernel_rfl) (by kernel_rfl) (fun _ _ _ h=>h) (by rfl) ?_ hHeld ?_
    rotate_left
    ·intro wq hSw;(try dsimp only at hSw);have q0:=hSw.cell x0' hpn;have q1:=hSw.cell x1' hpn;go_simp;(try with_reducible rfl)
    (try simp only [Act.put,List.setIfInBounds_toArray,List.set_cons_zero,List.set_cons_succ])
    refine wpAnyH_ready (rs:=[3,5]) (by kernel_rfl) (by simp) ?_
    refine (AllReadyH.cons rfl (fun K' hK=>?_) (AllReadyH.cons rfl (fun K' hK=>?_) AllReadyH.nil))
    ·go_simp
     refine hK.out _ _ ?_ (fun hHeld=>?_)
     ·exact hSD
     clear hK K'
     (try simp only [Act.put,List.setIfInBounds_toArray,List.set_cons_zero,List.set_cons_succ])
     refine wpAnyH_ready (rs:=[5]) (by kernel_rfl) (by simp) ?_
     refine (AllReadyH.cons rfl (fun K' hK=>?_) AllReadyH.nil)
     go_simp
     refine hK.out _ _ ?_ (fun hHeld=>?_)
     ·exact hSD.alloc _
     obtain ⟨bn,hbn⟩:∃ b,WD.heap.size=b:=⟨_,rfl⟩
     obtain ⟨WB,hWB⟩:∃ W,WD.alloc (.cells #[.int .i64 x1,.int .i64 x2] 41)=W:=⟨_,rfl⟩
     have hnew:=cells_new WD [.int .i64 x1,.int .i64 x2] 41
     rw [show ([.int .i64 x1,.int .i64 x2]:List Value).toArray = #[.int .i64 x1,.int .i64 x2] from rfl] at hnew
     have KB:Kp WD WB:=by rw [← hWB];exact kp_alloc (kp_refl _) _
     have cB:=kp_cell KB cD
     have fB:=kp_froz KB cD fD
     have HOB:=Lib.hid (HOD.out.kp HLAW.out KB)
     have HIB:=Lib.hid (HLAW.out.keep HID.out fun b hb=>KB.block b (Nat.lt_of_lt_of_le (HB2.out b hb).2 szD))
     have hSB:=hSD.kp KB
     have pB:=(KB.block lb (Array.getElem?_eq_some_iff.1 pD).1).trans pD
     have hbB:=Nat.le_trans hbD (Below.size KB)
     have szB:=Nat.le_trans szD (Below.size KB)
     rw [hbn,hWB] at hnew
     rw [hbn,hWB]
     rw [hWB] at hHeld
     clear hbn hWB KB
     clear hK K'
     (try simp only [Act.put,List.setIfInBounds_toArray,List.set_cons_zero,List.set_cons_succ])
     refine wpAnyH_ready (rs:=[6]) (by kernel_rfl) (by simp) ?_
     refine (AllReadyH.cons rfl (fun K' hK=>?_) AllReadyH.nil)
     obtain ⟨css,hcl,hci,how,hbb⟩:=HOB.out
     refine arm_append_own_at _ _ 42 rfl w.heap.size 41 i0 (.agg #[.int .i64 0,.int .i64 0]) 2 16 Tryz.underlying42 HI.out HZ0.out HZ1.out HZ2.out rfl (by decide) _ _ _ rfl how ⟨bn,0,none⟩ 1 1 [.int .i64 x1,.int .i64 x2] rfl rfl hnew (by simp [Value.oneCell']) (by have:=HLK.out;unfold maxLen;omega) (by have:=HLK.out;omega) hbB ?_
     intro v' w5 hown hgrow hnil hat
     have HO5:=Lib.hid (ListIs.snoc HLAW.out (a:=a) hcl hci hbb HIB.out (fun b hb=>⟨by have:=(HB2.out b hb).1;omega,Nat.lt_of_lt_of_le (HB2.out b hb).2 szB,fun e=>by have:=hub b e;have:=(HB2.out b hb).1;omega⟩) hgrow hat hown)
     have hvc:v'.cells = #[v']:=by rcases hown.2 with ⟨hv,_⟩ | ⟨g',cap,cur,hv,_⟩ <;> subst hv <;> rfl
     simp only [Value.cells] at hvc
     have hv1:v'.oneCell'=true:=by rcases hown.2 with ⟨hv,_⟩ | ⟨g',cap,cur,hv,_⟩ <;> subst hv <;> rfl
     have hS5:=hSB.grown hgrow (fun b hb=>.inl (by simp only [List.mem_cons,Option.mem_toList];exact .inr hb))
     have p5:w5.heap[lb]? = some (.cells (cs.setIfInBounds lo u) T (0,0)):=(hgrow.block lb (Array.getElem?_eq_some_iff.1 pB).1 (fun e=>by have:=hub lb e.symm;omega)).trans pB
     have c5:w5.cell? ⟨lb,lo,none⟩=some u:=by rw [cell_of_row w5 lb _ _ _ _ p5];simp [hlo]
     have f5:w5.frozen? ⟨lb,lo,none⟩=false:=frozen_of_row w5 lb _ _ _ p5
     have l5:w.heap.size≤w5.heap.size:=Nat.le_trans hbB hgrow.size
     clear hown hgrow hnil hat hnew HOB HIB hSB pB cB fB how hci hbb hcl
     refine hK.out _ _ ?_ (fun hHeld=>?_)
     ·exact hS5
     clear hK K'
     (try simp only [Act.put,List.setIfInBounds_toArray,List.set_cons_zero,List.set_cons_succ])
     refine take_yes (i:=7) (d:=55) (v:=?_) rfl rfl (by kernel_rfl) (by kernel_rfl) (by kernel_rfl) (fun _ _ _ h=>h) (by rfl) ?_ hHeld ?_
     rotate_left
     ·intro wq hSw;(try dsimp only at hSw);go_simp;(try with_reducible rfl)
     (try simp only [Act.put,List.setIfInBounds_toArray,List.set_cons_zero,List.set_cons_succ])
     refine wpAnyH_ready (rs:=[8]) (by kernel_rfl) (by simp) ?_
     refine (AllReadyH.cons rfl (fun K' hK=>?_) AllReadyH.nil)
     go_simp
     rw [run_store _ _ _ _ _ hv1]
     go_simp
     refine hK.out _ _ ?_ (fun hHeld=>?_)
     ·exact hS5.set (.inl (by simp)) _
     clear hK K'
     (try simp only [Act.put,List.setIfInBounds_toArray,List.set_cons_zero,List.set_cons_succ])
     refine wpAnyH_done (by kernel_rfl) ?_ _
     refine NoPanic.normal ?_
     go_wp2_with fail
     have hK5:KX [lb] w5 (w5.setCell ⟨lb,lo,none⟩ v'):=(KX.refl w5).set (.inl (by simp)) _
     have hS6:=hS5.trans hK5 (by simp)
     refine ⟨⟨k+1,v',bl++bl2,by omega,by go_num,?_,?_,?_,?_⟩,by simp [intOf];omega⟩
     ·rw [encL_snoc encI ha,← List.append_assoc,← List.append_assoc,List.append_assoc pre]
      exact h1.kx hS6 (by simp only [List.mem_cons,Option.mem_toList,not_or];exact ⟨hgl,fun hb=>by have:=hub g hb;omega⟩)
     ·rw [heap_setCell_same w5 lb _ _ _ _ p5];simp
     ·rw [take_snoc ha]
      exact HO5.out.kx HLAW.out hK5 (by simp;exact LLB.out)
     ·exact ((HX1.out.kp KW').trans h3' (fun b hb=>by simp at hb ⊢;rcases hb with rfl | rfl;exact .inl (.inl rfl);exact .inr (by have:=HX1.out.size;omega))).trans hS6 (fun b hb=>by simp only [List.mem_cons,Option.mem_toList] at hb ⊢;rcases hb with rfl | hb;exact .inl (.inr (.inl rfl));exact .inr (hub b hb).1)
    ·go_simp
     refine hK.out _ _ ?_ (fun hHeld=>?_)
     ·exact hSD.alloc _
     obtain ⟨bn,hbn⟩:∃ b,WD.heap.size=b:=⟨_,rfl⟩
     obtain ⟨WB,hWB⟩:∃ W,WD.alloc (.cells #[.int .i64 x1,.int .i64 x2] 41)=W:=⟨_,rfl⟩
     have hnew:=cells_new WD [.int .i64 x1,.int .i64 x2] 41
     rw [show ([.int .i64 x1,.int .i64 x2]:List Value).toArray = #[.int .i64 x1,.int .i64 x2] from rfl] at hnew
     have KB:Kp WD WB:=by rw [← hWB];exact kp_alloc (kp_refl _) _
     have cB:=kp_cell KB cD
     have fB:=kp_froz KB cD fD
     have HOB:=Lib.hid (HOD.out.kp HLAW.out KB)
     have HIB:=Lib.hid (HLAW.out.keep HID.out fun b hb=>KB.block b (Nat.lt_of_lt_of_le (HB2.out b hb).2 szD))
     have hSB:=hSD.kp KB
     have pB:=(KB.block lb (Array.getElem?_eq_some_iff.1 pD).1).trans pD
     have hbB:=Nat.le_trans hbD (Below.size KB)
     have szB:=Nat.le_trans szD (Below.size KB)
     rw [hbn,hWB] at hnew
     rw [hbn,hWB]
     rw [hWB] at hHeld
     clear hbn hWB KB
     clear hK K'
     (try simp only [Act.put,List.setIfInBounds_toArray,List.set_cons_zero,List.set_cons_succ])
     refine wpAnyH_ready (rs:=[3]) (by kernel_rfl) (by simp) ?_
     refine (AllReadyH.cons rfl (fun K' hK=>?_) AllReadyH.nil)
     go_simp
     refine hK.out _ _ ?_ (fun hHeld=>?_)
     ·exact hSB
     clear hK K'
     (try simp only [Act.put,List.setIfInBounds_toArray,List.set_cons_zero,List.set_cons_succ])
     refine wpAnyH_ready (rs:=[6]) (by kernel_rfl) (by simp) ?_
     refine (AllReadyH.cons rfl (fun K' hK=>?_) AllReadyH.nil)
     obtain ⟨css,hcl,hci,how,hbb⟩:=HOB.out
     refine arm_append_own_at _ _ 42 rfl w.heap.size 41 i0 (.agg #[.int .i64 0,.int .i64 0]) 2 16 Tryz.underlying42 HI.out HZ0.out HZ1.out HZ2.out rfl (by decide) _ _ _ rfl how ⟨bn,0,none⟩ 1 1 [.int .i64 x1,.int .i64 x2] rfl rfl hnew (by simp [Value.oneCell']) (by have:=HLK.out;unfold maxLen;omega) (by have:=HLK.out;omega) hbB ?_
     intro v' w5 hown hgrow hnil hat
     have HO5:=Lib.hid (ListIs.snoc HLAW.out (a:=a) hcl hci hbb HIB.out (fun b hb=>⟨by have:=(HB2.out b hb).1;omega,Nat.lt_of_lt_of_le (HB2.out b hb).2 szB,fun e=>by have:=hub b e;have:=(HB2.out b hb).1;omega⟩) hgrow hat hown)
     have hvc:v'.cells = #[v']:=by rcases hown.2 with ⟨hv,_⟩ | ⟨g',cap,cur,hv,_⟩ <;> subst hv <;> rfl
     simp only [Value.cells] at hvc
     have hv1:v'.oneCell'=true:=by rcases hown.2 with ⟨hv,_⟩ | ⟨g',cap,cur,hv,_⟩ <;> subst hv <;> rfl
     have hS5:=hSB.grown hgrow (fun b hb=>.inl (by simp only [List.mem_cons,Option.mem_toList];exact .inr hb))
     have p5:w5.heap[lb]? = some (.cells (cs.setIfInBounds lo u) T (0,0)):=(hgrow.block lb (Array.getElem?_eq_some_iff.1 pB).1 (fun e=>by have:=hub lb e.symm;omega)).trans pB
     have c5:w5.cell? ⟨lb,lo,none⟩=some u:=by rw [cell_of_row w5 lb _ _ _ _ p5];simp [hlo]
     have f5:w5.frozen? ⟨lb,lo,none⟩=false:=frozen_of_row w5 lb _ _ _ p5
     have l5:w.heap.size≤w5.heap.size:=Nat.le_trans hbB hgrow.size
     clear hown hgrow hnil hat hnew HOB HIB hSB pB cB fB how hci hbb hcl
     refine hK.out _ _ ?_ (fun hHeld=>?_)
     ·exact hS5
     clear hK K'
     (try simp only [Act.put,List.setIfInBounds_toArray,List.set_cons_zero,List.set_cons_succ])
     refine take_yes (i:=7) (d:=55) (v:=?_) rfl rfl (by kernel_rfl) (by kernel_rfl) (by kernel_rfl) (fun _ _ _ h=>h) (by rfl) ?_ hHeld ?_
     rotate_left
     ·intro wq hSw;(try dsimp only at hSw);go_simp;(try with_reducible rfl)
     (try simp only [Act.put,List.setIfInBounds_toArray,List.set_cons_zero,List.set_cons_succ])
     refine wpAnyH_ready (rs:=[8]) (by kernel_rfl) (by simp) ?_
     refine (AllReadyH.cons rfl (fun K' hK=>?_) AllReadyH.nil)
     go_simp
     rw [run_store _ _ _ _ _ hv1]
     go_simp
     refine hK.out _ _ ?_ (fun hHeld=>?_)
     ·exact hS5.set (.inl (by simp)) _
     clear hK K'
     (try simp only [Act.put,List.setIfInBounds_toArray,List.set_cons_zero,List.set_cons_succ])
     refine wpAnyH_done (by kernel_rfl) ?_ _
     refine NoPanic.normal ?_
     go_wp2_with fail
     have hK5:KX [lb] w5 (w5.setCell ⟨lb,lo,none⟩ v'):=(KX.refl w5).set (.inl (by simp)) _
     have hS6:=hS5.trans hK5 (by simp)
     refine ⟨⟨k+1,v',bl++bl2,by omega,by go_num,?_,?_,?_,?_⟩,by simp [intOf];omega⟩
     ·rw [encL_snoc encI ha,← List.append_assoc,← List.append_assoc,List.append_assoc pre]
      exact h1.kx hS6 (by simp only [List.mem_cons,Option.mem_toList,not_or];exact ⟨hgl,fun hb=>by have:=hub g hb;omega⟩)
     ·rw [heap_setCell_same w5 lb _ _ _ _ p5];simp
     ·rw [take_snoc ha]
      exact HO5.out.kx HLAW.out hK5 (by simp;exact LLB.out)
     ·exact ((HX1.out.kp KW').trans h3' (fun b hb=>by simp at hb ⊢;rcases hb with rfl | rfl;exact .inl (.inl rfl);exact .inr (by have:=HX1.out.size;omega))).trans hS6 (fun b hb=>by simp only [List.mem_cons,Option.mem_toList] at hb ⊢;rcases hb with rfl | hb;exact .inl (.inr (.inl rfl));exact .inr (hub b hb).1)
   ·obtain rfl:k=m:=by omega
    have z1:¬ (k:Int)<(k:Int):=by omega
    go_wp2_with fail
    go_end0
    have e1:l.take k=l:=List.take_of_length_le (by rw [HLEN.out];exact Nat.le_refl _)
    have h1:=HRD2.out
    have h2:=HOW.out
    rw [e1] at h1 h2
    exact ⟨rfl,by have h:=h1;simpa [List.length_append] using h,u,HPR.out,⟨bl,h2⟩,HX2.out⟩
abbrev NRing:=List NPt
def encRing (r:NRing):List Int:=enc r.length++encPs r
structure RingOk (r:NRing):Prop where
 pos:0<r.length
 le:r.length≤1000
 sm:∀ k,k<r.length→(r.getD k (0,0)).1<1048576∧(r.getD k (0,0)).2<1048576
def I_ring (w:World) (bl:List Nat) (c:List Value) (r:NRing):Prop:=∃ u,c=[u]∧OwnP w 0 u (ptsN r)∧∀ b,u.ownBlock=some b→b∈bl
theorem OwnP.keep {w w':World} {B:Nat} {v:Value} {l:List Pt} (h:OwnP w B v l) (hs:∀ g,v.ownBlock=some g→w'.heap[g]? = w.heap[g]?):OwnP w' B v l:=by
 obtain ⟨h1,⟨hv,hn⟩ | ⟨g,cap,cur,hv,hb,hg,rest⟩⟩:=h
 ·exact ⟨h1,.inl ⟨hv,hn⟩⟩
 ·exact ⟨h1,.inr ⟨g,cap,cur,hv,hb,(hs g (by rw [hv];rfl)).trans hg,rest⟩⟩
theorem law_ring:ItemLaw I_ring where
 keep:=by rintro w w' bl c a ⟨u,hc,ho,hb⟩ hs;exact ⟨u,hc,ho.keep fun g hg=>hs g (hb g hg),hb⟩
 mono:=by rintro w bl bl' c a ⟨u,hc,ho,hb⟩ hs;exact ⟨u,hc,ho,fun b h=>hs b (hb b h)⟩
theorem sh_ring:∀ w bl c a,I_ring w bl c a→∃ (p1:Option Addr) (n1 c1:Nat),c=[.slice p1 n1 c1]:=by
 rintro w bl c a ⟨u,hc,ho,hb⟩
 obtain ⟨p,cc,hu⟩:=ownsRow_slice ho
 exact ⟨p,_,cc,by rw [hc,hu]⟩
def I_day (w:World) (bl:List Nat) (c:List Value) (d:NPt):Prop:=c=[.int .i64 d.1,.int .i64 d.2]
theorem law_day:ItemLaw I_day where
 keep:=fun h _=>h
 mono:=fun h _=>h
theorem sh_day:∀ w bl c a,I_day w bl c a→∃ (x1 x2:Int),c=[.int .i64 x1,.int .i64 x2]:=fun w bl c a h=>⟨_,_,h⟩
structure JU where
 id:Nat
 kind:Nat
 par:Nat
 fil:Nat
 rings:List NRing
def JU.encJ (j:JU):List Int:=encs [j.id,j.kind,j.par,j.fil]++(enc j.rings.length++encL encRing j.rings)
structure JU.Ok (j:JU):Prop where
 id:j.id<1048576
 kind:j.kind<1048576
 par:j.par<1048576
 fil:j.fil<1048576
 pos:0<j.rings.length
 le:j.rings.length≤1000
 rings:∀ r∈j.rings,RingOk r
def I_jur (w:World) (bl:List Nat) (c:List Value) (j:JU):Prop:=∃ u bl',c=[.int .i64 j.id,.int .i64 j.kind,.int .i64 j.par,.int .i64 j.fil,u]∧ListIs I_ring 71 1 0 w bl' u j.rings∧∀ b,b∈bl'∨u.ownBlock=some b→b∈bl
theorem law_jur:ItemLaw I_jur where
 keep:=by rintro w w' bl c a ⟨u,bl',hc,ho,hb⟩ hs;exact ⟨u,bl',hc,ho.keep law_ring fun g hg=>hs g (hb g hg),hb⟩
 mono:=by rintro w bl bl2 c a ⟨u,bl',hc,ho,hb⟩ hs;exact ⟨u,bl',hc,ho,fun b h=>hs b (hb b h)⟩
theorem sh_jur:∀ w bl c a,I_jur w bl c a→∃ (x1 x2 x3 x4:Int) (p1:Option Addr) (n1 c1:Nat),c=[.int .i64 x1,.int .i64 x2,.int .i64 x3,.int .i64 x4,.slice p1 n1 c1]:=by
 rintro w bl c a ⟨u,bl',hc,ho,hb⟩
 obtain ⟨p,cc,hu⟩:=ho.slice
 exact ⟨_,_,_,_,p,_,cc,by rw [hc,hu]⟩
structure RT where
 id:Nat
 ds:List NPt
def RT.encT (r:RT):List Int:=encs [r.id]++(enc r.ds.length++encL (fun d:NPt=>encs [d.1,d.2]) r.ds)
structure RT.Ok (r:RT):Prop where
 id:r.id<1048576
 pos:0<r.ds.length
 le:r.ds.length≤1000
 ds:∀ d∈r.ds,d.1<1048576∧d.2<1048576
def I_rat (w:World) (bl:List Nat) (c:List Value) (r:RT):Prop:=∃ u bl',c=[.int .i64 r.id,u]∧ListIs I_day 41 2 0 w bl' u r.ds∧∀ b,b∈bl'∨u.ownBlock=some b→b∈bl
theorem law_rat:ItemLaw I_rat where
 keep:=by rintro w w' bl c a ⟨u,bl',hc,ho,hb⟩ hs;exact ⟨u,bl',hc,ho.keep law_day fun g hg=>hs g (hb g hg),hb⟩
 mono:=by rintro w bl bl2 c a ⟨u,bl',hc,ho,hb⟩ hs;exact ⟨u,bl',hc,ho,fun b h=>hs b (hb b h)⟩
theorem sh_rat:∀ w bl c a,I_rat w bl c a→∃ (x1:Int) (p1:Option Addr) (n1 c1:Nat),c=[.int .i64 x1,.slice p1 n1 c1]:=by
 rintro w bl c a ⟨u,bl',hc,ho,hb⟩
 obtain ⟨p,cc,hu⟩:=ho.slice
 exact ⟨_,p,_,cc,by rw [hc,hu]⟩
theorem item_day (gr g:Nat) (v:Value) (bs:List Int) (hl:bs.length≤100000) (d:NPt) (hd:d.1<1048576∧d.2<1048576):ItemC 206 41 #[.int .i64 0,.int .i64 0] gr g v bs I_day (fun d:NPt=>encs [d.1,d.2]) d:=by
 intro px pr po w hR hbs hg hvq hr hp hne hgr
 refine (cr_day gr g px v bs pr po d.1 d.2 0 0 hd.1 hd.2 w hR hbs hl hg hvq hr hp hne hgr).mono ?_
 rintro e w' ⟨he,h1,h2,h3⟩
 exact ⟨he,by rw [List.length_append];rw [List.length_append] at h1;exact h1,⟨_,[],h2,rfl,by simp⟩,h3⟩
set_option maxHeartbeats 8000000 in
set_option maxRecDepth 100000 in
theorem item_ring (gr g:Nat) (v:Value) (bs:List Int) (hl:bs.length≤100000) (r:NRing) (hk:RingOk r):ItemC 204 71 #[.slice none 0 0] gr g v bs I_ring encRing r:=by
 intro px pr po w hR hbs hg hvq hr hp hne hgr
 have lg:=hg.lt
 have lp:px<w.heap.size:=(Array.getElem?_eq_some_iff.1 hp).1
 have HC:=Lib.hid (fun w' (k:Kp w w')=>cr_listPt gr g px 0 r.length v bs pr po r #[.slice none 0 0] 71 rfl hk.pos hk.le hk.sm w' (hR.kp k) hbs hl (hg.kp k) hvq (kp_cell k hr) ((k.block px lp).trans hp) rfl hne hgr)
 clear hR hbs hl hg hvq hr hp
 go_enter Tryz.func204,Tryz.ntmps204
 go_wp2_with (go_at_call 279;refine (HC.out _ (by (repeat (first | exact kp_refl _ | apply kp_alloc | apply kp_drew | apply kp_drewN)))).mono ?_;rintro e w4 ⟨rfl,h1,u,h2,h3,h4⟩)
 go_end0
 refine ⟨rfl,by unfold encRing;simpa using h1,⟨[u],u.ownBlock.toList,h2,⟨u,rfl,h3.mono (Nat.zero_le _),by simp⟩,?_⟩,h4⟩
 intro b hb
 exact World.ownsRow.lt h3 b (by simpa using hb)
def SlR {α:Type} (J:World→Nat→Nat→α→Prop) (size:Nat) (w:World) (u:Value) (l:List α):Prop :=
 ∃ b off cap,u=.slice (some ⟨b,off,none⟩) l.length cap∧l.length≤cap∧∀ k a,l[k]? = some a→J w b (off+k * size) a
def J_pt (w:World) (b o:Nat) (p:NPt):Prop:=w.cell? ⟨b,o,none⟩=some (.int .i64 p.1)∧w.cell? ⟨b,o+1,none⟩=some (.int .i64 p.2)
def J_ring (w:World) (b o:Nat) (r:NRing):Prop:=∃ u,w.cell? ⟨b,o,none⟩=some u∧SlR J_pt 2 w u r
def J_jur (w:World) (b o:Nat) (j:JU):Prop:=w.cell? ⟨b,o,none⟩=some (.int .i64 j.id)∧w.cell? ⟨b,o+1,none⟩=some (.int .i64 j.kind)∧w.cell? ⟨b,o+2,none⟩=some (.int .i64 j.par)∧w.cell? ⟨b,o+3,none⟩=some (.int .i64 j.fil)∧∃ u,w.cell? ⟨b,o+4,none⟩=some u∧SlR J_ring 1 w u j.rings
def J_rat (w:World) (b o:Nat) (r:RT):Prop:=w.cell? ⟨b,o,none⟩=some (.int .i64 r.id)∧∃ u,w.cell? ⟨b,o+1,none⟩=some u∧SlR J_pt 2 w u r.ds
def Stays {α:Type} (J:World→Nat→Nat→α→Prop):Prop:=∀ (w w':World) (b o:Nat) (a:α),Kp w w'→J w b o a→J w' b o a
theorem SlR.kp {α:Type} {J:World→Nat→Nat→α→Prop} (hJ:Stays J) {size:Nat} {w w':World} {u:Value} {l:List α} (h:SlR J size w u l) (k:Kp w w'):SlR J size w' u l:=by
 obtain ⟨b,off,cap,hu,hc,h⟩:=h
 exact ⟨b,off,cap,hu,hc,fun i a ha=>hJ _ _ _ _ _ k (h i a ha)⟩
theorem stays_pt:Stays J_pt:=fun _ _ _ _ _ k h=>⟨kp_cell k h.1,kp_cell k h.2⟩
theorem stays_ring:Stays J_ring:=fun _ _ _ _ _ k h=>by obtain ⟨u,hc,h⟩:=h;exact ⟨u,kp_cell k hc,h.kp stays_pt k⟩
theorem stays_jur:Stays J_jur:=fun _ _ _ _ _ k h=>by obtain ⟨h0,h1,h2,h3,u,hc,h⟩:=h;exact ⟨kp_cell k h0,kp_cell k h1,kp_cell k h2,kp_cell k h3,u,kp_cell k hc,h.kp stays_ring k⟩
theorem stays_rat:Stays J_rat:=fun _ _ _ _ _ k h=>by obtain ⟨h0,u,hc,h⟩:=h;exact ⟨kp_cell k h0,u,kp_cell k hc,h.kp stays_pt k⟩
def ItemW {α:Type} (F gw:Nat) (J:World→Nat→Nat→α→Prop) (encI:α→List Int) (w0:World) (a:α):Prop :=
 ∀ (b o:Nat) (bs:List Int) (S:List Nat) (w:World),Kp w0 w→J w0 b o a→WrB gw bs S w→(∀ x∈S,w0.heap.size≤x)→bs.length+(encI a).length≤80000 →
  Calls Tryz.prog F #[.iface 141 (.pointer (some ⟨gw,0,none⟩)),.pointer (some ⟨b,o,none⟩)] w fun e w'=>e=.returned (.tuple #[])∧WX gw (bs++encI a) S w w'
theorem own_cells {e:TypeId} {size B n:Nat} {w:World} {u:Value} {xs:List Value} (h:w.ownsRow B e size u n xs) (hn:0<n):∃ g cap,u=.slice (some ⟨g,0,none⟩) n cap∧n≤cap∧∀ j x,xs[j]? = some x→w.cell? ⟨g,j,none⟩=some x:=by
 have h':=h
 obtain ⟨h1,⟨hv,hn0⟩ | ⟨g,cap,cur,hv,hb,hg,hc,rest⟩⟩:=h
 ·omega
 ·refine ⟨g,cap,hv,hc,fun j x hx=>?_⟩
  have:=World.ownsRow.cells h' (g:=g) (by rw [hv];rfl) j x hx
  rwa [show (⟨g,0,none⟩:Addr).add j=⟨g,j,none⟩ by rw [add_off,Nat.zero_add]] at this
def ParOk (js:List JU) (j:JU):Prop:=(j.kind=1∧j.par=0)∨(j.kind=2∧0<j.par∧∃ (i:Nat) (p:JU),js[i]? = some p∧p.id=j.par∧p.kind=1)
structure JsOk (js:List JU):Prop where
 len:js.length≤64
 id:∀ j∈js,1≤j.id∧j.id<1048576
 inc:∀ (i k:Nat) (a b:JU),js[i]? = some a→js[k]? = some b→i<k→a.id<b.id
 kind:∀ j∈js,1≤j.kind∧j.kind≤2
 fil:∀ j∈js,1≤j.fil∧j.fil≤4
 par:∀ j∈js,ParOk js j
def jv (j:JU) (u:Value):Value:=.agg #[.int .i64 j.id,.int .i64 j.kind,.int .i64 j.par,.int .i64 j.fil,u]
theorem row5_set {w:World} {t:Nat} {T:TypeId} {a0 a1 a2 a3 a4:Value} (h:w.heap[t]? = some (.cells #[a0,a1,a2,a3,a4] T (0,0))) (v0 v1 v2 v3 v4:Value) :
  (((((w.setCell ⟨t,0,none⟩ v0).setCell ⟨t,1,none⟩ v1).setCell ⟨t,2,none⟩ v2).setCell ⟨t,3,none⟩ v3).setCell ⟨t,4,none⟩ v4).heap[t]? = some (.cells #[v0,v1,v2,v3,v4] T (0,0)):=by
 rw [heap_setCell_same _ t _ _ _ _ (heap_setCell_same _ t _ _ _ _ (heap_setCell_same _ t _ _ _ _ (heap_setCell_same _ t _ _ _ _ (heap_setCell_same _ t _ _ _ _ h))))]
 rfl
theorem pclo_any (gX:Nat) (n a b c d:Int) (p:Option Addr) (m cap:Nat) (w:World) (hx:w.cell? ⟨gX,0,none⟩=some (.int .i64 n)) :
  Calls Tryz.prog 229 #[.agg #[.int .i64 a,.int .i64 b,.int .i64 c,.int .i64 d,.slice p m cap],.pointer (some ⟨gX,0,none⟩)] w fun e w'=>e=.returned (.bool (a == n))∧Kp w w':=by
 have lx:=cell_lt hx
 go_enter Tryz.func229,Tryz.ntmps229
 go_wp2_with fail
 go_ret
 exact ⟨rfl,(by repeat (first | exact kp_refl _ | apply kp_alloc | apply kp_drew | apply kp_drewN))⟩
set_option maxHeartbeats 4000000 in
set_option maxRecDepth 100000 in
theorem pixf_any (b off len cap gX:Nat) (js:List JU) (w:World) (hJ:∀ (k:Nat) (a:JU),js[k]? = some a→J_jur w b (off+k * 5) a) (hlen:js.length=len) (hl:len≤64) (i:Nat) (p:JU) (hp:js[i]? = some p) (hne:∀ (k:Nat) (a:JU),js[k]? = some a→k<i→a.id≠p.id)
  (hx:w.cell? ⟨gX,0,none⟩=some (.int .i64 p.id)) :
  Calls Tryz.prog 228 #[.slice (some ⟨b,off,none⟩) len cap,.func (.func 229) #[] #[.pointer (some ⟨gX,0,none⟩)]] w fun e w'=>e=.returned (.int .i64 i)∧Kp w w':=by
 have hil:i<len:=by rw [← hlen];exact (List.getElem?_eq_some_iff.1 hp).1
 have HJ:=Lib.hid hJ;have HL:=Lib.hid hlen;have HP:=Lib.hid hp;have HNE:=Lib.hid hne;have HX:=Lib.hid hx
 clear hJ hlen hp hne hx
 go_enter Tryz.func228,Tryz.ntmps228
 go_wp2_with fail
 go_loopw [8] (fun q wr=>∃ k:Nat,k≤i∧q=.int .i64 k∧Kp w wr) (fun q _=>len - (intOf q).toNat)
 case atStart=>exact ⟨0,by omega,rfl,kp_refl _⟩
 case round =>
  obtain ⟨k,hk,rfl,hkp⟩:=hrel
  have hlt:k<len:=by omega
  obtain ⟨a,ha⟩:∃ a,js[k]? = some a:=⟨_,List.getElem?_eq_getElem (by rw [HL.out];exact hlt)⟩
  obtain ⟨y0,y1,y2,y3,u,y4,bb,o2,c2,rfl,_,_⟩:=stays_jur _ _ _ _ _ hkp (HJ.out k a ha)
  have lb:b<wr.heap.size:=cell_lt y0
  have c1:(0:Int)≤(k:Int):=by omega
  have c2:(k:Int)<(len:Int):=by omega
  have cx:=kp_cell hkp HX.out
  have CV:=Lib.hid (fun w2 (k2:Kp wr w2)=>pclo_any gX p.id a.id a.kind a.par a.fil (some ⟨bb,o2,none⟩) a.rings.length ‹Nat› w2 (kp_cell k2 cx))
  have HK:=Lib.hid hkp
  by_cases he:k=i
  ·subst he
   have hap:a=p:=by have:=ha.symm.trans HP.out;simpa using this
   have hd:((a.id:Int) == (p.id:Int))=true:=by rw [hap];simp
   rw [hd] at CV
   clear hkp cx hap hd
   go_wp2_with (go_at_call 229;refine (CV.out _ (by (repeat (first | exact kp_refl _ | apply kp_alloc | apply kp_drew | apply kp_drewN)))).mono ?_;rintro e w2 ⟨rfl,hk2⟩;have HK2:=Lib.hid hk2;clear hk2)
   go_ret
   exact ⟨rfl,kp_trans HK.out (kp_trans (by (repeat (first | exact kp_refl _ | apply kp_alloc | apply kp_drew | apply kp_drewN))) HK2.out)⟩
  ·have hap:a.id≠p.id:=HNE.out k a ha (by omega)
   have hd:((a.id:Int) == (p.id:Int))=false:=by simp;omega
   rw [hd] at CV
   have wi:IntKind.i64.wrap ((k:Int)+1)=(k:Int)+1:=IntWalk.i64_in _ (by omega)
   clear hkp cx hap hd
   go_wp2_with (go_at_call 229;refine (CV.out _ (by (repeat (first | exact kp_refl _ | apply kp_alloc | apply kp_drew | apply kp_drewN)))).mono ?_;rintro e w2 ⟨rfl,hk2⟩;have HK2:=Lib.hid hk2;clear hk2)
   exact ⟨⟨k+1,by omega,by go_num,kp_trans HK.out (kp_trans (by (repeat (first | exact kp_refl _ | apply kp_alloc | apply kp_drew | apply kp_drewN))) HK2.out)⟩,by simp [intOf];omega⟩
set_option maxHeartbeats 4000000 in
set_option maxRecDepth 100000 in
theorem place_at (js:List JU) (hok:JsOk js) (uj:Value) (w:World) (hj:SlR J_jur 5 w uj js) (i:Nat) (p:JU) (hp:js[i]? = some p) :
  Calls Tryz.prog 145 #[uj,.int .i64 p.id] w fun e w'=>e=.returned (.int .i64 i)∧Kp w w':=by
 obtain ⟨b,off,cap,rfl,hc,hJ⟩:=hj
 have HC:=Lib.hid (fun w' (k:Kp w w') hx=>pixf_any b off js.length cap w.heap.size js w' (fun q a ha=>stays_jur _ _ _ _ _ k (hJ q a ha)) rfl hok.len i p hp (fun k a ha hk=>by have:=hok.inc k i a p ha hp hk;omega) hx)
 generalize js.length=len at *
 clear hJ hc
 go_enter Tryz.func145,Tryz.ntmps145
 go_wp2_with (go_at_call 228;refine (HC.out _ (by (repeat (first | exact kp_refl _ | apply kp_alloc | apply kp_drew | apply kp_drewN))) (by simp [go_sem])).mono ?_;rintro e w1 ⟨rfl,hk⟩)
 go_ret
 exact ⟨rfl,kp_trans (by (repeat (first | exact kp_refl _ | apply kp_alloc | apply kp_drew | apply kp_drewN))) hk⟩
theorem kind_any (n:Int) (h1:1≤n) (h2:n≤4) (w:World):Calls Tryz.prog 99 #[.int .i64 n] w fun e w'=>e=.returned (.bool true)∧Kp w w':=by
 go_enter Tryz.func99,Tryz.ntmps99
 go_wp2_with fail
 go_ret
 exact ⟨rfl,kp_refl _⟩
set_option maxHeartbeats 4000000 in
set_option maxRecDepth 100000 in
theorem jfind_at (js:List JU) (hok:JsOk js) (uj:Value) (w:World) (hj:SlR J_jur 5 w uj js) (i:Nat) (p:JU) (hp:js[i]? = some p) :
  Calls Tryz.prog 65 #[uj,.int .i64 p.id] w fun e w'=>∃ u,e=.returned (.tuple #[jv p u,.bool true])∧SlR J_ring 1 w u p.rings∧Kp w w':=by
 have HC:=Lib.hid (fun w' (k:Kp w w')=>place_at js hok uj w' (hj.kp stays_jur k) i p hp)
 obtain ⟨b,off,cap,rfl,hc,hJ⟩:=hj
 have hlen:=hok.len
 have hil:=(List.getElem?_eq_some_iff.1 hp).1
 obtain ⟨y0,y1,y2,y3,u,y4,hu⟩:=hJ i p hp
 obtain ⟨bb,o2,cp2,hu1,hu2⟩:=id hu
 subst hu1
 generalize js.length=len at *
 have c1:(0:Int)≤(i:Int):=by omega
 have c2:(i:Int)<(len:Int):=by omega
 have c3:¬ (i:Int)<0:=by omega
 have HU:=Lib.hid hu
 clear hJ hu2 hu
 unfold jv
 go_enter Tryz.func65,Tryz.ntmps65
 go_upto_region 1 with fail
 obtain ⟨W,hW⟩:∃ W,w.alloc (.cells #[.int .i64 0,.int .i64 0,.int .i64 0,.int .i64 0,.slice none 0 0] 39)=W:=⟨_,rfl⟩
 obtain ⟨t,ht⟩:∃ t,w.heap.size=t:=⟨_,rfl⟩
 have KW:Kp w W:=by rw [← hW];exact kp_alloc (kp_refl _) _
 have rW:W.heap[t]? = some (.cells #[.int .i64 0,.int .i64 0,.int .i64 0,.int .i64 0,.slice none 0 0] 39 (0,0)):=by rw [← hW,← ht];exact heap_alloc_new _ _
 have htl:w.heap.size≤t:=by omega
 have hbt:t≠b:=by have:b<w.heap.size:=cell_lt y0;omega
 rw [hW,ht]
 clear hW ht
 go_wp2_with (go_at_call 145;refine (HC.out _ KW).mono ?_;rintro e w1 ⟨rfl,hk⟩;have K1:=kp_trans KW hk;have z0:=kp_cell K1 y0;have z1:=kp_cell K1 y1;have z2:=kp_cell K1 y2;have z3:=kp_cell K1 y3;have z4:=kp_cell K1 y4;have lz:=cell_lt z0;have r1:=(hk.block t (Array.getElem?_eq_some_iff.1 rW).1).trans rW;have t0:w1.cell? ⟨t,0,none⟩=some (.int .i64 0):=(by rw [cell_of_row w1 t _ _ _ _ r1];rfl);have t1:w1.cell? ⟨t,1,none⟩=some (.int .i64 0):=(by rw [cell_of_row w1 t _ _ _ _ r1];rfl);have t2:w1.cell? ⟨t,2,none⟩=some (.int .i64 0):=(by rw [cell_of_row w1 t _ _ _ _ r1];rfl);have t3:w1.cell? ⟨t,3,none⟩=some (.int .i64 0):=(by rw [cell_of_row w1 t _ _ _ _ r1];rfl);have t4:w1.cell? ⟨t,4,none⟩=some (.slice none 0 0):=(by rw [cell_of_row w1 t _ _ _ _ r1];rfl);have fr:=fun o=>frozen_of_row w1 t o _ _ r1;have lt1:=cell_lt t0;have R1:=Lib.hid r1;clear r1)
 have R5:=row5_set R1.out (.int .i64 p.id) (.int .i64 p.kind) (.int .i64 p.par) (.int .i64 p.fil) (.slice (some ⟨bb,o2,none⟩) p.rings.length cp2)
 refine bodyPost_ret (v:=.tuple #[.agg #[.int .i64 p.id,.int .i64 p.kind,.int .i64 p.par,.int .i64 p.fil,.slice (some ⟨bb,o2,none⟩) p.rings.length cp2],.bool true]) (by simp [results,Tryz.results65,go_sem,cell_of_row _ t _ _ _ _ R5]) rfl ⟨_,rfl,HU.out,?_⟩
 ((repeat (first | exact K1 | apply kp_drew | apply kp_drewN | refine kp_set ?_ ?_ _));all_goals (first | exact htl | (simp;done) | omega))
end Go.Proofs.YtgliljnbajohhaaGreatDoor
