import Derived.Test.YtgliljnbajohhaaGreatDoorQ15
import Derived.Test.YtgliljnbajohhaaGreatDoorQ16
import Derived.Test.YtgliljnbajohhaaGreatDoorQ14
import Derived.Test.YtgliljnbajohhaaGreatDoorQ13
set_option linter.unusedVariables false
set_option linter.unusedSimpArgs false
namespace Go.Proofs.YtgliljnbajohhaaGreatDoor
open Go.RowKit Go.Proofs.Top Go.Proofs.Geo
def encA (js:List JU):List Int:=enc js.length++encL JU.encJ js
def encB (rs:List RT):List Int:=enc rs.length++encL RT.encT rs
def encCfg (js:List JU) (rs:List RT):List Int:=encA js++(encB rs++(enc 0++(enc 0++(enc 0++(enc 0++[])))))
structure CfgOk (js:List JU) (rs:List RT):Prop where
 jpos:0<js.length
 jle:js.length≤1000
 jok:∀ j∈js,j.Ok
 rpos:0<rs.length
 rle:rs.length≤1000
 rok:∀ r∈rs,r.Ok
 le:(encCfg js rs).length≤65536
def IsJ:=ListIs I_jur 39 5
def IsR:=ListIs I_rat 44 2
set_option maxHeartbeats 8000000 in
set_option maxRecDepth 100000 in
theorem all_rd (gr g cb:Nat) (v:Value) (js:List JU) (rs:List RT) (hok:CfgOk js rs) (w:World) (hR:RdU w v (encCfg js rs)) (hg:RdrB g v 0 w) (hvq:∀ b off n c,v=.slice (some ⟨b,off,none⟩) n c→b≠g∧b≠cb)
  (hr:w.cell? ⟨gr,0,none⟩=some (.pointer (some ⟨g,0,none⟩))) (hp:w.heap[cb]? = some (.cells #[.slice none 0 0,.slice none 0 0,.slice none 0 0,.slice none 0 0,.slice none 0 0,.slice none 0 0] 31 (0,0))) (hgc:g≠cb) (hgr:gr≠g∧gr≠cb) :
  Calls Tryz.prog 52 #[.iface 146 (.pointer (some ⟨gr,0,none⟩)),.pointer (some ⟨cb,0,none⟩)] w fun e w'=>e=.returned (.tuple #[])∧RdrB g v (encCfg js rs).length w' ∧
   (∃ uj blj ur blr,w'.heap[cb]? = some (.cells #[uj,ur,.slice none 0 0,.slice none 0 0,.slice none 0 0,.slice none 0 0] 31 (0,0))∧IsJ w.heap.size w' blj uj js∧IsR w.heap.size w' blr ur rs)∧KX [g,cb] w w':=by
 have lg:=hg.lt
 have lcb:cb<w.heap.size:=(Array.getElem?_eq_some_iff.1 hp).1
 have hl:(encCfg js rs).length≤100000:=Nat.le_trans hok.le (by decide)
 have hvq2:∀ b off n c,v=.slice (some ⟨b,off,none⟩) n c→b∉[g,cb]:=fun b off n c hv=>by have:=hvq b off n c hv;simp;exact this
 have hgr2:gr∉[g,cb]:=by simp;exact hgr
 obtain ⟨bs,hb⟩:∃ bs,encCfg js rs=bs:=⟨_,rfl⟩
 have hb2:=hb.symm
 unfold encCfg at hb2
 rw [hb] at hR hl ⊢
 have HJ:=Lib.hid (cr_listJuris I_jur JU.encJ law_jur sh_jur gr g cb 0 js.length v bs [] (encB rs++(enc 0++(enc 0++(enc 0++(enc 0++[]))))) js _ _ (fun a ha=>item_jur gr g v bs hl a (hok.jok a ha)) rfl hok.jpos hok.jle w hR (by rw [hb2];rfl) hl (by exact hg) hvq hr hp rfl (Ne.symm hgc) hgr)
 have HRT:=Lib.hid (fun w' uj (k:KX [g,cb] w w') (h1:RdrB g v (encA js).length w') (h2:w'.heap[cb]? = some (.cells #[uj,.slice none 0 0,.slice none 0 0,.slice none 0 0,.slice none 0 0,.slice none 0 0] 31 (0,0))) =>
  cr_listRated I_rat RT.encT law_rat sh_rat gr g cb 1 rs.length v bs (encA js) (enc 0++(enc 0++(enc 0++(enc 0++[])))) rs _ _ (fun a ha=>item_rat gr g v bs hl a (hok.rok a ha)) rfl hok.rpos hok.rle w' (hR.kx k hvq2) (by rw [hb2];rfl) hl h1 hvq (k.cell hr hgr2) h2 rfl (Ne.symm hgc) hgr)
 have HERule:=Lib.hid (fun w' uj ur (k:KX [g,cb] w w') (h1:RdrB g v (encA js++encB rs).length w') (h2:w'.heap[cb]? = some (.cells #[uj,ur,.slice none 0 0,.slice none 0 0,.slice none 0 0,.slice none 0 0] 31 (0,0))) =>
  cr_noneRule gr g cb 2 v bs (encA js++encB rs) ((enc 0++(enc 0++(enc 0++[])))) _ _ w' (hR.kx k hvq2) (by rw [hb2];simp) hl h1 (k.cell hr hgr2) h2 rfl (Ne.symm hgc) hgr)
 have HECert:=Lib.hid (fun w' uj ur (k:KX [g,cb] w w') (h1:RdrB g v (encA js++encB rs++enc 0).length w') (h2:w'.heap[cb]? = some (.cells #[uj,ur,.slice none 0 0,.slice none 0 0,.slice none 0 0,.slice none 0 0] 31 (0,0))) =>
  cr_noneCert gr g cb 3 v bs (encA js++encB rs++enc 0) ((enc 0++(enc 0++[]))) _ _ w' (hR.kx k hvq2) (by rw [hb2];simp) hl h1 (k.cell hr hgr2) h2 rfl (Ne.symm hgc) hgr)
 have HEHoliday:=Lib.hid (fun w' uj ur (k:KX [g,cb] w w') (h1:RdrB g v (encA js++encB rs++enc 0++enc 0).length w') (h2:w'.heap[cb]? = some (.cells #[uj,ur,.slice none 0 0,.slice none 0 0,.slice none 0 0,.slice none 0 0] 31 (0,0))) =>
  cr_noneHoliday gr g cb 4 v bs (encA js++encB rs++enc 0++enc 0) ((enc 0++[])) _ _ w' (hR.kx k hvq2) (by rw [hb2];simp) hl h1 (k.cell hr hgr2) h2 rfl (Ne.symm hgc) hgr)
 have HEStreet:=Lib.hid (fun w' uj ur (k:KX [g,cb] w w') (h1:RdrB g v (encA js++encB rs++enc 0++enc 0++enc 0).length w') (h2:w'.heap[cb]? = some (.cells #[uj,ur,.slice none 0 0,.slice none 0 0,.slice none 0 0,.slice none 0 0] 31 (0,0))) =>
  cr_noneStreet gr g cb 5 v bs (encA js++encB rs++enc 0++enc 0++enc 0) ([]) _ _ w' (hR.kx k hvq2) (by rw [hb2];simp) hl h1 (k.cell hr hgr2) h2 rfl (Ne.symm hgc) hgr)
 clear hR hl hg hvq hr hp hvq2
 go_enter Tryz.func52,Tryz.ntmps52
 go_wp2_with (first | (go_at_call 118;refine HJ.out.mono ?_;rintro e w1 ⟨rfl,r1,uj,blj,p1,ij,x1⟩;have p1':w1.heap[cb]? = some (.cells #[uj,.slice none 0 0,.slice none 0 0,.slice none 0 0,.slice none 0 0,.slice none 0 0] 31 (0,0)):=p1;have s1:=x1.size;clear p1) | (go_at_call 120;refine (HRT.out _ uj x1 (by exact r1) p1').mono ?_;rintro e w2 ⟨rfl,r2,ur,blr,p2',ir,x2'⟩;have p2:w2.heap[cb]? = some (.cells #[uj,ur,.slice none 0 0,.slice none 0 0,.slice none 0 0,.slice none 0 0] 31 (0,0)):=p2';have x2:=x1.then x2';have HIJ:=Lib.hid (ij.kx law_jur x2' (by simp;omega));have HIR:=Lib.hid (ListIs.mono ir s1);have HS:=Lib.hid x2;have s2:=x2.size;clear p2' ir ij x2' x1 p1' r1) | (go_at_call 122;refine (HERule.out _ uj ur HS.out (by exact r2) p2).mono ?_;rintro e w3 ⟨rfl,r3,y3⟩;have p3:=y3.row p2 (by simp;exact Ne.symm hgc);have yy3:=y3;clear r2 p2) | (go_at_call 124;refine (HECert.out _ uj ur (HS.out.then (yy3.mono (S':=[g,cb]) (by simp))) (by exact r3) p3).mono ?_;rintro e w4 ⟨rfl,r4,y4⟩;have p4:=y4.row p3 (by simp;exact Ne.symm hgc);have yy4:=yy3.then y4;clear r3 p3) | (go_at_call 126;refine (HEHoliday.out _ uj ur (HS.out.then (yy4.mono (S':=[g,cb]) (by simp))) (by exact r4) p4).mono ?_;rintro e w5 ⟨rfl,r5,y5⟩;have p5:=y5.row p4 (by simp;exact Ne.symm hgc);have yy5:=yy4.then y5;clear r4 p4) | (go_at_call 128;refine (HEStreet.out _ uj ur (HS.out.then (yy5.mono (S':=[g,cb]) (by simp))) (by exact r5) p5).mono ?_;rintro e w6 ⟨rfl,r6,y6⟩;have p6:=y6.row p5 (by simp;exact Ne.symm hgc);have yy6:=yy5.then y6;clear r5 p5))
 go_end0
 have HIJ2:=HIJ.out.kx law_jur yy6 (by simp;omega)
 have HIR2:=HIR.out.kx law_rat yy6 (by simp;omega)
 exact ⟨rfl,by rw [hb2];simpa [List.length_append,Nat.add_assoc] using r6,⟨uj,blj,ur,blr,p6,HIJ2,HIR2⟩,HS.out.then (yy6.mono (S':=[g,cb]) (by simp))⟩
theorem SlR.rdC {w:World} {u:Value} {r:NRing} (h:SlR J_pt 2 w u r) (hl:r.length≤1000):RdC w u (ptsN r):=by
 obtain ⟨b,off,cap,rfl,hc,hJ⟩:=h
 refine Rd.toC ⟨by unfold ptsN;simp;omega,.inr ⟨b,off,cap,by simp [ptsN],?_⟩⟩
 intro i hi
 have hi':i<r.length:=by simpa [ptsN] using hi
 have h:=hJ i r[i] (List.getElem?_eq_getElem hi')
 simp only [ptsN,List.getElem_map]
 exact h
theorem SlR.oneR {w:World} {u:Value} {r:NRing} (h:SlR J_ring 1 w u [r]) (hl:r.length≤1000):OneR w u (ptsN r):=by
 obtain ⟨b,off,cap,rfl,hc,hJ⟩:=h
 obtain ⟨v,hv,hr⟩:=hJ 0 r rfl
 have hd:=hr.rdC hl
 obtain ⟨b2,o2,cp,rfl,_,_⟩:=hr
 have e:(ptsN r).length=r.length:=by simp [ptsN]
 exact ⟨b,off,cap,some ⟨b2,o2,none⟩,cp,rfl,by simpa using hc,by rw [e];simpa using hv,by rw [e];exact hd⟩
structure CfgIs (js:List JU) (rs:List RT):Prop where
 cfg:CfgOk js rs
 jok:JsOk js
 reg:∀ j∈js,∃ r,j.rings=[r]∧chk (ptsN r)=(0,0)∧r.length≤200
 rlen:rs.length≤64
 rt:∀ r∈rs,RtOk r
 rid:∀ r∈rs,∃ (i:Nat) (p:JU),js[i]? = some p∧r.id=p.id
 rinc:∀ (i k:Nat) (a b:RT),rs[i]? = some a→rs[k]? = some b→i<k→a.id<b.id
set_option maxHeartbeats 8000000 in
set_option maxRecDepth 20000 in
theorem regions_ok (js:List JU) (rs:List RT) (hok:CfgIs js rs) (uj ur:Value) (w:World) (hj:SlR J_jur 5 w uj js) (hr:SlR J_rat 2 w ur rs) :
  Calls Tryz.prog 34 #[.agg #[uj,ur,.slice none 0 0,.slice none 0 0,.slice none 0 0,.slice none 0 0]] w fun e w'=>e=.returned (.tuple #[.int .i64 0,.int .i64 0])∧Kp w w':=by
 have hlen:=hok.jok.len
 have HREG:=Lib.hid hok.reg
 obtain ⟨bj,oj,cj,rfl,hcj,hJ⟩:=hj
 obtain ⟨bq,oq,cq,rfl,hcq,hR⟩:=hr
 have HJ:=Lib.hid hJ
 obtain ⟨nj,hnj⟩:∃ n,js.length=n:=⟨_,rfl⟩
 have HNJ:=Lib.hid hnj
 rw [hnj] at hcj hlen ⊢
 generalize rs.length=nr at *
 clear hJ hR hnj hok
 go_enter Tryz.func34,Tryz.ntmps34
 go_upto_region 1 with fail
 obtain ⟨W,hW⟩:∃ W,w.alloc (.cells #[.slice (some ⟨bj,oj,none⟩) nj cj,.slice (some ⟨bq,oq,none⟩) nr cq,.slice none 0 0,.slice none 0 0,.slice none 0 0,.slice none 0 0] 31)=W:=⟨_,rfl⟩
 obtain ⟨t,ht⟩:∃ t,w.heap.size=t:=⟨_,rfl⟩
 have KW:Kp w W:=by rw [← hW];exact kp_alloc (kp_refl _) _
 have q0:W.heap[t]? = some (.cells #[.slice (some ⟨bj,oj,none⟩) nj cj,.slice (some ⟨bq,oq,none⟩) nr cq,.slice none 0 0,.slice none 0 0,.slice none 0 0,.slice none 0 0] 31 (0,0)):=by rw [← hW,← ht];exact heap_alloc_new _ _
 have htl:w.heap.size≤t:=by omega
 simp only [hW,ht]
 clear hW ht
 have x0:W.cell? ⟨t,0,none⟩=some (.slice (some ⟨bj,oj,none⟩) nj cj):=by rw [cell_of_row W t _ _ _ _ q0];rfl
 have x1:W.cell? ⟨t,1,none⟩=some (.slice (some ⟨bq,oq,none⟩) nr cq):=by rw [cell_of_row W t _ _ _ _ q0];rfl
 have x2:W.cell? ⟨t,2,none⟩=some (.slice none 0 0):=by rw [cell_of_row W t _ _ _ _ q0];rfl
 have x3:W.cell? ⟨t,3,none⟩=some (.slice none 0 0):=by rw [cell_of_row W t _ _ _ _ q0];rfl
 have x4:W.cell? ⟨t,4,none⟩=some (.slice none 0 0):=by rw [cell_of_row W t _ _ _ _ q0];rfl
 have x5:W.cell? ⟨t,5,none⟩=some (.slice none 0 0):=by rw [cell_of_row W t _ _ _ _ q0];rfl
 have lx:=cell_lt x0
 clear q0
 go_wp2_with fail
 go_loopw [10] (fun i wr=>∃ k:Nat,k≤nj∧i=.int .i64 k∧Kp W wr) (fun i _=>nj - (intOf i).toNat)
 case atStart=>exact ⟨0,by omega,rfl,kp_refl _⟩
 case round =>
  obtain ⟨k,hk,rfl,hkp⟩:=hrel
  by_cases hlt:k<nj
  ·obtain ⟨a,ha⟩:∃ a,js[k]? = some a:=⟨_,List.getElem?_eq_getElem (by rw [HNJ.out];exact hlt)⟩
   obtain ⟨y0,y1,y2,y3,u,y4,hu⟩:=stays_jur _ _ _ _ _ (kp_trans KW hkp) (HJ.out k a ha)
   obtain ⟨r,hr1,hr2,hr3⟩:=HREG.out a (List.mem_of_getElem? ha)
   have hone:=SlR.oneR (by rw [hr1] at hu;exact hu) (by omega:r.length≤1000)
   obtain ⟨bb,o2,c2,rfl,_,_⟩:=hu
   have RK:=Lib.hid (fun w' (k2:Kp wr w')=>rcheck_one _ _ (by simp [ptsN];omega) hr2 w' (hone.kp k2))
   have lb:=cell_lt y0
   have c1:(0:Int)≤(k:Int):=by omega
   have c3:(k:Int)<(nj:Int):=by omega
   have wi:IntKind.i64.wrap ((k:Int)+1)=(k:Int)+1:=IntWalk.i64_in _ (by omega)
   have HK:=Lib.hid hkp
   generalize a.rings.length=q at *
   clear hkp ha hone hr1 hr2 x1 x2 x3 x4 x5
   go_wp2_with (go_at_call 55;refine (RK.out _ (by (repeat (first | exact kp_refl _ | apply kp_alloc | apply kp_drew | apply kp_drewN)))).mono ?_;rintro e w2 ⟨rfl,hk2⟩;have HK2:Hid (Kp wr w2):=Lib.hid (kp_trans (by (repeat (first | exact kp_refl _ | apply kp_alloc | apply kp_drew | apply kp_drewN))) hk2);clear hk2)
   exact ⟨⟨k+1,by omega,by go_num,kp_trans HK.out (kp_trans HK2.out (by (repeat (first | exact kp_refl _ | apply kp_alloc | apply kp_drew | apply kp_drewN))))⟩,by simp [intOf];omega⟩
  ·obtain rfl:k=nj:=by omega
   go_wp2_with fail
   go_ret2
   exact ⟨rfl,kp_trans KW hkp⟩
def lastR (rs:List RT) (k:Nat):Nat:=match k with | 0=>0 | m+1=>match rs[m]? with | some r=>r.id | none=>0
theorem lastR_lt {js:List JU} {rs:List RT} (hok:CfgIs js rs) {k:Nat} {r:RT} (h:rs[k]? = some r):lastR rs k<r.id:=by
 cases k with
 | zero =>
  obtain ⟨i,p,hp,he⟩:=hok.rid r (List.mem_of_getElem? h)
  have:=hok.jok.id p (List.mem_of_getElem? hp)
  show 0<r.id
  omega
 | succ m =>
  obtain ⟨a,ha⟩:∃ a,rs[m]? = some a:=⟨_,List.getElem?_eq_getElem (by have:=(List.getElem?_eq_some_iff.1 h).1;omega)⟩
  show (match rs[m]? with | some r=>r.id | none=>0)<r.id
  rw [ha]
  exact hok.rinc m (m+1) a r ha h (by omega)
set_option maxHeartbeats 8000000 in
set_option maxRecDepth 20000 in
theorem rates_ok (js:List JU) (rs:List RT) (hok:CfgIs js rs) (uj ur:Value) (w:World) (hj:SlR J_jur 5 w uj js) (hr:SlR J_rat 2 w ur rs) :
  Calls Tryz.prog 36 #[.agg #[uj,ur,.slice none 0 0,.slice none 0 0,.slice none 0 0,.slice none 0 0]] w fun e w'=>e=.returned (.tuple #[.int .i64 0,.int .i64 0])∧Kp w w':=by
 have hlen:=hok.rlen
 have HOK:=Lib.hid hok
 have hur:∃ p n c,ur=.slice p n c:=by obtain ⟨b,o,c,h,_⟩:=hr;exact ⟨_,_,_,h⟩
 have HRT:=Lib.hid (fun w' (k:Kp w w') (i:Nat) (p:JU) (hp:js[i]? = some p) (r:RT) (h:RtOk r) hid ud (hd:SlR J_pt 2 w' ud r.ds) last hl=>rate_at js hok.jok uj ur w' (hj.kp stays_jur k) hur i p hp r h hid ud hd last hl)
 obtain ⟨bj,oj,cj,rfl,hcj,hJ⟩:=hj
 obtain ⟨bq,oq,cq,rfl,hcq,hR⟩:=hr
 have HR:=Lib.hid hR
 obtain ⟨nr,hnr⟩:∃ n,rs.length=n:=⟨_,rfl⟩
 have HNR:=Lib.hid hnr
 rw [hnr] at hcq hlen HRT ⊢
 generalize js.length=nj at *
 clear hJ hR hnr hok hur
 have z0:¬ (64:Int)<(nr:Int):=by omega
 go_enter Tryz.func36,Tryz.ntmps36
 go_upto_region 1 with fail
 obtain ⟨W,hW⟩:∃ W,w.alloc (.cells #[.slice (some ⟨bj,oj,none⟩) nj cj,.slice (some ⟨bq,oq,none⟩) nr cq,.slice none 0 0,.slice none 0 0,.slice none 0 0,.slice none 0 0] 31)=W:=⟨_,rfl⟩
 obtain ⟨t,ht⟩:∃ t,w.heap.size=t:=⟨_,rfl⟩
 have KW:Kp w W:=by rw [← hW];exact kp_alloc (kp_refl _) _
 have q0:W.heap[t]? = some (.cells #[.slice (some ⟨bj,oj,none⟩) nj cj,.slice (some ⟨bq,oq,none⟩) nr cq,.slice none 0 0,.slice none 0 0,.slice none 0 0,.slice none 0 0] 31 (0,0)):=by rw [← hW,← ht];exact heap_alloc_new _ _
 have htl:w.heap.size≤t:=by omega
 simp only [hW,ht]
 clear hW ht
 have x0:W.cell? ⟨t,0,none⟩=some (.slice (some ⟨bj,oj,none⟩) nj cj):=by rw [cell_of_row W t _ _ _ _ q0];rfl
 have x1:W.cell? ⟨t,1,none⟩=some (.slice (some ⟨bq,oq,none⟩) nr cq):=by rw [cell_of_row W t _ _ _ _ q0];rfl
 have x2:W.cell? ⟨t,2,none⟩=some (.slice none 0 0):=by rw [cell_of_row W t _ _ _ _ q0];rfl
 have x3:W.cell? ⟨t,3,none⟩=some (.slice none 0 0):=by rw [cell_of_row W t _ _ _ _ q0];rfl
 have x4:W.cell? ⟨t,4,none⟩=some (.slice none 0 0):=by rw [cell_of_row W t _ _ _ _ q0];rfl
 have x5:W.cell? ⟨t,5,none⟩=some (.slice none 0 0):=by rw [cell_of_row W t _ _ _ _ q0];rfl
 have lx:=cell_lt x0
 clear q0
 go_wp2_with fail
 go_loopw [4,15] (fun l i wr=>∃ k:Nat,k≤nr∧i=.int .i64 k∧l=.int .i64 (lastR rs k)∧Kp W wr) (fun _ i _=>nr - (intOf i).toNat)
 case atStart=>exact ⟨0,by omega,rfl,rfl,kp_refl _⟩
 case round =>
  obtain ⟨k,hk,rfl,rfl,hkp⟩:=hrel
  by_cases hlt:k<nr
  ·obtain ⟨a,ha⟩:∃ a,rs[k]? = some a:=⟨_,List.getElem?_eq_getElem (by rw [HNR.out];exact hlt)⟩
   have KA:=kp_trans KW hkp
   obtain ⟨y0,u,y1,hu⟩:=stays_rat _ _ _ _ _ KA (HR.out k a ha)
   obtain ⟨i,p,hp,hid⟩:=HOK.out.rid a (List.mem_of_getElem? ha)
   have hll:=lastR_lt HOK.out ha
   have hl2:lastR rs (k+1)=a.id:=by show (match rs[k]? with | some r=>r.id | none=>0)=a.id;rw [ha]
   have RA:=Lib.hid (fun w' (k2:Kp wr w')=>HRT.out w' (kp_trans KA k2) i p hp a (HOK.out.rt a (List.mem_of_getElem? ha)) hid u (hu.kp stays_pt k2) (lastR rs k) hll)
   obtain ⟨bb,o2,c2,rfl,_,_⟩:=hu
   have HL2:=Lib.hid hl2
   have lb:=cell_lt y0
   have c1:(0:Int)≤(k:Int):=by omega
   have c3:(k:Int)<(nr:Int):=by omega
   have wi:IntKind.i64.wrap ((k:Int)+1)=(k:Int)+1:=IntWalk.i64_in _ (by omega)
   have z0:=kp_cell hkp x0
   have z1:=kp_cell hkp x1
   have z2:=kp_cell hkp x2
   have z3:=kp_cell hkp x3
   have z4:=kp_cell hkp x4
   have z5:=kp_cell hkp x5
   have lz:=cell_lt z0
   have HK:=Lib.hid hkp
   generalize lastR rs k=la at *
   generalize a.ds.length=q at *
   obtain ⟨ia,hia⟩:∃ x,a.id=x:=⟨_,rfl⟩
   have HIA:=Lib.hid hia
   rw [hia] at y0 RA
   clear hkp ha hp hid hll hl2 hia x0 x1 x2 x3 x4 x5
   go_wp2_with (go_at_call 101;refine (RA.out _ (by (repeat (first | exact kp_refl _ | apply kp_alloc | apply kp_drew | apply kp_drewN)))).mono ?_;rintro e w2 ⟨rfl,hk2⟩;have d0:=kp_cell hk2 (show (World.alloc wr _).cell? ⟨wr.heap.size,0,none⟩=some (.int .i64 ia) by simp [go_sem]);have ld:=cell_lt d0;have HK2:Hid (Kp wr w2):=Lib.hid (kp_trans (by (repeat (first | exact kp_refl _ | apply kp_alloc | apply kp_drew | apply kp_drewN))) hk2);clear hk2)
   exact ⟨⟨k+1,by omega,by go_num,by rw [HL2.out,HIA.out],kp_trans HK.out HK2.out⟩,by simp [intOf];omega⟩
  ·obtain rfl:k=nr:=by omega
   go_wp2_with fail
   go_ret2
   exact ⟨rfl,kp_trans KW hkp⟩
set_option maxHeartbeats 4000000 in
theorem mx_none (w:World):Calls Tryz.prog 38 #[.slice none 0 0] w fun e w'=>e=.returned (.tuple #[.int .i64 0,.int .i64 0])∧Kp w w':=by
 go_enter Tryz.func38,Tryz.ntmps38
 go_wp2_with fail
 go_loopw [12] (fun i wr=>i=.int .i64 0∧Kp w wr) (fun _ _=>0)
 case atStart=>exact ⟨rfl,kp_refl _⟩
 case round =>
  obtain ⟨rfl,hkp⟩:=hrel
  go_wp2_with fail
  go_ret2
  exact ⟨rfl,hkp⟩
set_option maxHeartbeats 4000000 in
theorem ct_none (w:World):Calls Tryz.prog 42 #[.slice none 0 0] w fun e w'=>e=.returned (.tuple #[.int .i64 0,.int .i64 0])∧Kp w w':=by
 go_enter Tryz.func42,Tryz.ntmps42
 go_wp2_with fail
 go_loopw [12] (fun i wr=>i=.int .i64 0∧Kp w wr) (fun _ _=>0)
 case atStart=>exact ⟨rfl,kp_refl _⟩
 case round =>
  obtain ⟨rfl,hkp⟩:=hrel
  go_wp2_with fail
  go_ret2
  exact ⟨rfl,hkp⟩
set_option maxHeartbeats 4000000 in
theorem hd_none (w:World):Calls Tryz.prog 46 #[.slice none 0 0] w fun e w'=>e=.returned (.tuple #[.int .i64 0,.int .i64 0])∧Kp w w':=by
 go_enter Tryz.func46,Tryz.ntmps46
 go_wp2_with fail
 go_loopw [12] (fun i wr=>i=.int .i64 0∧Kp w wr) (fun _ _=>0)
 case atStart=>exact ⟨rfl,kp_refl _⟩
 case round =>
  obtain ⟨rfl,hkp⟩:=hrel
  go_wp2_with fail
  go_ret2
  exact ⟨rfl,hkp⟩
set_option maxHeartbeats 4000000 in
theorem known_mx (p1 p2:Option Addr) (n1 c1 n2 c2:Nat) (f:Value) (w:World):Calls Tryz.prog 39 #[.agg #[.slice p1 n1 c1,.slice p2 n2 c2,.slice none 0 0,.slice none 0 0,.slice none 0 0,.slice none 0 0],.slice none 0 0,.int .i64 0,.int .i64 0,f] w fun e w'=>e=.returned (.tuple #[.int .i64 0,.int .i64 0])∧Kp w w':=by
 go_enter Tryz.func39,Tryz.ntmps39
 go_wp2_with fail
 go_loopw [21] (fun i wr=>i=.int .i64 0∧Kp w wr) (fun _ _=>0)
 case atStart=>exact ⟨rfl,(by (repeat (first | exact kp_refl _ | apply kp_alloc | apply kp_drew | apply kp_drewN)))⟩
 case round =>
  obtain ⟨rfl,hkp⟩:=hrel
  go_wp2_with fail
  go_ret2
  exact ⟨rfl,hkp⟩
set_option maxHeartbeats 4000000 in
theorem known_ct (p1 p2:Option Addr) (n1 c1 n2 c2:Nat) (f:Value) (w:World):Calls Tryz.prog 43 #[.agg #[.slice p1 n1 c1,.slice p2 n2 c2,.slice none 0 0,.slice none 0 0,.slice none 0 0,.slice none 0 0],.slice none 0 0,.int .i64 0,.int .i64 0,f] w fun e w'=>e=.returned (.tuple #[.int .i64 0,.int .i64 0])∧Kp w w':=by
 go_enter Tryz.func43,Tryz.ntmps43
 go_wp2_with fail
 go_loopw [21] (fun i wr=>i=.int .i64 0∧Kp w wr) (fun _ _=>0)
 case atStart=>exact ⟨rfl,(by (repeat (first | exact kp_refl _ | apply kp_alloc | apply kp_drew | apply kp_drewN)))⟩
 case round =>
  obtain ⟨rfl,hkp⟩:=hrel
  go_wp2_with fail
  go_ret2
  exact ⟨rfl,hkp⟩
set_option maxHeartbeats 4000000 in
theorem known_hd (p1 p2:Option Addr) (n1 c1 n2 c2:Nat) (f:Value) (w:World):Calls Tryz.prog 47 #[.agg #[.slice p1 n1 c1,.slice p2 n2 c2,.slice none 0 0,.slice none 0 0,.slice none 0 0,.slice none 0 0],.slice none 0 0,.int .i64 0,.int .i64 0,f] w fun e w'=>e=.returned (.tuple #[.int .i64 0,.int .i64 0])∧Kp w w':=by
 go_enter Tryz.func47,Tryz.ntmps47
 go_wp2_with fail
 go_loopw [21] (fun i wr=>i=.int .i64 0∧Kp w wr) (fun _ _=>0)
 case atStart=>exact ⟨rfl,(by (repeat (first | exact kp_refl _ | apply kp_alloc | apply kp_drew | apply kp_drewN)))⟩
 case round =>
  obtain ⟨rfl,hkp⟩:=hrel
  go_wp2_with fail
  go_ret2
  exact ⟨rfl,hkp⟩
set_option maxHeartbeats 4000000 in
theorem sti_none (f:Value) (w:World):Calls Tryz.prog 109 #[.slice none 0 0,f] w fun e w'=>e=.returned (.int .i64 (-1))∧Kp w w':=by
 go_enter Tryz.func109,Tryz.ntmps109
 go_wp2_with fail
 go_loopw [8] (fun i wr=>i=.int .i64 0∧Kp w wr) (fun _ _=>0)
 case atStart=>exact ⟨rfl,kp_refl _⟩
 case round =>
  obtain ⟨rfl,hkp⟩:=hrel
  go_wp2_with fail
  go_ret
  exact ⟨rfl,hkp⟩
set_option maxHeartbeats 4000000 in
theorem st_none (w:World):Calls Tryz.prog 50 #[.slice none 0 0] w fun e w'=>∃ p,e=.returned (.tuple #[.pointer p,.agg #[.int .i64 0,.int .i64 0]])∧Kp w w':=by
 go_enter Tryz.func50,Tryz.ntmps50
 go_upto_region 1 with fail
 obtain ⟨W,hW⟩:∃ W,w.alloc (.cells #[.int .i64 0,.int .i64 0] 88)=W:=⟨_,rfl⟩
 obtain ⟨t,ht⟩:∃ t,w.heap.size=t:=⟨_,rfl⟩
 have KW:Kp w W:=by rw [← hW];exact kp_alloc (kp_refl _) _
 have rW:W.heap[t]? = some (.cells #[.int .i64 0,.int .i64 0] 88 (0,0)):=by rw [← hW,← ht];exact heap_alloc_new _ _
 have htl:w.heap.size≤t:=by omega
 rw [hW,ht]
 clear hW ht
 have hmm:=@run_makeMap Tryz.prog
 go_wp2_with (go_at_call 109;refine (sti_none _ _).mono ?_;rintro e w1 ⟨rfl,hk1⟩;have K1:=kp_trans KW hk1;have r1:=(hk1.block t (Array.getElem?_eq_some_iff.1 rW).1).trans rW)
 go_loopw [32] (fun i wr=>i=.int .i64 0∧Kp w1 wr) (fun _ _=>0)
 case atStart=>exact ⟨rfl,(by (repeat (first | exact kp_refl _ | apply kp_alloc | apply kp_drew | apply kp_drewN)))⟩
 case round =>
  obtain ⟨rfl,hkp⟩:=hrel
  have r2:=(hkp.block t (Array.getElem?_eq_some_iff.1 r1).1).trans r1
  have t0:wr.cell? ⟨t,0,none⟩=some (.int .i64 0):=by rw [cell_of_row wr t _ _ _ _ r2];rfl
  have t1:wr.cell? ⟨t,1,none⟩=some (.int .i64 0):=by rw [cell_of_row wr t _ _ _ _ r2];rfl
  have fr:=fun o=>frozen_of_row wr t o _ _ r2
  have lt1:=cell_lt t0
  have HR:=Lib.hid r2
  have K2:=kp_trans K1 hkp
  clear r2 r1 rW
  go_wp2_with fail
  have R2:((wr.setCell ⟨t,0,none⟩ (.int .i64 0)).setCell ⟨t,1,none⟩ (.int .i64 0)).heap[t]? = some (.cells #[.int .i64 0,.int .i64 0] 88 (0,0)):=by
   rw [heap_setCell_same _ t _ _ _ _ (heap_setCell_same _ t _ _ _ _ HR.out)];rfl
  refine bodyPost_ret (v:=.tuple #[.pointer (some ⟨w1.heap.size+1,0,none⟩),.agg #[.int .i64 0,.int .i64 0]]) ?_ rfl ?_
  ·simp [results,Tryz.results50,go_sem,cell_of_row _ t _ _ _ _ R2]
  ·refine ⟨⟨_,rfl⟩,kp_set (kp_set K2 ?_ _) ?_ _⟩ <;> exact htl
set_option maxHeartbeats 8000000 in
set_option maxRecDepth 100000 in
theorem cw_listPt {α:Type} (J:World→Nat→Nat→α→Prop) (encI:α→List Int) (gw lb lo b off cap m:Nat) (l:List α) (bs:List Int) (S:List Nat) (w0 w:World) (hlen:l.length=m) (hm:m≤1000) (hcap:m≤cap) (hit:∀ a∈l,ItemW 207 gw J encI w0 a)
  (k0:Kp w0 w) (hp:w0.cell? ⟨lb,lo,none⟩=some (.slice (some ⟨b,off,none⟩) m cap)) (hJ:∀ k a,l[k]? = some a→J w0 b (off+k * 2) a) (hw:WrB gw bs S w) (hS:∀ x∈S,w0.heap.size≤x) (hl:bs.length+(enc m++encL encI l).length≤80000) :
  Calls Tryz.prog 279 #[.iface 141 (.pointer (some ⟨gw,0,none⟩)),.pointer (some ⟨lb,lo,none⟩),.func (.func 207) #[] #[]] w fun e w'=>e=.returned (.tuple #[])∧WX gw (bs++(enc m++encL encI l)) S w w':=by
 have lgw:=hw.lt
 have c0:=kp_cell k0 hp
 have llb:=cell_lt c0
 have HC:=Lib.hid (fun w' (k:Kp w w')=>cw_count gw m bs S (by omega) (by simp only [List.length_append] at hl;omega) w' (hw.kp k))
 have HLEN:=Lib.hid hlen;have HIT:=Lib.hid hit;have HK0:=Lib.hid k0;have HP:=Lib.hid hp;have HJ:=Lib.hid hJ;have HS:=Lib.hid hS;have HL:=Lib.hid hl;have HC0:=Lib.hid hcap
 have hm1:=mth_wcount (some ⟨gw,0,none⟩)
 have hm3:=mth_wfine (some ⟨gw,0,none⟩)
 have hm2':=nil_wcount ⟨gw,0,none⟩
 clear hlen hit k0 hp hJ hw hS hl hcap
 go_enter Tryz.func279,Tryz.ntmps279
 go_upto_region 0 with fail
 go_cut [6] (fun n wx=>n=.int .i64 m∧WX gw (bs++enc m) S w wx)
 case first =>
  go_region_with (go_at_call 514;refine (HC.out _ (by (repeat (first | exact kp_refl _ | apply kp_alloc | apply kp_drew | apply kp_drewN)))).mono ?_;rintro e w4 ⟨rfl,h1⟩)
  all_goals
   go_wp2_with fail
   go_meet
   exact ⟨rfl,WX.pre (by (repeat (first | exact kp_refl _ | apply kp_alloc | apply kp_drew | apply kp_drewN))) h1⟩
 case rest =>
  obtain ⟨rfl,hwx⟩:=hcut
  have kc:=hwx.keeps HS.out HK0.out
  have c1:=kp_cell kc HP.out
  have llb1:=cell_lt c1
  have HWX:=Lib.hid hwx
  have z0:¬ (m:Int)<(m:Int):=by omega
  clear hwx kc HC c0
  go_wp2_with fail
  go_loopw [8] (fun i wr=>∃ k:Nat,k≤m∧i=.int .i64 k∧WX gw (bs++(enc m++encL encI (l.take k))) S w wr) (fun i _=>m - (intOf i).toNat)
  case atStart=>exact ⟨0,by omega,rfl,by simpa [encL] using HWX.out⟩
  case round =>
   obtain ⟨k,hk,rfl,hwx⟩:=hrel
   clear HWX c1 llb1
   by_cases hlt:k<m
   ·have z1:(k:Int)<(m:Int):=by omega
    have z2:(0:Int)≤(k:Int):=by omega
    have z3:decide ((k:Int)<(m:Int))=true:=decide_eq_true z1
    have wi:IntKind.i64.wrap ((k:Int)+1)=(k:Int)+1:=IntWalk.i64_in _ (by omega)
    obtain ⟨S1,h1,k1,s1⟩:=hwx
    obtain ⟨a,ha⟩:∃ a,l[k]? = some a:=⟨_,List.getElem?_eq_getElem (by rw [HLEN.out];exact hlt)⟩
    have HW1:=Lib.hid h1;have HK1:=Lib.hid k1;have HS1:=Lib.hid s1
    have hel:(encL encI l).length=(encL encI (l.take k)).length+((encI a).length+(encL encI (l.drop (k+1))).length):=by rw [encL_split encI ha];simp
    have hb1:∀ x∈S1,w0.heap.size≤x:=fun x hx=>(HS1.out x hx).elim (HS.out x) (fun h=>Nat.le_trans (Below.size HK0.out) h)
    have HI:=Lib.hid (fun w' (k2:Kp wr w')=>HIT.out a (List.mem_of_getElem? ha) b (off+k * 2) (bs++(enc m++encL encI (l.take k))) S1 w' (kp_trans (KX.after HK0.out HK1.out HS.out) k2) (by have h:=HJ.out k a ha;simpa using h) (HW1.out.kp k2) hb1 (by have:=HL.out;simp only [List.length_append] at this ⊢;omega))
    clear h1 k1 s1 hb1 hel
    go_wp2_with (first | (go_at_call 515;refine (cw_fine gw _).mono ?_;rintro e w2 ⟨rfl,hk2⟩) | (go_at_call 207;refine (HI.out _ hk2).mono ?_;rintro e w3 ⟨rfl,h3⟩))
    refine ⟨⟨k+1,by omega,by go_num,?_⟩,by simp [intOf];omega⟩
    rw [encL_snoc encI ha,← List.append_assoc (enc m),← List.append_assoc bs]
    exact WX.trans HK1.out HS1.out (WX.pre hk2 h3)
   ·obtain rfl:k=m:=by omega
    have z1:¬ (k:Int)<(k:Int):=by omega
    have e1:l.take k=l:=List.take_of_length_le (by rw [HLEN.out];exact Nat.le_refl _)
    rw [e1] at hwx
    have HX:=Lib.hid hwx
    clear hwx e1
    go_wp2_with fail
    go_end0
    exact ⟨rfl,HX.out⟩
set_option maxHeartbeats 8000000 in
set_option maxRecDepth 100000 in
theorem cw_listRings {α:Type} (J:World→Nat→Nat→α→Prop) (encI:α→List Int) (gw lb lo b off cap m:Nat) (l:List α) (bs:List Int) (S:List Nat) (w0 w:World) (hlen:l.length=m) (hm:m≤1000) (hcap:m≤cap) (hit:∀ a∈l,ItemW 204 gw J encI w0 a)
  (k0:Kp w0 w) (hp:w0.cell? ⟨lb,lo,none⟩=some (.slice (some ⟨b,off,none⟩) m cap)) (hJ:∀ k a,l[k]? = some a→J w0 b (off+k * 1) a) (hw:WrB gw bs S w) (hS:∀ x∈S,w0.heap.size≤x) (hl:bs.length+(enc m++encL encI l).length≤80000) :
  Calls Tryz.prog 203 #[.iface 141 (.pointer (some ⟨gw,0,none⟩)),.pointer (some ⟨lb,lo,none⟩),.func (.func 204) #[] #[]] w fun e w'=>e=.returned (.tuple #[])∧WX gw (bs++(enc m++encL encI l)) S w w':=by
 have lgw:=hw.lt
 have c0:=kp_cell k0 hp
 have llb:=cell_lt c0
 have HC:=Lib.hid (fun w' (k:Kp w w')=>cw_count gw m bs S (by omega) (by simp only [List.length_append] at hl;omega) w' (hw.kp k))
 have HLEN:=Lib.hid hlen;have HIT:=Lib.hid hit;have HK0:=Lib.hid k0;have HP:=Lib.hid hp;have HJ:=Lib.hid hJ;have HS:=Lib.hid hS;have HL:=Lib.hid hl;have HC0:=Lib.hid hcap
 have hm1:=mth_wcount (some ⟨gw,0,none⟩)
 have hm3:=mth_wfine (some ⟨gw,0,none⟩)
 have hm2':=nil_wcount ⟨gw,0,none⟩
 clear hlen hit k0 hp hJ hw hS hl hcap
 go_enter Tryz.func203,Tryz.ntmps203
 go_upto_region 0 with fail
 go_cut [6] (fun n wx=>n=.int .i64 m∧WX gw (bs++enc m) S w wx)
 case first =>
  go_region_with (go_at_call 514;refine (HC.out _ (by (repeat (first | exact kp_refl _ | apply kp_alloc | apply kp_drew | apply kp_drewN)))).mono ?_;rintro e w4 ⟨rfl,h1⟩)
  all_goals
   go_wp2_with fail
   go_meet
   exact ⟨rfl,WX.pre (by (repeat (first | exact kp_refl _ | apply kp_alloc | apply kp_drew | apply kp_drewN))) h1⟩
 case rest =>
  obtain ⟨rfl,hwx⟩:=hcut
  have kc:=hwx.keeps HS.out HK0.out
  have c1:=kp_cell kc HP.out
  have llb1:=cell_lt c1
  have HWX:=Lib.hid hwx
  have z0:¬ (m:Int)<(m:Int):=by omega
  clear hwx kc HC c0
  go_wp2_with fail
  go_loopw [8] (fun i wr=>∃ k:Nat,k≤m∧i=.int .i64 k∧WX gw (bs++(enc m++encL encI (l.take k))) S w wr) (fun i _=>m - (intOf i).toNat)
  case atStart=>exact ⟨0,by omega,rfl,by simpa [encL] using HWX.out⟩
  case round =>
   obtain ⟨k,hk,rfl,hwx⟩:=hrel
   clear HWX c1 llb1
   by_cases hlt:k<m
   ·have z1:(k:Int)<(m:Int):=by omega
    have z2:(0:Int)≤(k:Int):=by omega
    have z3:decide ((k:Int)<(m:Int))=true:=decide_eq_true z1
    have wi:IntKind.i64.wrap ((k:Int)+1)=(k:Int)+1:=IntWalk.i64_in _ (by omega)
    obtain ⟨S1,h1,k1,s1⟩:=hwx
    obtain ⟨a,ha⟩:∃ a,l[k]? = some a:=⟨_,List.getElem?_eq_getElem (by rw [HLEN.out];exact hlt)⟩
    have HW1:=Lib.hid h1;have HK1:=Lib.hid k1;have HS1:=Lib.hid s1
    have hel:(encL encI l).length=(encL encI (l.take k)).length+((encI a).length+(encL encI (l.drop (k+1))).length):=by rw [encL_split encI ha];simp
    have hb1:∀ x∈S1,w0.heap.size≤x:=fun x hx=>(HS1.out x hx).elim (HS.out x) (fun h=>Nat.le_trans (Below.size HK0.out) h)
    have HI:=Lib.hid (fun w' (k2:Kp wr w')=>HIT.out a (List.mem_of_getElem? ha) b (off+k) (bs++(enc m++encL encI (l.take k))) S1 w' (kp_trans (KX.after HK0.out HK1.out HS.out) k2) (by have h:=HJ.out k a ha;simpa using h) (HW1.out.kp k2) hb1 (by have:=HL.out;simp only [List.length_append] at this ⊢;omega))
    clear h1 k1 s1 hb1 hel
    go_wp2_with (first | (go_at_call 515;refine (cw_fine gw _).mono ?_;rintro e w2 ⟨rfl,hk2⟩) | (go_at_call 204;refine (HI.out _ hk2).mono ?_;rintro e w3 ⟨rfl,h3⟩))
    refine ⟨⟨k+1,by omega,by go_num,?_⟩,by simp [intOf];omega⟩
    rw [encL_snoc encI ha,← List.append_assoc (enc m),← List.append_assoc bs]
    exact WX.trans HK1.out HS1.out (WX.pre hk2 h3)
   ·obtain rfl:k=m:=by omega
    have z1:¬ (k:Int)<(k:Int):=by omega
    have e1:l.take k=l:=List.take_of_length_le (by rw [HLEN.out];exact Nat.le_refl _)
    rw [e1] at hwx
    have HX:=Lib.hid hwx
    clear hwx e1
    go_wp2_with fail
    go_end0
    exact ⟨rfl,HX.out⟩
set_option maxHeartbeats 8000000 in
set_option maxRecDepth 100000 in
theorem cw_listDated {α:Type} (J:World→Nat→Nat→α→Prop) (encI:α→List Int) (gw lb lo b off cap m:Nat) (l:List α) (bs:List Int) (S:List Nat) (w0 w:World) (hlen:l.length=m) (hm:m≤1000) (hcap:m≤cap) (hit:∀ a∈l,ItemW 206 gw J encI w0 a)
  (k0:Kp w0 w) (hp:w0.cell? ⟨lb,lo,none⟩=some (.slice (some ⟨b,off,none⟩) m cap)) (hJ:∀ k a,l[k]? = some a→J w0 b (off+k * 2) a) (hw:WrB gw bs S w) (hS:∀ x∈S,w0.heap.size≤x) (hl:bs.length+(enc m++encL encI l).length≤80000) :
  Calls Tryz.prog 205 #[.iface 141 (.pointer (some ⟨gw,0,none⟩)),.pointer (some ⟨lb,lo,none⟩),.func (.func 206) #[] #[]] w fun e w'=>e=.returned (.tuple #[])∧WX gw (bs++(enc m++encL encI l)) S w w':=by
 have lgw:=hw.lt
 have c0:=kp_cell k0 hp
 have llb:=cell_lt c0
 have HC:=Lib.hid (fun w' (k:Kp w w')=>cw_count gw m bs S (by omega) (by simp only [List.length_append] at hl;omega) w' (hw.kp k))
 have HLEN:=Lib.hid hlen;have HIT:=Lib.hid hit;have HK0:=Lib.hid k0;have HP:=Lib.hid hp;have HJ:=Lib.hid hJ;have HS:=Lib.hid hS;have HL:=Lib.hid hl;have HC0:=Lib.hid hcap
 have hm1:=mth_wcount (some ⟨gw,0,none⟩)
 have hm3:=mth_wfine (some ⟨gw,0,none⟩)
 have hm2':=nil_wcount ⟨gw,0,none⟩
 clear hlen hit k0 hp hJ hw hS hl hcap
 go_enter Tryz.func205,Tryz.ntmps205
 go_upto_region 0 with fail
 go_cut [6] (fun n wx=>n=.int .i64 m∧WX gw (bs++enc m) S w wx)
 case first =>
  go_region_with (go_at_call 514;refine (HC.out _ (by (repeat (first | exact kp_refl _ | apply kp_alloc | apply kp_drew | apply kp_drewN)))).mono ?_;rintro e w4 ⟨rfl,h1⟩)
  all_goals
   go_wp2_with fail
   go_meet
   exact ⟨rfl,WX.pre (by (repeat (first | exact kp_refl _ | apply kp_alloc | apply kp_drew | apply kp_drewN))) h1⟩
 case rest =>
  obtain ⟨rfl,hwx⟩:=hcut
  have kc:=hwx.keeps HS.out HK0.out
  have c1:=kp_cell kc HP.out
  have llb1:=cell_lt c1
  have HWX:=Lib.hid hwx
  have z0:¬ (m:Int)<(m:Int):=by omega
  clear hwx kc HC c0
  go_wp2_with fail
  go_loopw [8] (fun i wr=>∃ k:Nat,k≤m∧i=.int .i64 k∧WX gw (bs++(enc m++encL encI (l.take k))) S w wr) (fun i _=>m - (intOf i).toNat)
  case atStart=>exact ⟨0,by omega,rfl,by simpa [encL] using HWX.out⟩
  case round =>
   obtain ⟨k,hk,rfl,hwx⟩:=hrel
   clear HWX c1 llb1
   by_cases hlt:k<m
   ·have z1:(k:Int)<(m:Int):=by omega
    have z2:(0:Int)≤(k:Int):=by omega
    have z3:decide ((k:Int)<(m:Int))=true:=decide_eq_true z1
    have wi:IntKind.i64.wrap ((k:Int)+1)=(k:Int)+1:=IntWalk.i64_in _ (by omega)
    obtain ⟨S1,h1,k1,s1⟩:=hwx
    obtain ⟨a,ha⟩:∃ a,l[k]? = some a:=⟨_,List.getElem?_eq_getElem (by rw [HLEN.out];exact hlt)⟩
    have HW1:=Lib.hid h1;have HK1:=Lib.hid k1;have HS1:=Lib.hid s1
    have hel:(encL encI l).length=(encL encI (l.take k)).length+((encI a).length+(encL encI (l.drop (k+1))).length):=by rw [encL_split encI ha];simp
    have hb1:∀ x∈S1,w0.heap.size≤x:=fun x hx=>(HS1.out x hx).elim (HS.out x) (fun h=>Nat.le_trans (Below.size HK0.out) h)
    have HI:=Lib.hid (fun w' (k2:Kp wr w')=>HIT.out a (List.mem_of_getElem? ha) b (off+k * 2) (bs++(enc m++encL encI (l.take k))) S1 w' (kp_trans (KX.after HK0.out HK1.out HS.out) k2) (by have h:=HJ.out k a ha;simpa using h) (HW1.out.kp k2) hb1 (by have:=HL.out;simp only [List.length_append] at this ⊢;omega))
    clear h1 k1 s1 hb1 hel
    go_wp2_with (first | (go_at_call 515;refine (cw_fine gw _).mono ?_;rintro e w2 ⟨rfl,hk2⟩) | (go_at_call 206;refine (HI.out _ hk2).mono ?_;rintro e w3 ⟨rfl,h3⟩))
    refine ⟨⟨k+1,by omega,by go_num,?_⟩,by simp [intOf];omega⟩
    rw [encL_snoc encI ha,← List.append_assoc (enc m),← List.append_assoc bs]
    exact WX.trans HK1.out HS1.out (WX.pre hk2 h3)
   ·obtain rfl:k=m:=by omega
    have z1:¬ (k:Int)<(k:Int):=by omega
    have e1:l.take k=l:=List.take_of_length_le (by rw [HLEN.out];exact Nat.le_refl _)
    rw [e1] at hwx
    have HX:=Lib.hid hwx
    clear hwx e1
    go_wp2_with fail
    go_end0
    exact ⟨rfl,HX.out⟩
end Go.Proofs.YtgliljnbajohhaaGreatDoor
