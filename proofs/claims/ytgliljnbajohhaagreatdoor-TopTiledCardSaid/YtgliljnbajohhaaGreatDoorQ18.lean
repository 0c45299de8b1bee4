import Derived.Test.YtgliljnbajohhaaGreatDoorQ17
import Derived.Test.YtgliljnbajohhaaGreatDoorQ13
set_option linter.unusedVariables false
set_option linter.unusedSimpArgs false
namespace Go.Proofs.YtgliljnbajohhaaGreatDoor
open Go.RowKit Go.Proofs.Top Go.Proofs.Geo
set_option maxHeartbeats 8000000 in
set_option maxRecDepth 100000 in
theorem cw_place (gw:Nat) (w0:World) (d:NPt) (hd:d.1<1048576∧d.2<1048576):ItemW 207 gw J_pt (fun d:NPt=>encs [d.1,d.2]) w0 d:=by
 intro b o bs S w k0 hj hw hS hl
 obtain ⟨x,y⟩:=d
 obtain ⟨c0,c1⟩:=hj
 dsimp only at c0 c1 hd hl
 have lb0:b<w0.heap.size:=cell_lt c0
 have hbS:b∉S:=fun h=>by have:=hS b h;omega
 have hge:=hw.ge
 have q0:=kp_cell k0 c0
 have lq:b<w.heap.size:=cell_lt q0
 have HC:=Lib.hid (fun lb w' (k:Kp w w') (e0:w'.cell? ⟨lb,0,none⟩=some (.pointer (some ⟨b,o,none⟩))) (e1:w'.cell? ⟨lb,1,none⟩=some (.pointer (some ⟨b,o+1,none⟩))) (n1:w.heap.size≤lb) =>
  cw_numbers gw b o lb 2 2 bs S [x,y] rfl (by decide) (fun k hk=>by match k,hk with | 0,_=>exact hd.1 | 1,_=>exact hd.2) (by omega) w' (hw.kp k)
   (fun i hi=>by match i,hi with | 0,_=>exact kp_cell (kp_trans k0 k) c0 | 1,_=>exact kp_cell (kp_trans k0 k) c1) hbS (fun i hi=>by match i,hi with | 0,_=>exact e0 | 1,_=>exact e1) (fun h=>by have:=hge _ h;omega))
 clear hw hS hge k0 c0 c1
 go_enter Tryz.func207,Tryz.ntmps207
 go_upto_region 0 with fail
 go_region_with (go_at_call 202;refine (HC.out w.heap.size _ (by (repeat (first | exact kp_refl _ | apply kp_alloc | apply kp_drew | apply kp_drewN))) (by simp [go_sem]) (by simp [go_sem]) (Nat.le_refl _)).mono ?_;rintro e w4 ⟨rfl,h1⟩)
 go_end0
 exact ⟨rfl,WX.pre (by (repeat (first | exact kp_refl _ | apply kp_alloc | apply kp_drew | apply kp_drewN))) h1⟩
set_option maxHeartbeats 8000000 in
set_option maxRecDepth 100000 in
theorem cw_day (gw:Nat) (w0:World) (d:NPt) (hd:d.1<1048576∧d.2<1048576):ItemW 206 gw J_pt (fun d:NPt=>encs [d.1,d.2]) w0 d:=by
 intro b o bs S w k0 hj hw hS hl
 obtain ⟨x,y⟩:=d
 obtain ⟨c0,c1⟩:=hj
 dsimp only at c0 c1 hd hl
 have lb0:b<w0.heap.size:=cell_lt c0
 have hbS:b∉S:=fun h=>by have:=hS b h;omega
 have hge:=hw.ge
 have q0:=kp_cell k0 c0
 have lq:b<w.heap.size:=cell_lt q0
 have HC:=Lib.hid (fun lb w' (k:Kp w w') (e0:w'.cell? ⟨lb,0,none⟩=some (.pointer (some ⟨b,o,none⟩))) (e1:w'.cell? ⟨lb,1,none⟩=some (.pointer (some ⟨b,o+1,none⟩))) (n1:w.heap.size≤lb) =>
  cw_numbers gw b o lb 2 2 bs S [x,y] rfl (by decide) (fun k hk=>by match k,hk with | 0,_=>exact hd.1 | 1,_=>exact hd.2) (by omega) w' (hw.kp k)
   (fun i hi=>by match i,hi with | 0,_=>exact kp_cell (kp_trans k0 k) c0 | 1,_=>exact kp_cell (kp_trans k0 k) c1) hbS (fun i hi=>by match i,hi with | 0,_=>exact e0 | 1,_=>exact e1) (fun h=>by have:=hge _ h;omega))
 clear hw hS hge k0 c0 c1
 go_enter Tryz.func206,Tryz.ntmps206
 go_upto_region 0 with fail
 go_region_with (go_at_call 202;refine (HC.out w.heap.size _ (by (repeat (first | exact kp_refl _ | apply kp_alloc | apply kp_drew | apply kp_drewN))) (by simp [go_sem]) (by simp [go_sem]) (Nat.le_refl _)).mono ?_;rintro e w4 ⟨rfl,h1⟩)
 go_end0
 exact ⟨rfl,WX.pre (by (repeat (first | exact kp_refl _ | apply kp_alloc | apply kp_drew | apply kp_drewN))) h1⟩
theorem encPs_eq (r:NRing):encPs r=encL (fun d:NPt=>encs [d.1,d.2]) r:=rfl
set_option maxHeartbeats 8000000 in
set_option maxRecDepth 100000 in
theorem cw_ring (gw:Nat) (w0:World) (r:NRing) (hr:RingOk r):ItemW 204 gw J_ring encRing w0 r:=by
 intro b o bs S w k0 hj hw hS hl
 obtain ⟨u,hc,bb,off,cap,rfl,hcap,hJ⟩:=hj
 have HC:=Lib.hid (cw_listPt J_pt (fun d:NPt=>encs [d.1,d.2]) gw b o bb off cap r.length r bs S w0 w rfl hr.le hcap (fun a ha=>cw_place gw w0 a (by obtain ⟨i,hi,he⟩:=List.mem_iff_getElem.1 ha;have:=hr.sm i hi;rwa [List.getD_eq_getElem?_getD,List.getElem?_eq_getElem hi,he] at this)) k0 hc hJ hw hS (by unfold encRing at hl;rw [encPs_eq] at hl;exact hl))
 have lc:=cell_lt (kp_cell k0 hc)
 have lgw:=hw.lt
 clear hw hS k0 hc hJ hl
 go_enter Tryz.func204,Tryz.ntmps204
 go_wp2_with (go_at_call 279;refine HC.out.mono ?_;rintro e w4 ⟨rfl,h1⟩)
 go_end0
 exact ⟨rfl,h1⟩
set_option maxHeartbeats 8000000 in
set_option maxRecDepth 100000 in
theorem cw_jur (gw:Nat) (w0:World) (j:JU) (hj:j.Ok):ItemW 119 gw J_jur JU.encJ w0 j:=by
 intro b o bs S w k0 hJ hw hS hl
 obtain ⟨c0,c1,c2,c3,u,c4,bb,off,cap,rfl,hcap,hR⟩:=hJ
 have lb0:b<w0.heap.size:=cell_lt c0
 have hbS:b∉S:=fun h=>by have:=hS b h;omega
 have hge:=hw.ge
 have lq:b<w.heap.size:=cell_lt (kp_cell k0 c0)
 unfold JU.encJ at hl ⊢
 have HC1:=Lib.hid (fun lb w' (k:Kp w w') (e0:w'.cell? ⟨lb,0,none⟩=some (.pointer (some ⟨b,o,none⟩))) (e1:w'.cell? ⟨lb,1,none⟩=some (.pointer (some ⟨b,o+1,none⟩))) (e2:w'.cell? ⟨lb,2,none⟩=some (.pointer (some ⟨b,o+2,none⟩))) (e3:w'.cell? ⟨lb,3,none⟩=some (.pointer (some ⟨b,o+3,none⟩))) (n1:w.heap.size≤lb) =>
  cw_numbers gw b o lb 4 4 bs S [j.id,j.kind,j.par,j.fil] rfl (by decide) (fun k hk=>by match k,hk with | 0,_=>exact hj.id | 1,_=>exact hj.kind | 2,_=>exact hj.par | 3,_=>exact hj.fil) (by simp only [List.length_append] at hl;omega) w' (hw.kp k)
   (fun i hi=>by match i,hi with | 0,_=>exact kp_cell (kp_trans k0 k) c0 | 1,_=>exact kp_cell (kp_trans k0 k) c1 | 2,_=>exact kp_cell (kp_trans k0 k) c2 | 3,_=>exact kp_cell (kp_trans k0 k) c3) hbS (fun i hi=>by match i,hi with | 0,_=>exact e0 | 1,_=>exact e1 | 2,_=>exact e2 | 3,_=>exact e3) (fun h=>by have:=hge _ h;omega))
 have HC2:=Lib.hid (fun w' S1 (kx:Kp w0 w') (h1:WrB gw (bs++encs [j.id,j.kind,j.par,j.fil]) S1 w') (hS1:∀ x∈S1,w0.heap.size≤x) =>
  cw_listRings J_ring encRing gw b (o+4) bb off cap j.rings.length j.rings (bs++encs [j.id,j.kind,j.par,j.fil]) S1 w0 w' rfl hj.le hcap (fun a ha=>cw_ring gw w0 a (hj.rings a ha)) kx c4 hR h1 hS1 (by simp only [List.length_append] at hl ⊢;omega))
 have HK0:=Lib.hid k0;have HS:=Lib.hid hS
 clear hw hS hge k0 c0 c1 c2 c3 c4 hR hl
 go_enter Tryz.func119,Tryz.ntmps119
 go_upto_region 0 with fail
 go_region_with (go_at_call 202;refine (HC1.out w.heap.size _ (by (repeat (first | exact kp_refl _ | apply kp_alloc | apply kp_drew | apply kp_drewN))) (by simp [go_sem]) (by simp [go_sem]) (by simp [go_sem]) (by simp [go_sem]) (Nat.le_refl _)).mono ?_;rintro e w4 ⟨rfl,h1⟩)
 have h2:=WX.pre (w:=w) (by (repeat (first | exact kp_refl _ | apply kp_alloc | apply kp_drew | apply kp_drewN))) h1
 clear h1
 obtain ⟨S1,hw1,hk1,hs1⟩:=h2
 have hsz:=hk1.size
 have HD:=Lib.hid (HC2.out w4 S1 (KX.after HK0.out hk1 HS.out) hw1 (fun x hx=>(hs1 x hx).elim (HS.out x) (fun h=>Nat.le_trans (Below.size HK0.out) h)))
 have HK1:=Lib.hid hk1;have HS1:=Lib.hid hs1
 clear hw1 hk1 hs1
 go_wp2_with (go_at_call 203;refine HD.out.mono ?_;rintro e w5 ⟨rfl,h5⟩)
 go_end0
 refine ⟨rfl,?_⟩
 rw [← List.append_assoc]
 exact WX.trans HK1.out HS1.out h5
set_option maxHeartbeats 8000000 in
set_option maxRecDepth 100000 in
theorem cw_rat (gw:Nat) (w0:World) (r:RT) (hj:r.Ok):ItemW 121 gw J_rat RT.encT w0 r:=by
 intro b o bs S w k0 hJ hw hS hl
 obtain ⟨c0,u,c4,bb,off,cap,rfl,hcap,hR⟩:=hJ
 have lb0:b<w0.heap.size:=cell_lt c0
 have hbS:b∉S:=fun h=>by have:=hS b h;omega
 have hge:=hw.ge
 have lq:b<w.heap.size:=cell_lt (kp_cell k0 c0)
 unfold RT.encT at hl ⊢
 have HC1:=Lib.hid (fun lb w' (k:Kp w w') (e0:w'.cell? ⟨lb,0,none⟩=some (.pointer (some ⟨b,o,none⟩))) (n1:w.heap.size≤lb) =>
  cw_numbers gw b o lb 1 1 bs S [r.id] rfl (by decide) (fun k hk=>by match k,hk with | 0,_=>exact hj.id) (by simp only [List.length_append] at hl;omega) w' (hw.kp k)
   (fun i hi=>by match i,hi with | 0,_=>exact kp_cell (kp_trans k0 k) c0) hbS (fun i hi=>by match i,hi with | 0,_=>exact e0) (fun h=>by have:=hge _ h;omega))
 have HC2:=Lib.hid (fun w' S1 (kx:Kp w0 w') (h1:WrB gw (bs++encs [r.id]) S1 w') (hS1:∀ x∈S1,w0.heap.size≤x) =>
  cw_listDated J_pt (fun d:NPt=>encs [d.1,d.2]) gw b (o+1) bb off cap r.ds.length r.ds (bs++encs [r.id]) S1 w0 w' rfl hj.le hcap (fun a ha=>cw_day gw w0 a (hj.ds a ha)) kx c4 hR h1 hS1 (by simp only [List.length_append] at hl ⊢;omega))
 have HK0:=Lib.hid k0;have HS:=Lib.hid hS
 clear hw hS hge k0 c0 c4 hR hl
 go_enter Tryz.func121,Tryz.ntmps121
 go_upto_region 1 with (go_at_call 202;refine (HC1.out w.heap.size _ (by (repeat (first | exact kp_refl _ | apply kp_alloc | apply kp_drew | apply kp_drewN))) (by simp [go_sem]) (Nat.le_refl _)).mono ?_;rintro e w4 ⟨rfl,h1⟩)
 have h2:=WX.pre (w:=w) (by (repeat (first | exact kp_refl _ | apply kp_alloc | apply kp_drew | apply kp_drewN))) h1
 clear h1
 obtain ⟨S1,hw1,hk1,hs1⟩:=h2
 have hsz:=hk1.size
 have HD:=Lib.hid (HC2.out w4 S1 (KX.after HK0.out hk1 HS.out) hw1 (fun x hx=>(hs1 x hx).elim (HS.out x) (fun h=>Nat.le_trans (Below.size HK0.out) h)))
 have HK1:=Lib.hid hk1;have HS1:=Lib.hid hs1
 clear hw1 hk1 hs1
 go_wp2_with (go_at_call 205;refine HD.out.mono ?_;rintro e w5 ⟨rfl,h5⟩)
 go_end0
 refine ⟨rfl,?_⟩
 rw [← List.append_assoc]
 exact WX.trans HK1.out HS1.out h5
set_option maxHeartbeats 8000000 in
set_option maxRecDepth 100000 in
theorem cw_listJuris {α:Type} (J:World→Nat→Nat→α→Prop) (encI:α→List Int) (gw lb lo b off cap m:Nat) (l:List α) (bs:List Int) (S:List Nat) (w0 w:World) (hlen:l.length=m) (hm:m≤1000) (hcap:m≤cap) (hit:∀ a∈l,ItemW 119 gw J encI w0 a)
  (k0:Kp w0 w) (hp:w0.cell? ⟨lb,lo,none⟩=some (.slice (some ⟨b,off,none⟩) m cap)) (hJ:∀ k a,l[k]? = some a→J w0 b (off+k * 5) a) (hw:WrB gw bs S w) (hS:∀ x∈S,w0.heap.size≤x) (hl:bs.length+(enc m++encL encI l).length≤80000) :
  Calls Tryz.prog 118 #[.iface 141 (.pointer (some ⟨gw,0,none⟩)),.pointer (some ⟨lb,lo,none⟩),.func (.func 119) #[] #[]] w fun e w'=>e=.returned (.tuple #[])∧WX gw (bs++(enc m++encL encI l)) S w w':=by
 have lgw:=hw.lt
 have c0:=kp_cell k0 hp
 have llb:=cell_lt c0
 have HC:=Lib.hid (fun w' (k:Kp w w')=>cw_count gw m bs S (by omega) (by simp only [List.length_append] at hl;omega) w' (hw.kp k))
 have HLEN:=Lib.hid hlen;have HIT:=Lib.hid hit;have HK0:=Lib.hid k0;have HP:=Lib.hid hp;have HJ:=Lib.hid hJ;have HS:=Lib.hid hS;have HL:=Lib.hid hl;have HC0:=Lib.hid hcap
 have hm1:=mth_wcount (some ⟨gw,0,none⟩)
 have hm3:=mth_wfine (some ⟨gw,0,none⟩)
 have hm2':=nil_wcount ⟨gw,0,none⟩
 clear hlen hit k0 hp hJ hw hS hl hcap
 go_enter Tryz.func118,Tryz.ntmps118
 go_upto_region 0 with fail
 go_cut [6] (fun n wx=>n=.int .i64 m∧WX gw (bs++enc m) S w wx)
 case first =>
  go_region_with (go_at_call 514;refine (HC.out _ (by (repeat (first | exact kp_refl _ | apply kp_alloc | apply kp_drew | apply kp_drewN)))).mono ?_;rintro e w4 ⟨rfl,h1⟩)
  all_goals
   go_wp2_with fail
   go_meet
   exact ⟨rfl,WX.pre (by (repeat (first | exact kp_refl _ | apply kp_alloc | apply kp_drew | apply kp_drewN))) h1⟩
 case rest =>
  obtain ⟨rfl,hwx⟩:=hcut
  have kc:=hwx.keeps HS.out HK0.out
  have c1:=kp_cell kc HP.out
  have llb1:=cell_lt c1
  have HWX:=Lib.hid hwx
  have z0:¬ (m:Int)<(m:Int):=by omega
  clear hwx kc HC c0
  go_wp2_with fail
  go_loopw [8] (fun i wr=>∃ k:Nat,k≤m∧i=.int .i64 k∧WX gw (bs++(enc m++encL encI (l.take k))) S w wr) (fun i _=>m - (intOf i).toNat)
  case atStart=>exact ⟨0,by omega,rfl,by simpa [encL] using HWX.out⟩
  case round =>
   obtain ⟨k,hk,rfl,hwx⟩:=hrel
   clear HWX c1 llb1
   by_cases hlt:k<m
   ·have z1:(k:Int)<(m:Int):=by omega
    have z2:(0:Int)≤(k:Int):=by omega
    have z3:decide ((k:Int)<(m:Int))=true:=decide_eq_true z1
    have wi:IntKind.i64.wrap ((k:Int)+1)=(k:Int)+1:=IntWalk.i64_in _ (by omega)
    obtain ⟨S1,h1,k1,s1⟩:=hwx
    obtain ⟨a,ha⟩:∃ a,l[k]? = some a:=⟨_,List.getElem?_eq_getElem (by rw [HLEN.out];exact hlt)⟩
    have HW1:=Lib.hid h1;have HK1:=Lib.hid k1;have HS1:=Lib.hid s1
    have hel:(encL encI l).length=(encL encI (l.take k)).length+((encI a).length+(encL encI (l.drop (k+1))).length):=by rw [encL_split encI ha];simp
    have hb1:∀ x∈S1,w0.heap.size≤x:=fun x hx=>(HS1.out x hx).elim (HS.out x) (fun h=>Nat.le_trans (Below.size HK0.out) h)
    have HI:=Lib.hid (fun w' (k2:Kp wr w')=>HIT.out a (List.mem_of_getElem? ha) b (off+k * 5) (bs++(enc m++encL encI (l.take k))) S1 w' (kp_trans (KX.after HK0.out HK1.out HS.out) k2) (by have h:=HJ.out k a ha;simpa using h) (HW1.out.kp k2) hb1 (by have:=HL.out;simp only [List.length_append] at this ⊢;omega))
    clear h1 k1 s1 hb1 hel
    go_wp2_with (first | (go_at_call 515;refine (cw_fine gw _).mono ?_;rintro e w2 ⟨rfl,hk2⟩) | (go_at_call 119;refine (HI.out _ hk2).mono ?_;rintro e w3 ⟨rfl,h3⟩))
    refine ⟨⟨k+1,by omega,by go_num,?_⟩,by simp [intOf];omega⟩
    rw [encL_snoc encI ha,← List.append_assoc (enc m),← List.append_assoc bs]
    exact WX.trans HK1.out HS1.out (WX.pre hk2 h3)
   ·obtain rfl:k=m:=by omega
    have z1:¬ (k:Int)<(k:Int):=by omega
    have e1:l.take k=l:=List.take_of_length_le (by rw [HLEN.out];exact Nat.le_refl _)
    rw [e1] at hwx
    have HX:=Lib.hid hwx
    clear hwx e1
    go_wp2_with fail
    go_end0
    exact ⟨rfl,HX.out⟩
set_option maxHeartbeats 8000000 in
set_option maxRecDepth 100000 in
theorem cw_listRated {α:Type} (J:World→Nat→Nat→α→Prop) (encI:α→List Int) (gw lb lo b off cap m:Nat) (l:List α) (bs:List Int) (S:List Nat) (w0 w:World) (hlen:l.length=m) (hm:m≤1000) (hcap:m≤cap) (hit:∀ a∈l,ItemW 121 gw J encI w0 a)
  (k0:Kp w0 w) (hp:w0.cell? ⟨lb,lo,none⟩=some (.slice (some ⟨b,off,none⟩) m cap)) (hJ:∀ k a,l[k]? = some a→J w0 b (off+k * 2) a) (hw:WrB gw bs S w) (hS:∀ x∈S,w0.heap.size≤x) (hl:bs.length+(enc m++encL encI l).length≤80000) :
  Calls Tryz.prog 120 #[.iface 141 (.pointer (some ⟨gw,0,none⟩)),.pointer (some ⟨lb,lo,none⟩),.func (.func 121) #[] #[]] w fun e w'=>e=.returned (.tuple #[])∧WX gw (bs++(enc m++encL encI l)) S w w':=by
 have lgw:=hw.lt
 have c0:=kp_cell k0 hp
 have llb:=cell_lt c0
 have HC:=Lib.hid (fun w' (k:Kp w w')=>cw_count gw m bs S (by omega) (by simp only [List.length_append] at hl;omega) w' (hw.kp k))
 have HLEN:=Lib.hid hlen;have HIT:=Lib.hid hit;have HK0:=Lib.hid k0;have HP:=Lib.hid hp;have HJ:=Lib.hid hJ;have HS:=Lib.hid hS;have HL:=Lib.hid hl;have HC0:=Lib.hid hcap
 have hm1:=mth_wcount (some ⟨gw,0,none⟩)
 have hm3:=mth_wfine (some ⟨gw,0,none⟩)
 have hm2':=nil_wcount ⟨gw,0,none⟩
 clear hlen hit k0 hp hJ hw hS hl hcap
 go_enter Tryz.func120,Tryz.ntmps120
 go_upto_region 0 with fail
 go_cut [6] (fun n wx=>n=.int .i64 m∧WX gw (bs++enc m) S w wx)
 case first =>
  go_region_with (go_at_call 514;refine (HC.out _ (by (repeat (first | exact kp_refl _ | apply kp_alloc | apply kp_drew | apply kp_drewN)))).mono ?_;rintro e w4 ⟨rfl,h1⟩)
  all_goals
   go_wp2_with fail
   go_meet
   exact ⟨rfl,WX.pre (by (repeat (first | exact kp_refl _ | apply kp_alloc | apply kp_drew | apply kp_drewN))) h1⟩
 case rest =>
  obtain ⟨rfl,hwx⟩:=hcut
  have kc:=hwx.keeps HS.out HK0.out
  have c1:=kp_cell kc HP.out
  have llb1:=cell_lt c1
  have HWX:=Lib.hid hwx
  have z0:¬ (m:Int)<(m:Int):=by omega
  clear hwx kc HC c0
  go_wp2_with fail
  go_loopw [8] (fun i wr=>∃ k:Nat,k≤m∧i=.int .i64 k∧WX gw (bs++(enc m++encL encI (l.take k))) S w wr) (fun i _=>m - (intOf i).toNat)
  case atStart=>exact ⟨0,by omega,rfl,by simpa [encL] using HWX.out⟩
  case round =>
   obtain ⟨k,hk,rfl,hwx⟩:=hrel
   clear HWX c1 llb1
   by_cases hlt:k<m
   ·have z1:(k:Int)<(m:Int):=by omega
    have z2:(0:Int)≤(k:Int):=by omega
    have z3:decide ((k:Int)<(m:Int))=true:=decide_eq_true z1
    have wi:IntKind.i64.wrap ((k:Int)+1)=(k:Int)+1:=IntWalk.i64_in _ (by omega)
    obtain ⟨S1,h1,k1,s1⟩:=hwx
    obtain ⟨a,ha⟩:∃ a,l[k]? = some a:=⟨_,List.getElem?_eq_getElem (by rw [HLEN.out];exact hlt)⟩
    have HW1:=Lib.hid h1;have HK1:=Lib.hid k1;have HS1:=Lib.hid s1
    have hel:(encL encI l).length=(encL encI (l.take k)).length+((encI a).length+(encL encI (l.drop (k+1))).length):=by rw [encL_split encI ha];simp
    have hb1:∀ x∈S1,w0.heap.size≤x:=fun x hx=>(HS1.out x hx).elim (HS.out x) (fun h=>Nat.le_trans (Below.size HK0.out) h)
    have HI:=Lib.hid (fun w' (k2:Kp wr w')=>HIT.out a (List.mem_of_getElem? ha) b (off+k * 2) (bs++(enc m++encL encI (l.take k))) S1 w' (kp_trans (KX.after HK0.out HK1.out HS.out) k2) (by have h:=HJ.out k a ha;simpa using h) (HW1.out.kp k2) hb1 (by have:=HL.out;simp only [List.length_append] at this ⊢;omega))
    clear h1 k1 s1 hb1 hel
    go_wp2_with (first | (go_at_call 515;refine (cw_fine gw _).mono ?_;rintro e w2 ⟨rfl,hk2⟩) | (go_at_call 121;refine (HI.out _ hk2).mono ?_;rintro e w3 ⟨rfl,h3⟩))
    refine ⟨⟨k+1,by omega,by go_num,?_⟩,by simp [intOf];omega⟩
    rw [encL_snoc encI ha,← List.append_assoc (enc m),← List.append_assoc bs]
    exact WX.trans HK1.out HS1.out (WX.pre hk2 h3)
   ·obtain rfl:k=m:=by omega
    have z1:¬ (k:Int)<(k:Int):=by omega
    have e1:l.take k=l:=List.take_of_length_le (by rw [HLEN.out];exact Nat.le_refl _)
    rw [e1] at hwx
    have HX:=Lib.hid hwx
    clear hwx e1
    go_wp2_with fail
    go_end0
    exact ⟨rfl,HX.out⟩
set_option maxHeartbeats 8000000 in
set_option maxRecDepth 100000 in
theorem cw_noneRule (gw lb lo:Nat) (bs:List Int) (S:List Nat) (w0 w:World) (k0:Kp w0 w) (hp:w0.cell? ⟨lb,lo,none⟩=some (.slice none 0 0)) (hw:WrB gw bs S w) (hS:∀ x∈S,w0.heap.size≤x) (hl:bs.length≤80000) :
  Calls Tryz.prog 122 #[.iface 141 (.pointer (some ⟨gw,0,none⟩)),.pointer (some ⟨lb,lo,none⟩),.func (.func 123) #[] #[]] w fun e w'=>e=.returned (.tuple #[])∧WX gw (bs++enc 0) S w w':=by
 have lgw:=hw.lt
 have c0:=kp_cell k0 hp
 have llb:=cell_lt c0
 have HC:=Lib.hid (fun w' (k:Kp w w')=>cw_count gw 0 bs S (by omega) (by omega) w' (hw.kp k))
 have HK0:=Lib.hid k0;have HP:=Lib.hid hp;have HS:=Lib.hid hS
 have hm1:=mth_wcount (some ⟨gw,0,none⟩)
 have hm3:=mth_wfine (some ⟨gw,0,none⟩)
 have hm2':=nil_wcount ⟨gw,0,none⟩
 clear k0 hp hw hS
 go_enter Tryz.func122,Tryz.ntmps122
 go_upto_region 0 with fail
 go_cut [6] (fun n wx=>n=.int .i64 0∧WX gw (bs++enc 0) S w wx)
 case first =>
  go_region_with (go_at_call 514;refine (HC.out _ (by (repeat (first | exact kp_refl _ | apply kp_alloc | apply kp_drew | apply kp_drewN)))).mono ?_;rintro e w4 ⟨rfl,h1⟩)
  all_goals
   go_wp2_with fail
   go_meet
   exact ⟨rfl,WX.pre (by (repeat (first | exact kp_refl _ | apply kp_alloc | apply kp_drew | apply kp_drewN))) h1⟩
 case rest =>
  obtain ⟨rfl,hwx⟩:=hcut
  have kc:=hwx.keeps HS.out HK0.out
  have c1:=kp_cell kc HP.out
  have llb1:=cell_lt c1
  have HWX:=Lib.hid hwx
  clear hwx kc HC c0
  go_wp2_with fail
  go_loopw [8] (fun i wr=>i=.int .i64 0∧WX gw (bs++enc 0) S w wr) (fun i _=>0)
  case atStart=>exact ⟨rfl,HWX.out⟩
  case round =>
   obtain ⟨rfl,hwx⟩:=hrel
   have HX:=Lib.hid hwx
   clear hwx HWX c1 llb1
   go_wp2_with fail
   go_end0
   exact ⟨rfl,HX.out⟩
set_option maxHeartbeats 8000000 in
set_option maxRecDepth 100000 in
theorem cw_noneCert (gw lb lo:Nat) (bs:List Int) (S:List Nat) (w0 w:World) (k0:Kp w0 w) (hp:w0.cell? ⟨lb,lo,none⟩=some (.slice none 0 0)) (hw:WrB gw bs S w) (hS:∀ x∈S,w0.heap.size≤x) (hl:bs.length≤80000) :
  Calls Tryz.prog 124 #[.iface 141 (.pointer (some ⟨gw,0,none⟩)),.pointer (some ⟨lb,lo,none⟩),.func (.func 125) #[] #[]] w fun e w'=>e=.returned (.tuple #[])∧WX gw (bs++enc 0) S w w':=by
 have lgw:=hw.lt
 have c0:=kp_cell k0 hp
 have llb:=cell_lt c0
 have HC:=Lib.hid (fun w' (k:Kp w w')=>cw_count gw 0 bs S (by omega) (by omega) w' (hw.kp k))
 have HK0:=Lib.hid k0;have HP:=Lib.hid hp;have HS:=Lib.hid hS
 have hm1:=mth_wcount (some ⟨gw,0,none⟩)
 have hm3:=mth_wfine (some ⟨gw,0,none⟩)
 have hm2':=nil_wcount ⟨gw,0,none⟩
 clear k0 hp hw hS
 go_enter Tryz.func124,Tryz.ntmps124
 go_upto_region 0 with fail
 go_cut [6] (fun n wx=>n=.int .i64 0∧WX gw (bs++enc 0) S w wx)
 case first =>
  go_region_with (go_at_call 514;refine (HC.out _ (by (repeat (first | exact kp_refl _ | apply kp_alloc | apply kp_drew | apply kp_drewN)))).mono ?_;rintro e w4 ⟨rfl,h1⟩)
  all_goals
   go_wp2_with fail
   go_meet
   exact ⟨rfl,WX.pre (by (repeat (first | exact kp_refl _ | apply kp_alloc | apply kp_drew | apply kp_drewN))) h1⟩
 case rest =>
  obtain ⟨rfl,hwx⟩:=hcut
  have kc:=hwx.keeps HS.out HK0.out
  have c1:=kp_cell kc HP.out
  have llb1:=cell_lt c1
  have HWX:=Lib.hid hwx
  clear hwx kc HC c0
  go_wp2_with fail
  go_loopw [8] (fun i wr=>i=.int .i64 0∧WX gw (bs++enc 0) S w wr) (fun i _=>0)
  case atStart=>exact ⟨rfl,HWX.out⟩
  case round =>
   obtain ⟨rfl,hwx⟩:=hrel
   have HX:=Lib.hid hwx
   clear hwx HWX c1 llb1
   go_wp2_with fail
   go_end0
   exact ⟨rfl,HX.out⟩
set_option maxHeartbeats 8000000 in
set_option maxRecDepth 100000 in
theorem cw_noneHoliday (gw lb lo:Nat) (bs:List Int) (S:List Nat) (w0 w:World) (k0:Kp w0 w) (hp:w0.cell? ⟨lb,lo,none⟩=some (.slice none 0 0)) (hw:WrB gw bs S w) (hS:∀ x∈S,w0.heap.size≤x) (hl:bs.length≤80000) :
  Calls Tryz.prog 126 #[.iface 141 (.pointer (some ⟨gw,0,none⟩)),.pointer (some ⟨lb,lo,none⟩),.func (.func 127) #[] #[]] w fun e w'=>e=.returned (.tuple #[])∧WX gw (bs++enc 0) S w w':=by
 have lgw:=hw.lt
 have c0:=kp_cell k0 hp
 have llb:=cell_lt c0
 have HC:=Lib.hid (fun w' (k:Kp w w')=>cw_count gw 0 bs S (by omega) (by omega) w' (hw.kp k))
 have HK0:=Lib.hid k0;have HP:=Lib.hid hp;have HS:=Lib.hid hS
 have hm1:=mth_wcount (some ⟨gw,0,none⟩)
 have hm3:=mth_wfine (some ⟨gw,0,none⟩)
 have hm2':=nil_wcount ⟨gw,0,none⟩
 clear k0 hp hw hS
 go_enter Tryz.func126,Tryz.ntmps126
 go_upto_region 0 with fail
 go_cut [6] (fun n wx=>n=.int .i64 0∧WX gw (bs++enc 0) S w wx)
 case first =>
  go_region_with (go_at_call 514;refine (HC.out _ (by (repeat (first | exact kp_refl _ | apply kp_alloc | apply kp_drew | apply kp_drewN)))).mono ?_;rintro e w4 ⟨rfl,h1⟩)
  all_goals
   go_wp2_with fail
   go_meet
   exact ⟨rfl,WX.pre (by (repeat (first | exact kp_refl _ | apply kp_alloc | apply kp_drew | apply kp_drewN))) h1⟩
 case rest =>
  obtain ⟨rfl,hwx⟩:=hcut
  have kc:=hwx.keeps HS.out HK0.out
  have c1:=kp_cell kc HP.out
  have llb1:=cell_lt c1
  have HWX:=Lib.hid hwx
  clear hwx kc HC c0
  go_wp2_with fail
  go_loopw [8] (fun i wr=>i=.int .i64 0∧WX gw (bs++enc 0) S w wr) (fun i _=>0)
  case atStart=>exact ⟨rfl,HWX.out⟩
  case round =>
   obtain ⟨rfl,hwx⟩:=hrel
   have HX:=Lib.hid hwx
   clear hwx HWX c1 llb1
   go_wp2_with fail
   go_end0
   exact ⟨rfl,HX.out⟩
set_option maxHeartbeats 8000000 in
set_option maxRecDepth 100000 in
theorem cw_noneStreet (gw lb lo:Nat) (bs:List Int) (S:List Nat) (w0 w:World) (k0:Kp w0 w) (hp:w0.cell? ⟨lb,lo,none⟩=some (.slice none 0 0)) (hw:WrB gw bs S w) (hS:∀ x∈S,w0.heap.size≤x) (hl:bs.length≤80000) :
  Calls Tryz.prog 128 #[.iface 141 (.pointer (some ⟨gw,0,none⟩)),.pointer (some ⟨lb,lo,none⟩),.func (.func 129) #[] #[]] w fun e w'=>e=.returned (.tuple #[])∧WX gw (bs++enc 0) S w w':=by
 have lgw:=hw.lt
 have c0:=kp_cell k0 hp
 have llb:=cell_lt c0
 have HC:=Lib.hid (fun w' (k:Kp w w')=>cw_count gw 0 bs S (by omega) (by omega) w' (hw.kp k))
 have HK0:=Lib.hid k0;have HP:=Lib.hid hp;have HS:=Lib.hid hS
 have hm1:=mth_wcount (some ⟨gw,0,none⟩)
 have hm3:=mth_wfine (some ⟨gw,0,none⟩)
 have hm2':=nil_wcount ⟨gw,0,none⟩
 clear k0 hp hw hS
 go_enter Tryz.func128,Tryz.ntmps128
 go_upto_region 0 with fail
 go_cut [6] (fun n wx=>n=.int .i64 0∧WX gw (bs++enc 0) S w wx)
 case first =>
  go_region_with (go_at_call 514;refine (HC.out _ (by (repeat (first | exact kp_refl _ | apply kp_alloc | apply kp_drew | apply kp_drewN)))).mono ?_;rintro e w4 ⟨rfl,h1⟩)
  all_goals
   go_wp2_with fail
   go_meet
   exact ⟨rfl,WX.pre (by (repeat (first | exact kp_refl _ | apply kp_alloc | apply kp_drew | apply kp_drewN))) h1⟩
 case rest =>
  obtain ⟨rfl,hwx⟩:=hcut
  have kc:=hwx.keeps HS.out HK0.out
  have c1:=kp_cell kc HP.out
  have llb1:=cell_lt c1
  have HWX:=Lib.hid hwx
  clear hwx kc HC c0
  go_wp2_with fail
  go_loopw [8] (fun i wr=>i=.int .i64 0∧WX gw (bs++enc 0) S w wr) (fun i _=>0)
  case atStart=>exact ⟨rfl,HWX.out⟩
  case round =>
   obtain ⟨rfl,hwx⟩:=hrel
   have HX:=Lib.hid hwx
   clear hwx HWX c1 llb1
   go_wp2_with fail
   go_end0
   exact ⟨rfl,HX.out⟩
theorem WX.opens {gw:Nat} {bs:List Int} {S:List Nat} {w0 w w1:World} (h:WX gw bs S w w1) (hS:∀ x∈S,w0.heap.size≤x) (k0:Kp w0 w) :
  ∃ S1,WrB gw bs S1 w1∧Kp w0 w1∧(∀ x∈S1,w0.heap.size≤x)∧∀ bs2 w2,WX gw bs2 S1 w1 w2→WX gw bs2 S w w2:=by
 obtain ⟨S1,h1,k1,s1⟩:=h
 exact ⟨S1,h1,KX.after k0 k1 hS,fun x hx=>(s1 x hx).elim (hS x) (fun h=>Nat.le_trans (Below.size k0) h),fun bs2 w2 h=>WX.trans k1 s1 h⟩
set_option maxHeartbeats 8000000 in
set_option maxRecDepth 100000 in
theorem cw_all (gw cb:Nat) (js:List JU) (rs:List RT) (hok:CfgOk js rs) (uj ur:Value) (S:List Nat) (w0 w:World) (k0:Kp w0 w) (hp:w0.heap[cb]? = some (.cells #[uj,ur,.slice none 0 0,.slice none 0 0,.slice none 0 0,.slice none 0 0] 31 (0,0))) (hj:SlR J_jur 5 w0 uj js) (hr:SlR J_rat 2 w0 ur rs) (hw:WrB gw [] S w) (hS:∀ x∈S,w0.heap.size≤x) :
  Calls Tryz.prog 52 #[.iface 141 (.pointer (some ⟨gw,0,none⟩)),.pointer (some ⟨cb,0,none⟩)] w fun e w'=>e=.returned (.tuple #[])∧WX gw (encCfg js rs) S w w':=by
 have hle:=hok.le
 have z0:(enc 0).length=1:=by rw [enc0];rfl
 have hle2:(encA js).length+((encB rs).length+4)≤65536:=by unfold encCfg at hle;simp only [List.length_append,List.length_nil] at hle;omega
 obtain ⟨b1,o1,cap1,rfl,hcap1,hJ1⟩:=hj
 obtain ⟨b2,o2,cap2,rfl,hcap2,hJ2⟩:=hr
 have hc0:w0.cell? ⟨cb,0,none⟩=some (.slice (some ⟨b1,o1,none⟩) js.length cap1):=by rw [cell_of_row w0 cb _ _ _ _ hp];rfl
 have hc1:w0.cell? ⟨cb,1,none⟩=some (.slice (some ⟨b2,o2,none⟩) rs.length cap2):=by rw [cell_of_row w0 cb _ _ _ _ hp];rfl
 have HJ:=Lib.hid (cw_listJuris J_jur JU.encJ gw cb 0 b1 o1 cap1 js.length js [] S w0 w rfl hok.jle hcap1 (fun a ha=>cw_jur gw w0 a (hok.jok a ha)) k0 hc0 hJ1 hw hS (by show 0+(encA js).length≤80000;omega))
 have HRT:=Lib.hid (fun w' S1 (kx:Kp w0 w') (h1:WrB gw (encA js) S1 w') (hS1:∀ x∈S1,w0.heap.size≤x) =>
  cw_listRated J_rat RT.encT gw cb 1 b2 o2 cap2 rs.length rs (encA js) S1 w0 w' rfl hok.rle hcap2 (fun a ha=>cw_rat gw w0 a (hok.rok a ha)) kx hc1 hJ2 h1 hS1 (by show (encA js).length+(encB rs).length≤80000;omega))
 have HERule:=Lib.hid (fun w' S1 (kx:Kp w0 w') (h1:WrB gw (encA js++encB rs) S1 w') (hS1:∀ x∈S1,w0.heap.size≤x)=>cw_noneRule gw cb 2 (encA js++encB rs) S1 w0 w' kx (by rw [cell_of_row w0 cb _ _ _ _ hp];rfl) h1 hS1 (by simp only [List.length_append];omega))
 have HECert:=Lib.hid (fun w' S1 (kx:Kp w0 w') (h1:WrB gw (encA js++encB rs++enc 0) S1 w') (hS1:∀ x∈S1,w0.heap.size≤x)=>cw_noneCert gw cb 3 (encA js++encB rs++enc 0) S1 w0 w' kx (by rw [cell_of_row w0 cb _ _ _ _ hp];rfl) h1 hS1 (by simp only [List.length_append];omega))
 have HEHoliday:=Lib.hid (fun w' S1 (kx:Kp w0 w') (h1:WrB gw (encA js++encB rs++enc 0++enc 0) S1 w') (hS1:∀ x∈S1,w0.heap.size≤x)=>cw_noneHoliday gw cb 4 (encA js++encB rs++enc 0++enc 0) S1 w0 w' kx (by rw [cell_of_row w0 cb _ _ _ _ hp];rfl) h1 hS1 (by simp only [List.length_append];omega))
 have HEStreet:=Lib.hid (fun w' S1 (kx:Kp w0 w') (h1:WrB gw (encA js++encB rs++enc 0++enc 0++enc 0) S1 w') (hS1:∀ x∈S1,w0.heap.size≤x)=>cw_noneStreet gw cb 5 (encA js++encB rs++enc 0++enc 0++enc 0) S1 w0 w' kx (by rw [cell_of_row w0 cb _ _ _ _ hp];rfl) h1 hS1 (by simp only [List.length_append];omega))
 have lcb:=cell_lt (kp_cell k0 hc0)
 have lk0:=cell_lt hc0
 have HK0:=Lib.hid k0;have HS:=Lib.hid hS
 clear hw hS k0 hJ1 hJ2 hp hc1 hle hle2
 unfold encCfg
 go_enter Tryz.func52,Tryz.ntmps52
 go_wp2_with (first | (go_at_call 118;refine HJ.out.mono ?_;rintro e w1 ⟨rfl,h1⟩;obtain ⟨S1,hw1,kx1,hS1,up1⟩:=h1.opens HS.out HK0.out;have lk1:=cell_lt (kp_cell kx1 hc0);clear HJ) | (go_at_call 120;refine (HRT.out _ S1 kx1 (by exact hw1) hS1).mono ?_;rintro e w2 ⟨rfl,h2⟩;obtain ⟨S2,hw2,kx2,hS2,up2'⟩:=h2.opens hS1 kx1;have up2:=(fun bs2 w3 h=>up1 bs2 w3 (up2' bs2 w3 h));have lk2:=cell_lt (kp_cell kx2 hc0);clear up1 up2' hw1 kx1) | (go_at_call 122;refine (HERule.out _ S2 kx2 hw2 hS2).mono ?_;rintro e w3 ⟨rfl,h3⟩;obtain ⟨S3,hw3,kx3,hS3,up3'⟩:=h3.opens hS2 kx2;have up3:=(fun bs2 w2 h=>up2 bs2 w2 (up3' bs2 w2 h));have lk3:=cell_lt (kp_cell kx3 hc0);clear up2 up3' hw2 kx2) | (go_at_call 124;refine (HECert.out _ S3 kx3 hw3 hS3).mono ?_;rintro e w4 ⟨rfl,h4⟩;obtain ⟨S4,hw4,kx4,hS4,up4'⟩:=h4.opens hS3 kx3;have up4:=(fun bs2 w2 h=>up3 bs2 w2 (up4' bs2 w2 h));have lk4:=cell_lt (kp_cell kx4 hc0);clear up3 up4' hw3 kx3) | (go_at_call 126;refine (HEHoliday.out _ S4 kx4 hw4 hS4).mono ?_;rintro e w5 ⟨rfl,h5⟩;obtain ⟨S5,hw5,kx5,hS5,up5'⟩:=h5.opens hS4 kx4;have up5:=(fun bs2 w2 h=>up4 bs2 w2 (up5' bs2 w2 h));have lk5:=cell_lt (kp_cell kx5 hc0);clear up4 up5' hw4 kx4) | (go_at_call 128;refine (HEStreet.out _ S5 kx5 hw5 hS5).mono ?_;rintro e w6 ⟨rfl,h6⟩;obtain ⟨S6,hw6,kx6,hS6,up6'⟩:=h6.opens hS5 kx5;have up6:=(fun bs2 w2 h=>up5 bs2 w2 (up6' bs2 w2 h));have lk6:=cell_lt (kp_cell kx6 hc0);clear up5 up6' hw5 kx5))
 go_end0
 exact ⟨rfl,by have h:=up6 _ _ (WX.refl hw6 (kp_refl _));simpa [encA,encB,List.append_assoc] using h⟩
set_option maxHeartbeats 8000000 in
set_option maxRecDepth 100000 in
theorem bytes_any (js:List JU) (rs:List RT) (hok:CfgOk js rs) (uj ur:Value) (w:World) (hj:SlR J_jur 5 w uj js) (hr:SlR J_rat 2 w ur rs) :
  Calls Tryz.prog 16 #[.agg #[uj,ur,.slice none 0 0,.slice none 0 0,.slice none 0 0,.slice none 0 0]] w fun e w'=>∃ v,e=.returned (.tuple #[v,.int .i64 0])∧OwnU w' w.heap.size v (encCfg js rs)∧Kp w w':=by
 have hle:=hok.le
 obtain ⟨b1,o1,cap1,rfl,hcap1,hJ1⟩:=id hj
 obtain ⟨b2,o2,cap2,rfl,hcap2,hJ2⟩:=id hr
 clear hJ1 hJ2
 have HA:=Lib.hid (fun w0 w' gw (k:Kp w w0) (kx:Kp w0 w') (hp:w0.heap[w.heap.size]? = some (.cells #[.slice (some ⟨b1,o1,none⟩) js.length cap1,.slice (some ⟨b2,o2,none⟩) rs.length cap2,.slice none 0 0,.slice none 0 0,.slice none 0 0,.slice none 0 0] 31 (0,0))) (hw:WrB gw [] [gw] w') (hS:w0.heap.size≤gw) =>
  cw_all gw w.heap.size js rs hok _ _ [gw] w0 w' kx hp (hj.kp stays_jur k) (hr.kp stays_rat k) hw (by simpa using hS))
 clear hj hr
 go_enter Tryz.func16,Tryz.ntmps16
 go_upto_region 2 with fail
 obtain ⟨w0,hw0⟩:∃ W,w.alloc (.cells #[.slice (some ⟨b1,o1,none⟩) js.length cap1,.slice (some ⟨b2,o2,none⟩) rs.length cap2,.slice none 0 0,.slice none 0 0,.slice none 0 0,.slice none 0 0] 31)=W:=⟨_,rfl⟩
 have K0:Kp w w0:=by rw [← hw0];exact kp_alloc (kp_refl _) _
 have p0:w0.heap[w.heap.size]? = some (.cells #[.slice (some ⟨b1,o1,none⟩) js.length cap1,.slice (some ⟨b2,o2,none⟩) rs.length cap2,.slice none 0 0,.slice none 0 0,.slice none 0 0,.slice none 0 0] 31 (0,0)):=by rw [← hw0];exact heap_alloc_new _ _
 have s0:w0.heap.size=w.heap.size+1:=by rw [← hw0];simp
 obtain ⟨gw,hgw⟩:∃ g,w0.heap.size=g:=⟨_,rfl⟩
 obtain ⟨w1,hw1⟩:∃ W,w0.alloc (.cells #[.slice none 0 0] 143)=W:=⟨_,rfl⟩
 have K1:Kp w0 w1:=by rw [← hw1];exact kp_alloc (kp_refl _) _
 have hb:WrB gw [] [gw] w1:=⟨.slice none 0 0,by rw [← hw1,← hgw];exact heap_alloc_new _ _,OwnU.nil _ _,rfl⟩
 have HB:=Lib.hid (HA.out w0 w1 gw K0 K1 p0 hb (by omega))
 have hwg:w.heap.size<gw:=by omega
 have HG:=Lib.hid hgw
 have sgw:w.heap.size+1=gw:=by omega
 simp only [hw0,hw1,s0,sgw]
 clear sgw hgw s0 hw0 hw1
 clear hb p0 HA
 go_wp2_with (go_at_call 52;refine HB.out.mono ?_;rintro e w2 ⟨rfl,h2⟩;obtain ⟨S2,hb2,hk2,hs2⟩:=h2;obtain ⟨u,hu,ho,rfl⟩:=hb2;obtain ⟨g2,cap2',hv⟩:∃ g2 cap2',u=.slice (some ⟨g2,0,none⟩) (encCfg js rs).length cap2':=(by obtain ⟨_,g2,c2,h,_⟩:=ho.rdU (by unfold encCfg encA;have:=(enc_len (n:=js.length) (by have:=hok.jle;omega)).1;simp only [List.length_append];omega);exact ⟨g2,c2,h⟩);subst hv;have c2:w2.cell? ⟨gw,0,none⟩=some (.slice (some ⟨g2,0,none⟩) (encCfg js rs).length cap2'):=(by rw [cell_of_row w2 gw _ _ _ _ hu];rfl);have lg2:=cell_lt c2;have z0:¬ (65536:Int)<((encCfg js rs).length:Int):=(by omega))
 go_ret2
 exact ⟨_,rfl,ho.low (by omega),kp_trans K0 (KX.after K1 hk2 (by have:=HG.out;simp;omega))⟩
end Go.Proofs.YtgliljnbajohhaaGreatDoor
