import Derived.Test.YtgliljnbajohhaaGreatDoorQ42
import Derived.Test.YtgliljnbajohhaaGreatDoorQ43
import Derived.Test.YtgliljnbajohhaaGreatDoorQ36
import Derived.Test.YtgliljnbajohhaaGreatDoorQ38
import Derived.Test.YtgliljnbajohhaaGreatDoorQ19
import Derived.Test.YtgliljnbajohhaaGreatDoorQ18
import Derived.Test.YtgliljnbajohhaaGreatDoorQ09
set_option linter.unusedVariables false
set_option linter.unusedSimpArgs false
namespace Go.Proofs.YtgliljnbajohhaaGreatDoor
open Go.RowKit Go.Proofs.Top Go.Proofs.Geo Go.Ex
def jsB (bs:List Bx):List JU:=(List.range bs.length).map fun k=>⟨1+k,bif Nat.beq k 0 then 1 else 2,bif Nat.beq k 0 then 0 else 1,1,[ringN (bs.getD k (0,0,0,0))]⟩
def rsB (N:Nat):List RT:=(List.range N).map fun k=>⟨1+k,[(0,ratI (1+k))]⟩
theorem jsB_len (bs:List Bx):(jsB bs).length=bs.length:=by simp [jsB]
theorem jsB_at {bs:List Bx} {k:Nat} {j:JU} (h:(jsB bs)[k]? = some j):k<bs.length∧j=⟨1+k,bif Nat.beq k 0 then 1 else 2,bif Nat.beq k 0 then 0 else 1,1,[ringN (bs.getD k (0,0,0,0))]⟩:=by
 unfold jsB at h
 rw [List.getElem?_map] at h
 obtain ⟨i,hi,rfl⟩:=Option.map_eq_some_iff.1 h
 obtain ⟨hk,e⟩:=List.getElem?_eq_some_iff.1 hi
 simp at e hk
 subst e
 exact ⟨hk,rfl⟩
theorem jsB_is (bs:List Bx):JIs (jsB bs):=⟨fun k j h=>by obtain ⟨_,rfl⟩:=jsB_at h;exact ⟨rfl,rfl,rfl,rfl⟩⟩
theorem jsB_boxed (bs:List Bx):Boxed (jsB bs) bs:=⟨(jsB_len bs).symm,fun k j b h hb=>by
 obtain ⟨_,rfl⟩:=jsB_at h
 simp only
 rw [List.getD_eq_getElem?_getD,hb]
 rfl⟩
theorem rsB_at {N k:Nat} (h:k<N):(rsB N)[k]? = some ⟨1+k,[(0,ratI (1+k))]⟩:=by
 unfold rsB
 rw [List.getElem?_map,List.getElem?_range h]
 rfl
theorem rsB_rate (N:Nat):∀ id,1≤id→id≤N→∃ (i:Nat) (r:RT),(rsB N)[i]? = some r∧r.id=id∧r.ds=[(0,ratI id)]:=fun id h1 h2=>by
 refine ⟨id - 1,_,rsB_at (by omega),?_,?_⟩
 ·show 1+(id - 1)=id;omega
 ·show [(0,ratI (1+(id - 1)))]=_;rw [show 1+(id - 1)=id by omega]
theorem jsB_ok {bs:List Bx} (h:bs.length≤10):JsOk (jsB bs) where
 len:=by rw [jsB_len];omega
 id j hj:=by
  obtain ⟨k,hk,e⟩:=List.getElem_of_mem hj
  obtain ⟨h1,rfl⟩:=jsB_at (List.getElem?_eq_getElem hk ▸ congrArg some e:(jsB bs)[k]? = some j)
  simp only
  omega
 inc i k a b ha hb hik:=by
  obtain ⟨_,rfl⟩:=jsB_at ha
  obtain ⟨_,rfl⟩:=jsB_at hb
  simp only
  omega
 kind j hj:=by
  obtain ⟨k,hk,e⟩:=List.getElem_of_mem hj
  obtain ⟨h1,rfl⟩:=jsB_at (List.getElem?_eq_getElem hk ▸ congrArg some e:(jsB bs)[k]? = some j)
  simp only
  cases Nat.beq k 0 <;> simp
 fil j hj:=by
  obtain ⟨k,hk,e⟩:=List.getElem_of_mem hj
  obtain ⟨h1,rfl⟩:=jsB_at (List.getElem?_eq_getElem hk ▸ congrArg some e:(jsB bs)[k]? = some j)
  simp
 par j hj:=by
  obtain ⟨k,hk,e⟩:=List.getElem_of_mem hj
  obtain ⟨h1,rfl⟩:=jsB_at (List.getElem?_eq_getElem hk ▸ congrArg some e:(jsB bs)[k]? = some j)
  unfold ParOk
  rcases k with _ | k
  ·exact .inl ⟨rfl,rfl⟩
  ·refine .inr ⟨rfl,by show 0<1;omega,0,_,by unfold jsB;rw [List.getElem?_map,List.getElem?_range (by omega)];rfl,rfl,rfl⟩
theorem rsB_mem {N k:Nat} {r:RT} (h:(rsB N)[k]? = some r):k<N∧r=⟨1+k,[(0,ratI (1+k))]⟩:=by
 have hk:k<N:=by
  have:=(List.getElem?_eq_some_iff.1 h).1
  simpa [rsB] using this
 rw [rsB_at hk] at h
 cases h
 exact ⟨hk,rfl⟩
theorem ratI_le (k:Nat):ratI k≤40000:=by
 unfold ratI
 cases Nat.beq k 1 <;> decide
theorem rsB_rt {N:Nat}:∀ r∈rsB N,RtOk r:=fun r hr=>by
 obtain ⟨k,hk,e⟩:=List.getElem_of_mem hr
 obtain ⟨h1,rfl⟩:=rsB_mem (List.getElem?_eq_getElem hk ▸ congrArg some e:(rsB N)[k]? = some r)
 have:=ratI_le (1+k)
 exact ⟨_,rfl,by omega⟩
theorem rsB_inc {N:Nat} (i k:Nat) (a b:RT) (h1:(rsB N)[i]? = some a) (h2:(rsB N)[k]? = some b) (h:i<k):a.id<b.id:=by
 obtain ⟨_,rfl⟩:=rsB_mem h1
 obtain ⟨_,rfl⟩:=rsB_mem h2
 simp only
 omega
theorem rsB_rid {bs:List Bx} {N:Nat} (hN:bs.length=N):∀ r∈rsB N,∃ (i:Nat) (p:JU),(jsB bs)[i]? = some p∧r.id=p.id:=fun r hr=>by
 obtain ⟨k,hk,e⟩:=List.getElem_of_mem hr
 obtain ⟨h1,rfl⟩:=rsB_mem (List.getElem?_eq_getElem hk ▸ congrArg some e:(rsB N)[k]? = some r)
 have hj:k<(jsB bs).length:=by rw [jsB_len];omega
 refine ⟨k,(jsB bs)[k],List.getElem?_eq_getElem hj,?_⟩
 obtain ⟨_,e2⟩:=jsB_at (List.getElem?_eq_getElem hj)
 rw [e2]
theorem encs_le3:∀ {ns:List Nat},(∀ n∈ns,n<1048576)→(encs ns).length≤3 * ns.length
 | [],_=>by simp [encs]
 | n :: ns,h=>by
  have h1:=(enc_len (h n (by simp))).2
  have h2:=encs_le3 (ns:=ns) fun k hk=>h k (by simp [hk])
  unfold encs at h2 ⊢
  simp only [List.map_cons,List.flatten_cons,List.length_append,List.length_cons]
  omega
theorem encL_le {α:Type} {f:α→List Int} {c:Nat}:∀ {l:List α},(∀ a∈l,(f a).length≤c)→(encL f l).length≤c * l.length
 | [],_=>by simp [encL]
 | a :: l,h=>by
  have h1:=h a (by simp)
  have h2:=encL_le (f:=f) (c:=c) (l:=l) fun k hk=>h k (by simp [hk])
  unfold encL at h2 ⊢
  simp only [List.map_cons,List.flatten_cons,List.length_append,List.length_cons,Nat.mul_succ]
  omega
theorem encRing_le {b:Bx} (h1:b.1<1048576) (h2:b.2.1<1048576) (h3:b.2.2.1<1048576) (h4:b.2.2.2<1048576):(encRing (ringN b)).length≤27:=by
 unfold encRing
 have a1:=(enc_len (show (ringN b).length<1048576 by show 4<1048576;decide)).2
 have a2:(encPs (ringN b)).length≤6 * (ringN b).length:=encL_le (f:=fun p:NPt=>encs [p.1,p.2]) (c:=6) fun p hp=>by
  refine encs_le3 (ns:=[p.1,p.2]) fun n hn=>?_
  unfold ringN at hp
  simp only [List.mem_cons,List.not_mem_nil,or_false] at hp hn
  rcases hp with rfl | rfl | rfl | rfl <;> rcases hn with rfl | rfl <;> assumption
 have a3:(ringN b).length=4:=rfl
 rw [List.length_append]
 omega
theorem encJ_le {j:JU} {b:Bx} (h0:j.id<1048576∧j.kind<1048576∧j.par<1048576∧j.fil<1048576) (hr:j.rings=[ringN b]) (h1:b.1<1048576) (h2:b.2.1<1048576) (h3:b.2.2.1<1048576) (h4:b.2.2.2<1048576):(JU.encJ j).length≤42:=by
 unfold JU.encJ
 rw [hr]
 have a1:(encs [j.id,j.kind,j.par,j.fil]).length≤3 * 4:=encs_le3 fun n hn=>by
  simp only [List.mem_cons,List.not_mem_nil,or_false] at hn
  omega
 have a2:=(enc_len (show [ringN b].length<1048576 by show 1<1048576;decide)).2
 have a3:=encRing_le h1 h2 h3 h4
 have a4:(encL encRing [ringN b]).length=(encRing (ringN b)).length:=by unfold encL;simp
 simp only [List.length_append]
 omega
theorem cfgB_is {bs:List Bx} (h0:0<bs.length) (h:bs.length≤10) (hf:∀ b∈bs,BxFit b):CfgIs (jsB bs) (rsB bs.length):=by
 have hat:∀ j∈jsB bs,∃ k b,k<bs.length∧b∈bs∧j=⟨1+k,bif Nat.beq k 0 then 1 else 2,bif Nat.beq k 0 then 0 else 1,1,[ringN b]⟩:=fun j hj=>by
  obtain ⟨k,hk,e⟩:=List.getElem_of_mem hj
  obtain ⟨h1,h2⟩:=jsB_at (List.getElem?_eq_getElem hk ▸ congrArg some e:(jsB bs)[k]? = some j)
  rw [List.getD_eq_getElem?_getD,List.getElem?_eq_getElem h1] at h2
  exact ⟨k,bs[k],h1,List.getElem_mem h1,h2⟩
 have hrt:∀ r∈rsB bs.length,∃ k,k<bs.length∧r=⟨1+k,[(0,ratI (1+k))]⟩:=fun r hr=>by
  obtain ⟨k,hk,e⟩:=List.getElem_of_mem hr
  exact ⟨k,rsB_mem (List.getElem?_eq_getElem hk ▸ congrArg some e:(rsB bs.length)[k]? = some r)⟩
 have hrl:(rsB bs.length).length=bs.length:=by simp [rsB]
 have kd:∀ k:Nat,(bif Nat.beq k 0 then 1 else 2)<1048576∧(bif Nat.beq k 0 then 0 else 1)<1048576:=fun k=>by cases Nat.beq k 0 <;> decide
 refine ⟨⟨by rw [jsB_len];exact h0,by rw [jsB_len];omega,fun j hj=>?_,by rw [hrl];exact h0,by rw [hrl];omega,fun r hr=>?_,?_⟩,jsB_ok h,fun j hj=>?_,by rw [hrl];omega,rsB_rt,rsB_rid rfl,fun i k a b=>rsB_inc i k a b⟩
 ·obtain ⟨k,b,hk,hb,rfl⟩:=hat j hj
  obtain ⟨f1,f2,f3,f4⟩:=hf b hb
  refine ⟨by simp only;omega,(kd k).1,(kd k).2,by simp only;omega,by simp,by simp,fun r hr=>?_⟩
  simp only [List.mem_singleton] at hr
  subst hr
  refine ⟨by show 0<4;decide,by show 4≤1000;decide,fun q hq=>?_⟩
  have hq:q<4:=hq
  have:q=0∨q=1∨q=2∨q=3:=by omega
  rcases this with rfl | rfl | rfl | rfl <;> simp [ringN] <;> omega
 ·obtain ⟨k,hk,rfl⟩:=hrt r hr
  have:=ratI_le (1+k)
  exact ⟨by simp only;omega,by simp,by simp,fun d hd=>by simp only [List.mem_singleton] at hd;subst hd;simp only;omega⟩
 ·have a1:=(enc_len (show (jsB bs).length<1048576 by rw [jsB_len];omega)).2
  have a2:(encL JU.encJ (jsB bs)).length≤42 * (jsB bs).length:=encL_le fun j hj=>by
   obtain ⟨k,b,hk,hb,rfl⟩:=hat j hj
   obtain ⟨f1,f2,f3,f4⟩:=hf b hb
   exact encJ_le (b:=b) ⟨by simp only;omega,(kd k).1,(kd k).2,by simp only;omega⟩ rfl (by omega) (by omega) f3 f4
  have a3:=(enc_len (show (rsB bs.length).length<1048576 by rw [hrl];omega)).2
  have a4:(encL RT.encT (rsB bs.length)).length≤12 * (rsB bs.length).length:=encL_le fun r hr=>by
   obtain ⟨k,hk,rfl⟩:=hrt r hr
   have:=ratI_le (1+k)
   have c1:(encs [1+k]).length≤3 * 1:=encs_le3 fun n hn=>by simp at hn;omega
   have c2:(enc (0+1)).length≤3:=(enc_len (show 0+1<1048576 by decide)).2
   have c3:(encs [0,ratI (1+k)]).length≤3 * 2:=encs_le3 fun n hn=>by simp at hn;omega
   unfold RT.encT
   simp only [encL,List.map_cons,List.map_nil,List.flatten_cons,List.flatten_nil,List.append_nil,List.length_append,List.length_cons,List.length_nil]
   omega
  rw [jsB_len] at a1 a2
  rw [hrl] at a3 a4
  unfold encCfg encA encB
  rw [enc0,jsB_len,hrl]
  simp only [List.length_append,List.length_cons,List.length_nil]
  omega
 ·obtain ⟨k,b,hk,hb,rfl⟩:=hat j hj
  obtain ⟨f1,f2,f3,f4⟩:=hf b hb
  refine ⟨ringN b,rfl,?_,by show 4≤200;decide⟩
  rw [ringN_pts]
  exact box_chk (by omega) (by omega) (okP_iff.2 (by simp only;omega)) (okP_iff.2 (by simp only;omega))
theorem infoReg:(Tryz.prog.info? 36).map (fun i=>(i.zero,i.size,i.bytes))=some (some (.agg #[.slice none 0 0]),1,24):=by kernel_rfl
theorem row9_set {w:World} {t:Nat} {T:TypeId} {a0 a1 a2 a3 a4 a5 a6 a7 a8:Value} (h:w.heap[t]? = some (.cells #[a0,a1,a2,a3,a4,a5,a6,a7,a8] T (0,0))) (v1 v2 v3 v4 v5 v6:Value) :
  ((((((w.setCell ⟨t,1,none⟩ v1).setCell ⟨t,2,none⟩ v2).setCell ⟨t,3,none⟩ v3).setCell ⟨t,4,none⟩ v4).setCell ⟨t,5,none⟩ v5).setCell ⟨t,6,none⟩ v6).heap[t]? = some (.cells #[a0,v1,v2,v3,v4,v5,v6,a7,a8] T (0,0)):=by
 rw [heap_setCell_same _ t _ _ _ _ (heap_setCell_same _ t _ _ _ _ (heap_setCell_same _ t _ _ _ _ (heap_setCell_same _ t _ _ _ _ (heap_setCell_same _ t _ _ _ _ (heap_setCell_same _ t _ _ _ _ h)))))]
 rfl
theorem kp_kx {w w':World} (k:KX [] w w'):Kp w w':=⟨k.os,k.tape,k.output,k.size,fun b hb=>k.block b hb (by simp)⟩
def NewOk (js:List JU) (rs:List RT) (bs:List Bx) (w:World) (cx:Nat) (w':World):Prop:=∃ x gj cj us sp ur bl B wB wC,
 w'.heap[cx]? = some (.cells #[.bool true,.slice (some ⟨gj,0,none⟩) js.length (js.length+cj:Nat),ur,.slice none 0 0,.slice none 0 0,.slice none 0 0,.slice none 0 0,.pointer (some ⟨x,0,none⟩),.pointer none] 86 (0,0)) ∧
 JRow w' gj js us sp∧sp.length=cj * 5∧IsR B w' bl ur rs∧cx<B∧Built js.length bs wB x wC∧KX [cx] wC w'∧cx<wB.heap.size∧Kp w wC∧w.heap.size≤cx∧(∀ v∈us,v.oneCell'=true)∧gj<wB.heap.size∧∃ cs,wC.heap[cx]? = some (.cells cs 86 (0,0))
set_option maxHeartbeats 8000000 in
set_option maxRecDepth 100000 in
theorem cnew_any (js:List JU) (rs:List RT) (bs:List Bx) (hok:CfgIs js rs) (hB:Boxed js bs) (hfit:∀ b∈bs,BxFit b) (hN:NOk js.length) (uj ur:Value) (w:World) (hj:SlR J_jur 5 w uj js) (hr:SlR J_rat 2 w ur rs) :
  Calls Tryz.prog 7 #[.agg #[uj,ur,.slice none 0 0,.slice none 0 0,.slice none 0 0,.slice none 0 0]] w fun e w'=>∃ cx,e=.returned (.tuple #[.pointer (some ⟨cx,0,none⟩),.int .i64 0])∧NewOk js rs bs w cx w':=by
 have hN0:0<js.length∧js.length≤10:=by rcases hN with h | h | h | h | h | h <;> omega
 have HCK:=Lib.hid (fun w' (k:Kp w w')=>ccheck_ok js rs hok uj ur w' (hj.kp stays_jur k) (hr.kp stays_rat k))
 have HBY:=Lib.hid (fun w' (k:Kp w w')=>bytes_any js rs hok.cfg uj ur w' (hj.kp stays_jur k) (hr.kp stays_rat k))
 have h0:=cfg_pos js rs hok.cfg
 have HRE:=Lib.hid (fun v w' (h:RdU w' v (encCfg js rs))=>read_any v js rs hok.cfg w' h)
 have HBD:=Lib.hid (fun us spl gl lc w' h1 h2 h3 h4 h5=>build_any hN us spl gl lc bs w' h1 h2 h3 h4 hB.len h5 hfit)
 have HB:=Lib.hid hB
 obtain ⟨i0,hi,hz0,hz1,hz2⟩:=info_parts infoReg
 have HI:=Lib.hid hi;have HZ0:=Lib.hid hz0;have HZ1:=Lib.hid hz1;have HZ2:=Lib.hid hz2
 obtain ⟨bj,oj,cj,rfl,_⟩:=hj
 obtain ⟨bq,oq,cq,rfl,_⟩:=hr
 clear hi hz0 hz1 hz2 hok hB hfit
 go_enter Tryz.func7,Tryz.ntmps7
 go_upto_region 1 with fail
 obtain ⟨W,hW⟩:∃ W,w.alloc (.cells #[.slice (some ⟨bj,oj,none⟩) js.length cj,.slice (some ⟨bq,oq,none⟩) rs.length cq,.slice none 0 0,.slice none 0 0,.slice none 0 0,.slice none 0 0] 31)=W:=⟨_,rfl⟩
 obtain ⟨t,ht⟩:∃ t,w.heap.size=t:=⟨_,rfl⟩
 have KW:Kp w W:=by rw [← hW];exact kp_alloc (kp_refl _) _
 have q0:W.heap[t]? = some (.cells #[.slice (some ⟨bj,oj,none⟩) js.length cj,.slice (some ⟨bq,oq,none⟩) rs.length cq,.slice none 0 0,.slice none 0 0,.slice none 0 0,.slice none 0 0] 31 (0,0)):=by rw [← hW,← ht];exact heap_alloc_new _ _
 have HT:=Lib.hid ht
 simp only [hW,ht]
 have tW:t<W.heap.size:=by rw [← hW,← ht];simp
 clear hW ht
 have x0:W.cell? ⟨t,0,none⟩=some (.slice (some ⟨bj,oj,none⟩) js.length cj):=by rw [cell_of_row W t _ _ _ _ q0];rfl
 have x1:W.cell? ⟨t,1,none⟩=some (.slice (some ⟨bq,oq,none⟩) rs.length cq):=by rw [cell_of_row W t _ _ _ _ q0];rfl
 have x2:W.cell? ⟨t,2,none⟩=some (.slice none 0 0):=by rw [cell_of_row W t _ _ _ _ q0];rfl
 have x3:W.cell? ⟨t,3,none⟩=some (.slice none 0 0):=by rw [cell_of_row W t _ _ _ _ q0];rfl
 have x4:W.cell? ⟨t,4,none⟩=some (.slice none 0 0):=by rw [cell_of_row W t _ _ _ _ q0];rfl
 have x5:W.cell? ⟨t,5,none⟩=some (.slice none 0 0):=by rw [cell_of_row W t _ _ _ _ q0];rfl
 have Q0:=Lib.hid q0
 clear q0
 go_upto_region 4 with (go_at_call 15;refine (HCK.out _ KW).mono ?_;rintro e w1 ⟨rfl,hk1⟩)
 have x0:=kp_cell hk1 x0;have x1:=kp_cell hk1 x1;have x2:=kp_cell hk1 x2;have x3:=kp_cell hk1 x3;have x4:=kp_cell hk1 x4;have x5:=kp_cell hk1 x5
 have KW1:=kp_trans KW hk1
 have sW1:t<w1.heap.size:=cell_lt x0
 clear KW tW hk1 Q0
 go_upto_region 7 with (go_at_call 16;refine (HBY.out _ KW1).mono ?_;rintro e w2 ⟨v2,rfl,ho2,hk2⟩;have HR2:=Lib.hid (ho2.rdU h0).1;obtain ⟨p2,c2,hv2⟩:=ownsRow_slice ho2;subst hv2)
 have KW2:=kp_trans KW1 hk2
 clear x0 x1 x2 x3 x4 x5 ho2 KW1
 go_upto_region 8 with fail
 obtain ⟨W3,hW3⟩:∃ W,w2.alloc (.cells #[.bool true,.slice none 0 0,.slice none 0 0,.slice none 0 0,.slice none 0 0,.slice none 0 0,.slice none 0 0,.pointer none,.pointer none] 86)=W:=⟨_,rfl⟩
 obtain ⟨cx,hcx⟩:∃ t,w2.heap.size=t:=⟨_,rfl⟩
 have K3:Kp w2 W3:=by rw [← hW3];exact kp_alloc (kp_refl _) _
 have q3:W3.heap[cx]? = some (.cells #[.bool true,.slice none 0 0,.slice none 0 0,.slice none 0 0,.slice none 0 0,.slice none 0 0,.slice none 0 0,.pointer none,.pointer none] 86 (0,0)):=by rw [← hW3,← hcx];exact heap_alloc_new _ _
 have s3:W3.heap.size=cx+1:=by rw [← hW3,← hcx];simp
 have hwc:w.heap.size≤cx:=by rw [← hcx];exact Below.size KW2
 simp only [hW3,hcx]
 have HR3:=Lib.hid (HR2.out.kp K3)
 have KW3:=kp_trans KW2 K3
 clear hW3 hcx K3 HR2 KW2
 have c3:=cell_lt (show W3.cell? ⟨cx,0,none⟩=some _ by rw [cell_of_row W3 cx _ _ _ _ q3];rfl)
 go_upto_region 9 with (go_at_call 17;refine (HRE.out _ _ HR3.out).mono ?_;rintro e w3 ⟨uj2,blj,ur2,blr,rfl,hj3,hr3,hk3⟩;obtain ⟨gj,cj2,us,sp,hv3,hgj,hJ3,hsp3,hrg3⟩:=jRow_of hj3 HB.out hN0.1;subst hv3;obtain ⟨pr,cr,hvr⟩:=hr3.slice;subst hvr;have q3':=(hk3.block cx c3).trans q3;have l3:=(Array.getElem?_eq_some_iff.1 q3').1;have g1:w3.cell? ⟨cx,1,none⟩=some (.slice none 0 0):=(by rw [cell_of_row w3 cx _ _ _ _ q3'];rfl);have g2:w3.cell? ⟨cx,2,none⟩=some (.slice none 0 0):=(by rw [cell_of_row w3 cx _ _ _ _ q3'];rfl);have g3:w3.cell? ⟨cx,3,none⟩=some (.slice none 0 0):=(by rw [cell_of_row w3 cx _ _ _ _ q3'];rfl);have g4:w3.cell? ⟨cx,4,none⟩=some (.slice none 0 0):=(by rw [cell_of_row w3 cx _ _ _ _ q3'];rfl);have g5:w3.cell? ⟨cx,5,none⟩=some (.slice none 0 0):=(by rw [cell_of_row w3 cx _ _ _ _ q3'];rfl);have g6:w3.cell? ⟨cx,6,none⟩=some (.slice none 0 0):=(by rw [cell_of_row w3 cx _ _ _ _ q3'];rfl);have f1:w3.frozen? ⟨cx,1,none⟩=false:=frozen_of_row w3 cx _ _ _ q3';have f2:w3.frozen? ⟨cx,2,none⟩=false:=frozen_of_row w3 cx _ _ _ q3';have f3:w3.frozen? ⟨cx,3,none⟩=false:=frozen_of_row w3 cx _ _ _ q3';have f4:w3.frozen? ⟨cx,4,none⟩=false:=frozen_of_row w3 cx _ _ _ q3';have f5:w3.frozen? ⟨cx,5,none⟩=false:=frozen_of_row w3 cx _ _ _ q3';have f6:w3.frozen? ⟨cx,6,none⟩=false:=frozen_of_row w3 cx _ _ _ q3')
 clear g1 g2 g3 g4 g5 g6 f1 f2 f3 f4 f5 f6
 obtain ⟨W4,hW4⟩:∃ W,((((((w3.setCell ⟨cx,1,none⟩ (.slice (some ⟨gj,0,none⟩) js.length (js.length+cj2:Nat))).setCell ⟨cx,2,none⟩ (.slice pr rs.length cr)).setCell ⟨cx,3,none⟩ (.slice none 0 0)).setCell ⟨cx,4,none⟩ (.slice none 0 0)).setCell ⟨cx,5,none⟩ (.slice none 0 0)).setCell ⟨cx,6,none⟩ (.slice none 0 0))=W:=⟨_,rfl⟩
 have X4:KX [cx] w3 W4:=by rw [← hW4];exact ((((((KX.refl w3).set (.inl (by simp)) _).set (.inl (by simp)) _).set (.inl (by simp)) _).set (.inl (by simp)) _).set (.inl (by simp)) _).set (.inl (by simp)) _
 have q4:W4.heap[cx]? = some (.cells #[.bool true,.slice (some ⟨gj,0,none⟩) js.length (js.length+cj2:Nat),.slice pr rs.length cr,.slice none 0 0,.slice none 0 0,.slice none 0 0,.slice none 0 0,.pointer none,.pointer none] 86 (0,0)):=by rw [← hW4];exact row9_set q3' _ _ _ _ _ _
 simp only [hW4]
 have HRG:=Lib.hid (fun (j:Nat) (b:Bx) (u:Value) (h1:bs[j]? = some b) (h2:us[j]? = some u)=>(show RgO W4 u b.1 b.2.1 b.2.2.1 b.2.2.2 from by
  obtain ⟨b1,b2,c1,c2,s1,s2,h⟩:=hrg3 j b u h1 h2
  obtain ⟨_,r2,_,r4,_⟩:=id h
  exact ⟨_,_,_,_,_,_,h.kept (X4.block b1 (Array.getElem?_eq_some_iff.1 r2).1 (by simp only [List.mem_singleton];rintro rfl;rw [q3'] at r2;simp at r2)) (X4.block b2 (Array.getElem?_eq_some_iff.1 r4).1 (by simp only [List.mem_singleton];rintro rfl;rw [q3'] at r4;simp at r4))⟩))
 clear hW4 q3'
 have hgl:gj<w3.heap.size:=by obtain ⟨_,css,_,hg,_⟩:=hJ3;exact (Array.getElem?_eq_some_iff.1 hg).1
 have HJ4:=Lib.hid (hJ3.kept (X4.block gj hgl (by simp;omega)))
 have HR4:=Lib.hid (ListIs.kx law_rat hr3 X4 (by simp;omega))
 have K34:Kp w W4:=by
  have k:=(KX.of (S:=[cx]) (kp_trans KW3 hk3)).trans X4 (fun b hb=>.inl hb)
  exact ⟨k.os,k.tape,k.output,k.size,fun b hb=>k.block b hb (by simp;omega)⟩
 have y1:W4.cell? ⟨cx,1,none⟩=some (.slice (some ⟨gj,0,none⟩) js.length (js.length+cj2:Nat)):=by rw [cell_of_row W4 cx _ _ _ _ q4];rfl
 have l4:=cell_lt y1
 obtain ⟨s4,hs4⟩:∃ t,W4.heap.size=t:=⟨_,rfl⟩
 have HS4:=Lib.hid hs4;have HX4:=Lib.hid X4;have HQ4:=Lib.hid q4;have HK4:=Lib.hid K34;have HSP:=Lib.hid hsp3;have HK3:=Lib.hid hk3
 clear hJ3 hr3 hrg3 X4 q4 K34 hs4 hsp3 q3 HR3 hj3 KW3
 go_wp2_with fail
 go_loopw [10,46] (fun v i wr=>∃ k:Nat,k≤js.length∧i=.int .i64 k∧wr.ownsRow s4 36 1 v k (us.take k)∧Kp W4 wr) (fun v i _=>js.length - (intOf i).toNat)
 case atStart=>exact ⟨0,by omega,rfl,World.ownsRow_nil _ _ _ _,kp_refl _⟩
 case round =>
  obtain ⟨k,hk,rfl,hown,hkp⟩:=hrel
  have HOW:=Lib.hid hown;have HKP:=Lib.hid hkp
  clear hown hkp
  by_cases hlt:k<js.length
  ·have z1:(k:Int)<(js.length:Int):=by omega
   have z0:(0:Int)≤(k:Int):=by omega
   have wi:IntKind.i64.wrap ((k:Int)+1)=(k:Int)+1:=IntWalk.i64_in _ (by omega)
   obtain ⟨j,hj⟩:∃ j,js[k]? = some j:=⟨_,List.getElem?_eq_getElem hlt⟩
   obtain ⟨b,hb⟩:∃ b,bs[k]? = some b:=⟨_,List.getElem?_eq_getElem (by rw [HB.out.len];exact hlt)⟩
   obtain ⟨u,hu⟩:∃ u,us[k]? = some u:=⟨_,List.getElem?_eq_getElem (by rw [HJ4.out.1];exact hlt)⟩
   obtain ⟨b1,b2,d1,d2,e1,e2,hru⟩:=HRG.out k b u hb hu
   obtain ⟨rfl,-⟩:=hru
   have hgk:gj<W4.heap.size:=by obtain ⟨_,css,_,hg,_⟩:=HJ4.out;exact (Array.getElem?_eq_some_iff.1 hg).1
   obtain ⟨a0,a1,a2,a3,a4⟩:=(HJ4.out.kept (HKP.out.block gj hgk)).cell hj hu
   have la:=cell_lt a0
   go_upto_region 13 with fail
   obtain ⟨W5,hW5⟩:∃ W,wr.alloc (.cells #[.int .i64 j.id,.int .i64 j.kind,.int .i64 j.par,.int .i64 j.fil,.slice (some ⟨b1,0,none⟩) 1 (1+d1)] 39)=W:=⟨_,rfl⟩
   obtain ⟨px,hpx⟩:∃ t,wr.heap.size=t:=⟨_,rfl⟩
   have K5:Kp wr W5:=by rw [← hW5];exact kp_alloc (kp_refl _) _
   have p4:W5.cell? ⟨px,4,none⟩=some (.slice (some ⟨b1,0,none⟩) 1 (1+d1)):=by rw [cell_of_row W5 px _ _ _ _ (show W5.heap[px]? = _ from by rw [← hW5,← hpx];exact heap_alloc_new _ _)];rfl
   have lpx:=cell_lt p4
   have hs5:s4≤W5.heap.size:=by rw [← HS4.out];exact Nat.le_trans HKP.out.size K5.size
   simp only [hW5,hpx]
   have HOW5:=Lib.hid (ownsRow_kx (S:=[]) HOW.out (KX.of K5) (by simp))
   have HKP5:=Lib.hid (kp_trans HKP.out K5)
   have hkl:(us.take k).length=k:=by rw [List.length_take];have:=HJ4.out.1;omega
   have HKL:=Lib.hid hkl
   clear hW5 hpx a0 a1 a2 a3 a4 la K5 hkl
   go_wp2_with (at_builtin;refine wpList_append_own_at _ rfl _ _ 32 rfl s4 36 i0 (.agg #[.slice none 0 0]) 1 24 Tryz.underlying32 HI.out HZ0.out HZ1.out HZ2.out rfl (by decide) _ _ _ rfl (ownsRow_kx (S:=[]) HOW5.out (KX.of (kp_alloc (kp_refl _) _)) (by simp)) ⟨W5.heap.size,0,none⟩ 1 1 [.slice (some ⟨b1,0,none⟩) 1 (1+d1)] rfl rfl (cells_new W5 [.slice (some ⟨b1,0,none⟩) 1 (1+d1)] _) (by simp [Value.oneCell']) (by unfold maxLen;omega) (by omega) (by simp;omega) ?_;intro v' w6 hown hgrow hnil hat;have HO6:=Lib.hid hown;have HG6:=Lib.hid hgrow;clear hown hgrow hnil hat)
   refine ⟨⟨k+1,by omega,by go_num,by rw [take_snoc hu];exact HO6.out,kp_kx (((KX.of (S:=[]) HKP5.out).alloc _).grown HG6.out (fun g hg=>.inr (by rw [HS4.out];exact (World.ownsRow.lt HOW.out g hg).1)))⟩,by simp [intOf];omega⟩
  ·obtain rfl:k=js.length:=by omega
   have z1:¬ (js.length:Int)<(js.length:Int):=by omega
   have hul:us.length=js.length:=HJ4.out.1
   have hown:=HOW.out
   rw [List.take_of_length_le (by omega)] at hown
   obtain ⟨gl,lc,spl,hv,hgl4,hrow,hlc⟩:=own_cut hown hN0.1
   subst hv
   have HB5:=Lib.hid (HBD.out us spl gl lc wr hrow hul (by omega) (fun v hv=>by
    obtain ⟨k,hk,rfl⟩:=List.getElem_of_mem hv
    obtain ⟨b1,_,_,_,_,_,hru⟩:=HRG.out k (bs[k]'(by rw [HB.out.len];omega)) us[k] (List.getElem?_eq_getElem _) (List.getElem?_eq_getElem hk)
    rw [hru.1];rfl) (fun j b u h1 h2=>(HRG.out j b u h1 h2).kp HKP.out))
   have HQW:=Lib.hid ((HKP.out.block cx l4).trans HQ4.out)
   clear hown hrow
   go_upto_region 16 with (go_at_call 18;refine HB5.out.mono ?_;rintro e w5 ⟨x,rfl,hbl,hk5⟩;have q5:=(hk5.block cx (Array.getElem?_eq_some_iff.1 HQW.out).1).trans HQW.out;have g7:w5.cell? ⟨cx,7,none⟩=some (.pointer none):=(by rw [cell_of_row w5 cx _ _ _ _ q5];rfl);have f7:w5.frozen? ⟨cx,7,none⟩=false:=frozen_of_row w5 cx _ _ _ q5;have l5:=cell_lt g7)
   have HQ5:=Lib.hid q5;have HBL:=Lib.hid hbl;have HK5:=Lib.hid hk5
   have q6:(w5.setCell ⟨cx,7,none⟩ (.pointer (some ⟨x,0,none⟩))).heap[cx]? = some (.cells #[.bool true,.slice (some ⟨gj,0,none⟩) js.length (js.length+cj2:Nat),.slice pr rs.length cr,.slice none 0 0,.slice none 0 0,.slice none 0 0,.slice none 0 0,.pointer (some ⟨x,0,none⟩),.pointer none] 86 (0,0)):=by rw [heap_setCell_same w5 cx _ _ _ _ q5];rfl
   have X6:KX [cx] w5 (w5.setCell ⟨cx,7,none⟩ (.pointer (some ⟨x,0,none⟩))):=(KX.refl _).set (.inl (by simp)) _
   have HQ6:=Lib.hid q6;have HX6:=Lib.hid X6
   clear q5 hbl hk5 g7 f7 q6 X6
   go_wp2_with fail
   go_ret2
   have k45:=kp_trans HKP.out HK5.out
   have hgj4:gj<W4.heap.size:=by obtain ⟨_,css,_,hg,_⟩:=HJ4.out;exact (Array.getElem?_eq_some_iff.1 hg).1
   refine ⟨cx,rfl,x,gj,cj2,us,sp,_,blr,W3.heap.size,wr,w5,HQ6.out,?_,HSP.out,?_,by omega,HBL.out,HX6.out,(Array.getElem?_eq_some_iff.1 HQW.out).1,kp_trans HK4.out k45,hwc,fun v hv=>?_,Nat.lt_of_lt_of_le hgj4 HKP.out.size,_,HQ5.out⟩
   ·exact (HJ4.out.kept (k45.block gj hgj4)).kept (HX6.out.block gj (Nat.lt_of_lt_of_le hgj4 k45.size) (by simp;omega))
   ·exact ListIs.kx law_rat (ListIs.kp law_rat HR4.out k45) HX6.out (by simp;omega)
   ·obtain ⟨k,hk,rfl⟩:=List.getElem_of_mem hv
    obtain ⟨b1,_,_,_,_,_,hru⟩:=HRG.out k (bs[k]'(by rw [HB.out.len];omega)) us[k] (List.getElem?_eq_getElem _) (List.getElem?_eq_getElem hk)
    rw [hru.1];rfl
end Go.Proofs.YtgliljnbajohhaaGreatDoor
namespace Go.Ex
open Go Go.RowKit Go.Proofs Go.Proofs.YtgliljnbajohhaaGreatDoor Go.Proofs.Geo
set_option maxRecDepth 100000
noncomputable def cmQ (q:Nat):XI→XI→Option Cm
 | .x a,.n i=>bif ieq i 0 && (Nat.ble a 1 && Nat.ble a q) then some (bif Nat.beq q a then .lt else .ge) else none
 | .x a,.x b=>bif Nat.beq a 2 && Nat.beq b 2 then some .eq
   else bif Nat.beq a 0 && (Nat.beq b 3 && Nat.ble 2 q) then some (bif Nat.beq q 2 then .ge else .lt)
   else bif Nat.beq a 1 && (Nat.beq b 4 && Nat.ble 3 q) then some (bif Nat.beq q 3 then .ge else .lt) else none
 | _,_=>none
def QOk (q:Nat) (x y W H:Int):Prop:=(q=0→x<0)∧(1≤q→0≤x)∧(q=1→y<0)∧(2≤q→0≤y)∧(q=2→W≤x)∧(3≤q→x<W)∧(q=3→H≤y)∧(4≤q→y<H)
theorem letQ [Val] {q:Nat} (h:QOk q (Val.val 0) (Val.val 1) (Val.val 3) (Val.val 4)):LetOk Tryz.prog (cmQ q) (fun _ _ _ _=>none) where
 cmp a b o hc:=by
  obtain ⟨q0,q1,q2,q3,q4,q5,q6,q7⟩:=h
  unfold cmQ at hc
  split at hc
  ·rename_i a i
   cases h1:(ieq i 0 && (Nat.ble a 1 && Nat.ble a q)) with
   | false=>simp [h1] at hc
   | true =>
    simp only [h1,cond_true,Option.some.injEq] at hc
    simp only [Bool.and_eq_true,nble,decide_eq_true_eq] at h1
    have hi:=ieq_ok h1.1
    subst hi
    have ha:a=0∨a=1:=by omega
    cases h2:Nat.beq q a with
    | true =>
     have h2:=nbt h2
     subst h2
     simp only [show Nat.beq q q=true from Nat.beq_refl q,cond_true] at hc
     subst hc
     rcases ha with rfl | rfl
     ·exact ⟨fun _=>q0 rfl,by simp,by simp,by simp,by simp⟩
     ·exact ⟨fun _=>q2 rfl,by simp,by simp,by simp,by simp⟩
    | false =>
     simp only [h2,cond_false] at hc
     subst hc
     have h2:q≠a:=fun e=>by rw [e,Nat.beq_refl] at h2;cases h2
     rcases ha with rfl | rfl
     ·exact ⟨by simp,by simp,by simp,by simp,fun _=>q1 (by omega)⟩
     ·exact ⟨by simp,by simp,by simp,by simp,fun _=>q3 (by omega)⟩
  ·rename_i a b
   cases h1:(Nat.beq a 2 && Nat.beq b 2) with
   | true =>
    simp only [h1,cond_true,Option.some.injEq] at hc
    simp only [Bool.and_eq_true] at h1
    have e1:=nbt h1.1
    have e2:=nbt h1.2
    subst e1 e2 hc
    exact ⟨by simp,fun _=>rfl,by simp,by simp,by simp⟩
   | false =>
    simp only [h1,cond_false] at hc
    cases h2:(Nat.beq a 0 && (Nat.beq b 3 && Nat.ble 2 q)) with
    | true =>
     simp only [h2,cond_true,Option.some.injEq] at hc
     simp only [Bool.and_eq_true,nble,decide_eq_true_eq] at h2
     have e1:=nbt h2.1
     have e2:=nbt h2.2.1
     have e3:=h2.2.2
     subst e1 e2
     cases h3:Nat.beq q 2 with
     | true =>
      simp only [h3,cond_true] at hc
      subst hc
      exact ⟨by simp,by simp,by simp,by simp,fun _=>q4 (nbt h3)⟩
     | false =>
      simp only [h3,cond_false] at hc
      subst hc
      have h3:q≠2:=fun e=>by rw [e] at h3;cases h3
      exact ⟨fun _=>q5 (by omega),by simp,by simp,by simp,by simp⟩
    | false =>
     simp only [h2,cond_false] at hc
     cases h4:(Nat.beq a 1 && (Nat.beq b 4 && Nat.ble 3 q)) with
     | false=>simp [h4] at hc
     | true =>
      simp only [h4,cond_true,Option.some.injEq] at hc
      simp only [Bool.and_eq_true,nble,decide_eq_true_eq] at h4
      have e1:=nbt h4.1
      have e2:=nbt h4.2.1
      have e3:=h4.2.2
      subst e1 e2
      cases h3:Nat.beq q 3 with
      | true =>
       simp only [h3,cond_true] at hc
       subst hc
       exact ⟨by simp,by simp,by simp,by simp,fun _=>q6 (nbt h3)⟩
      | false =>
       simp only [h3,cond_false] at hc
       subst hc
       have h3:q≠3:=fun e=>by rw [e] at h3;cases h3
       exact ⟨fun _=>q7 (by omega),by simp,by simp,by simp,by simp⟩
  ·cases hc
 ari op k a b r h xt w:=by cases h
noncomputable def tbQ (q:Nat):Tb:=⟨tiT,ftT,xtT,fun _ _ _=>none,cmQ q,fun _ _ _ _=>none⟩
noncomputable abbrev exQ (q:Nat):Code→Fr→S→Option (Ex×Fr×S):=exec (tbQ q) 400
noncomputable abbrev opsQ (q:Nat) (ops:Array Oper) (l:List Oper) (F:Fr) (st:S):Option (Fr×S):=runOps (tbQ q) (callX (tbQ q) (exQ q)) ops l F st
noncomputable def setL:List (Nat×AV)→T AV
 | []=>.e
 | (k,v) :: l=>(setL l).set 20 k (some v)
noncomputable def tpF (K:Nat):Fr:=⟨setL [(2,.lx .i64 0),(3,.lx .i64 1),(4,.lx .i64 2),(11,.b true),(12,.p 1 0),(13,.lx .i64 3),(14,.lx .i64 4),(15,.sl 0 0 K K)],229,[]⟩
def cfgRow:List AV:=[.s0,.s0,.s0,.s0,.s0,.s0]
def tpL (K:Nat):List (Option AObj):=[some (.row (lyRow K) 36 1 (.told 0)),some (.row cfgRow 31 6 .no)]
def headC:Code→Code
 | .seq a _=>a
 | c=>c
noncomputable def tpHead:Code:=headC (dropK 7 (bodyOf Tryz.f3))
noncomputable def tpTail:Code:=tailC (dropK 7 (bodyOf Tryz.f3))
noncomputable def tpOps:Array Oper:=headOps (dropK 2 tpTail)
noncomputable def tpRest:Code:=tailC (dropK 2 tpTail)
noncomputable def tpOps2:Array Oper:=headOps (dropK 1 tpRest)
noncomputable def tpRest2:Code:=tailC (dropK 1 tpRest)
noncomputable def bare (n:Nat):S:=⟨.e,n⟩
def stRing:List AV:=[.i .i64 0,.i .i64 0,.lx .i64 3,.i .i64 0,.lx .i64 3,.lx .i64 4,.i .i64 0,.lx .i64 4]
noncomputable def boxAt (st:S) (p:Nat):Bool :=
 match st.h.get p with
 | some (.row [.sl r 0 4 4] e 1 .no)=>Nat.beq e 71 && rowIs st r stRing 53 2 .no
 | _=>false
def jCell (p k:Nat):List AV:=[.i .i64 (Int.ofNat (1+k)),.i .i64 (bif Nat.beq k 0 then 1 else 2),.i .i64 (bif Nat.beq k 0 then 0 else 1),.i .i64 1,bif Nat.beq k 0 then .sl p 0 1 1 else .ly (Nat.pred k)]
def jRowQ (K p:Nat):List AV:=(List.range (Nat.succ K)).flatMap (jCell p)
noncomputable def jOk (K:Nat) (st:S) (J:Nat):Bool :=
 match st.h.get J with
 | some (.row l e 5 g) =>
  match (l[4]? : Option AV) with
  | some (.sl p _ _ _)=>Nat.beq e 39 && (AV.beqs l (jRowQ K p) && boxAt st p)
  | _=>false
 | _=>false
noncomputable def rOk (K:Nat) (st:S) (R:Nat):Bool :=
 match st.h.get R with
 | some (.row l e 2 g)=>Nat.beq e 44 && (List.range (Nat.succ K)).all fun k =>
  match (l[k * 2]? : Option AV),(l[k * 2+1]? : Option AV) with
  | some (.i .i64 a),some (.sl d 0 1 1)=>ieq a (Int.ofNat (1+k)) && rowIs st d [.i .i64 0,.i .i64 (Int.ofNat (ratI (1+k)))] 41 2 .no
  | _,_=>false
 | _=>false
def lnRow:List AV:=[.i .i64 0,.i .i64 1,.lx .i64 2,.i .i64 0,.i .i64 40000,.lx .i64 5,.i .i64 0,.lx .i64 7,.lx .i64 2,.i .i64 0,.i .i64 10000,.lx .i64 6]
noncomputable def tpSt (q n:Nat):S:=bif Nat.beq q 4 then (bare n).put1 (.row lnRow 59 6 .yes) else bare n
def tpAns (q n:Nat):AV:=bif Nat.beq q 4 then .tup [.sl n 0 2 2,.i .i64 0] else .tup [.s0,.i .i64 0]
noncomputable def tpE3 (q:Nat) (F:Fr) (n:Nat):Bool :=
 match F.put (some 167) (tpAns q n) with
 | some F1 =>
  match opsQ q tpOps2 (tpOps2.toList.drop 6) F1 (tpSt q n) with
  | some (F2,st2) =>
   match exQ q tpRest2 F2 st2 with
   | some (.ret,F3,st3) =>
    match F3.d,resX (tbQ q) F3.t st3.h Tryz.f3.results.toList with
    | [],some [.b true]=>true
    | _,_=>false
   | _=>false
  | none=>false
 | none=>false
noncomputable def tpE2 (q:Nat) (F:Fr) (n:Nat):Bool :=
 match F.put (some 152) (.tup [.p n 0,.i .i64 0]) with
 | some F1 =>
  match opsQ q tpOps (tpOps.toList.drop 2) F1 (bare (Nat.succ n)) with
  | some (F2,st2) =>
   match runK (exQ q) 1 tpRest F2 st2 with
   | some (F3,st3,_) =>
    match opsQ q tpOps2 (tpOps2.toList.take 5) F3 st3 with
    | some (F4,st4) =>
     match evl F4.t [.tmp 162,.tmp 166] with
     | some [.p c 0,.agg [.i .i64 (.ofNat 0),.i .i64 (.ofNat 10),.lx .i64 0,.lx .i64 1,.sl Ln 0 1 1]]=>Nat.beq c n && (rowIs st4 Ln [.i .i64 2,.lx .i64 2] 96 2 .no && (Nat.ble st4.nx 900000 && tpE3 q F4 st4.nx))
     | _=>false
    | none=>false
   | none=>false
  | none=>false
 | none=>false
noncomputable def tpE1 (q K:Nat) (F:Fr) (st:S):Bool :=
 match runK (exQ q) 2 tpTail F st with
 | some (F1,st1,_) =>
  match opsQ q tpOps (tpOps.toList.take 1) F1 st1 with
  | some (F2,st2) =>
   match evl F2.t [.tmp 151] with
   | some [.agg [.sl J 0 n cJ,.sl R 0 n2 cR,.s0,.s0,.s0,.s0]]=>Nat.beq n (Nat.succ K) && (Nat.beq n2 (Nat.succ K) && (Nat.ble n cJ && (Nat.ble n2 cR && (jOk K st2 J && (rOk K st2 R && (Nat.ble st2.nx 900000 && tpE2 q F2 st2.nx))))))
   | _=>false
  | none=>false
 | none=>false
noncomputable def tpChk (q K:Nat):Bool :=
 match exQ q tpHead (tpF K) (S.ofL (tpL K)) with
 | some (.nrm,F,st)=>tpE1 q K F st
 | _=>false
theorem tp_reg:isReg (dropK 2 tpTail)=true:=by kernel_rfl
theorem tp_call:isCall tpOps 1 7 152 [151]=true:=by kernel_rfl
theorem tp_reg2:isReg (dropK 1 tpRest)=true:=by kernel_rfl
theorem tp_call2:isCall tpOps2 5 8 167 [162,166]=true:=by kernel_rfl
end Go.Ex
namespace Go.Ex
open Go Go.RowKit
def KOk (K:Nat):Prop:=K=1∨K=2∨K=3∨K=4∨K=6∨K=9
noncomputable def tpAll:Bool:=[1,2,3,4,6,9].all fun K=>(List.range 5).all fun q=>tpChk q K
theorem tp_all:tpAll=true:=by kernel_rfl
theorem tp_ok {q K:Nat} (hq:q≤4) (hK:KOk K):tpChk q K=true:=by
 have h:=tp_all
 unfold tpAll at h
 simp only [List.all_eq_true,List.mem_range] at h
 refine h K ?_ q (by omega)
 unfold KOk at hK
 simp only [List.mem_cons,List.not_mem_nil,or_false]
 exact hK
end Go.Ex
