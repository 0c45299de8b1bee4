import Derived.Test.YtgliljnbajohhaaGreatDoorQ24
import Derived.Test.YtgliljnbajohhaaGreatDoorQ00
import Derived.Laws.BitsLemmas
import Derived.Laws.Bits64
import Derived.Lib.ItoaNum
import Derived.Test.YtgliljnbajohhaaGreatDoorQ19
import Derived.IntWalk
import Derived.Deep.DeepCutAuto
import Derived.Deep.CutBlock
set_option linter.unusedVariables false
set_option linter.unusedSimpArgs false
namespace Go.Proofs.YtgliljnbajohhaaGreatDoor
open Go.RowKit Go.Proofs.Top Go.Proofs.Geo
theorem infoBox:(Tryz.prog.info? 160).map (fun i=>(i.zero,i.size,i.bytes))=some (some (.agg #[.int .i64 0,.int .i64 0,.int .i64 0,.int .i64 0]),4,32):=by kernel_rfl
def flatB (l:List Bx):List Value:=l.flatMap fun x=>[.int .i64 x.1,.int .i64 x.2.1,.int .i64 x.2.2.1,.int .i64 x.2.2.2]
theorem flatB_len (l:List Bx):(flatB l).length=l.length * 4:=by
 induction l with
 | nil=>rfl
 | cons x l ih=>simp [flatB] at ih ⊢;omega
theorem flatB_one (l:List Bx):∀ u∈flatB l,u.oneCell'=true:=by
 intro u hu
 simp only [flatB,List.mem_flatMap] at hu
 obtain ⟨x,_,hu⟩:=hu
 simp at hu
 rcases hu with rfl | rfl | rfl | rfl <;> rfl
theorem flatB_get (l:List Bx) (k:Nat) (x:Bx) (h:l[k]? = some x):(flatB l)[k * 4]? = some (.int .i64 x.1)∧(flatB l)[k * 4+1]? = some (.int .i64 x.2.1)∧(flatB l)[k * 4+2]? = some (.int .i64 x.2.2.1)∧(flatB l)[k * 4+3]? = some (.int .i64 x.2.2.2):=by
 induction l generalizing k with
 | nil=>simp at h
 | cons y l ih =>
  cases k with
  | zero=>simp at h;subst h;simp [flatB]
  | succ k =>
   have h2:=ih k (by simpa using h)
   have e:∀ c,(k+1) * 4+c=(k * 4+c)+4:=fun c=>by omega
   have e0:(k+1) * 4=k * 4+4:=by omega
   rw [e 1,e 2,e 3,e0]
   simpa [flatB] using h2
set_option maxHeartbeats 4000000 in
theorem cloneB_any (ad:Addr) (cap:Nat) (l:List Bx) (w:World) (h:∀ j u,(flatB l)[j]? = some u→w.cell? (ad.add j)=some u) (hl:l.length≤10000) :
  Calls Tryz.prog 139 #[.slice (some ad) l.length cap] w fun e w'=>∃ v,e=.returned v∧w'.ownsRow w.heap.size 160 4 v l.length (flatB l)∧Kp w w':=by
 obtain ⟨i0,hi,hz0,hz1,hz2⟩:=info_parts infoBox
 have HI:=Lib.hid hi;have HZ0:=Lib.hid hz0;have HZ1:=Lib.hid hz1;have HZ2:=Lib.hid hz2
 have HN:=Lib.hid hl;have H:=Lib.hid h
 clear hi hz0 hz1 hz2 hl h
 have hq:=Lib.run_eql_slice_nil (P:=Tryz.prog) w 157 160 (some ad) l.length cap 0 0 Tryz.underlying157
 have HE:Hid ((w.alloc (.cells #[] 160)).ownsRow w.heap.size 160 4 (.slice (some ⟨w.heap.size,0,none⟩) 0 0) 0 []):=Lib.hid ⟨rfl,.inr ⟨w.heap.size,0, #[],rfl,Nat.le_refl _,heap_alloc_new w _,Nat.le_refl _,by unfold maxLen;omega,rfl,rfl⟩⟩
 go_enter Tryz.func139,Tryz.ntmps139
 go_wp2_with (at_builtin;refine wpList_append_own _ rfl (.tmp 5) (.tmp 6) 157 rfl w.heap.size 160 i0 (.agg #[.int .i64 0,.int .i64 0,.int .i64 0,.int .i64 0]) 4 32 Tryz.underlying157 HI.out HZ0.out HZ1.out HZ2.out rfl (by decide) _ _ _ rfl HE.out ad _ _ (flatB l) rfl (flatB_len _) (fun j u hj=>kp_cell (kp_alloc (kp_refl _) _) (H.out j u hj)) (flatB_one _) (by have:=HN.out;unfold maxLen;(try simp) <;> omega) (by have:=HN.out;(try simp) <;> omega) (by simp) ?_;intro v1 w1 hown hg _;have HO:Hid (w1.ownsRow w.heap.size 160 4 v1 l.length (flatB l)):=Lib.hid (by simpa using hown);have K1:Hid (Kp w w1):=Lib.hid (Below.grown (kp_alloc (kp_refl _) _) hg (Below.size (kp_alloc (kp_refl _) _)) (fun k hk=>(World.ownsRow.lt HE.out k hk).1));clear hown hg)
 go_ret
 exact ⟨_,rfl,HO.out,K1.out⟩
def upTo (k:Nat):List Int:=(List.range k).map fun j:Nat=>(j:Int)
theorem upTo_succ (k:Nat):upTo (k+1)=upTo k++[(k:Int)]:=by unfold upTo;rw [List.range_succ,List.map_append];rfl
theorem upTo_len (k:Nat):(upTo k).length=k:=by simp [upTo]
theorem upTo_get (k j:Nat) (h:j<k):(upTo k).getD j 0=(j:Int):=by
 unfold upTo
 rw [List.getD_eq_getElem?_getD,List.getElem?_map,List.getElem?_range h]
 rfl
set_option maxHeartbeats 16000000 in
set_option maxRecDepth 100000 in
theorem treeBuild_any (ad:Addr) (cap:Nat) (l:List Bx) (w:World) (h:∀ j u,(flatB l)[j]? = some u→w.cell? (ad.add j)=some u) (hl:l.length≤12) (h0:0<l.length) (hok:∀ x∈l,BxOk x) :
  Calls Tryz.prog 58 #[.slice (some ad) l.length cap] w fun e w'=>∃ tb,e=.returned (.tuple #[.pointer (some ⟨tb,0,none⟩),.int .i64 0])∧TreeIn w.heap.size tb l w'∧Kp w w'∧w.heap.size≤tb:=by
 have HCL:=Lib.hid (cloneB_any ad cap l w h (by omega))
 obtain ⟨n,hn⟩:∃ n,l.length=n:=⟨_,rfl⟩
 have HN:=Lib.hid hn
 obtain ⟨i0,hi,hz0,hz1,hz2⟩:=info_parts infoInt8
 have HI:=Lib.hid hi;have HZ0:=Lib.hid hz0;have HZ1:=Lib.hid hz1;have HZ2:=Lib.hid hz2
 rw [hn] at HCL hl h0 ⊢
 have HOK:=Lib.hid hok
 clear h hi hz0 hz1 hz2 hn hok
 have z0:¬ (1000:Int)<(n:Int):=by omega
 go_enter Tryz.func58,Tryz.ntmps58
 go_upto_region 4 with (go_at_call 139;refine HCL.out.mono ?_;rintro e w1 ⟨v1,rfl,ho1,hk1⟩;obtain ⟨gl,cl,hv1,hcl,hcell⟩:=own_cells ho1 h0;subst hv1;have hgl:=World.ownsRow.lt ho1 gl rfl;have HG0:=Lib.hid hgl.1)
 obtain ⟨tb,htb⟩:∃ p,w1.heap.size=p:=⟨_,rfl⟩
 obtain ⟨wt,hwt⟩:∃ X,w1.alloc (.cells #[.bool true,.slice (some ⟨gl,0,none⟩) n cl,.slice none 0 0,.slice none 0 0] 276)=X:=⟨_,rfl⟩
 have Kt:Kp w1 wt:=by rw [← hwt];exact kp_alloc (kp_refl _) _
 have rt:wt.heap[tb]? = some (.cells #[.bool true,.slice (some ⟨gl,0,none⟩) n cl,.slice none 0 0,.slice none 0 0] 276 (0,0)):=by rw [← hwt,← htb];exact heap_alloc_new _ _
 have st:wt.heap.size=tb+1:=by rw [← hwt,← htb];simp
 have hbx:BxAt wt gl l:=fun k x hx=>by
  obtain ⟨f0,f1,f2,f3⟩:=flatB_get l k x hx
  exact ⟨kp_cell Kt (hcell _ _ f0),kp_cell Kt (hcell _ _ f1),kp_cell Kt (hcell _ _ f2),kp_cell Kt (hcell _ _ f3)⟩
 have htw:w.heap.size≤tb:=by have:=Below.size hk1;omega
 have hgt:gl<tb:=by omega
 have KWT:=kp_trans hk1 Kt
 have ST:=Lib.hid st
 simp only [hwt,htb]
 clear hwt htb st Kt hk1 ho1 hcell HCL hgl
 go_wp2_with fail
 go_loopw [15] (fun i wr=>∃ (k:Nat) (ov:Value),k≤n∧i=.int .i64 k∧wr.heap[tb]? = some (.cells #[.bool true,.slice (some ⟨gl,0,none⟩) n cl,ov,.slice none 0 0] 276 (0,0))∧OwnI wr (tb+1) ov (upTo k)∧KX [tb] wt wr) (fun i _=>n - (intOf i).toNat)
 case atStart=>exact ⟨0,.slice none 0 0,by omega,rfl,rt,World.ownsRow_nil _ _ _ _,KX.refl _⟩
 case round =>
  obtain ⟨k,ov,hk,rfl,hrow,hown,hkx⟩:=hrel
  by_cases hlt:k<n
  ·have z1:(k:Int)<(n:Int):=by omega
   have wi:IntKind.i64.wrap ((k:Int)+1)=(k:Int)+1:=IntWalk.i64_in _ (by omega)
   have c2:wr.cell? ⟨tb,2,none⟩=some ov:=by rw [cell_of_row wr tb _ _ _ _ hrow];rfl
   have lt2:=cell_lt c2
   have HROW:=Lib.hid hrow;have HO:=Lib.hid hown;have HX:=Lib.hid hkx
   have hul:(upTo k).length=k:=upTo_len k
   clear hrow hown hkx
   go_wp2_with (at_builtin;refine wpList_append_own_at _ rfl _ _ 22 rfl (tb+1) 3 i0 (.int .i64 0) 1 8 Tryz.underlying22 HI.out HZ0.out HZ1.out HZ2.out rfl (by decide) _ _ _ rfl (HO.out.kp (kp_alloc (kp_refl _) _)) ⟨wr.heap.size,0,none⟩ 1 1 [.int .i64 (k:Int)] rfl rfl (cells_new wr [.int .i64 (k:Int)] _) (by simp [Value.oneCell']) (by unfold maxLen;omega) (by omega) (by have:=HX.out.size;have:=ST.out;simp;omega) ?_;intro v' w3 hown hgrow hnil hat;have HO3:Hid (OwnI w3 (tb+1) v' (upTo (k+1))):=Lib.hid (by rw [upTo_succ];exact OwnI.append (m:=[(k:Int)]) hown);have HLT:=Lib.hid (fun b (hb:ov.ownBlock=some b)=>World.ownsRow.lt HO.out b hb);have hv1:v'.oneCell'=true:=(by rcases hown.2 with ⟨hv,_⟩ | ⟨g',cp,cur,hv,_⟩ <;> subst hv <;> rfl);have hst:=fun (a:Addr) (m:Mode) (W:World)=>run_store Tryz.prog W a v' m hv1;have r3:=(hgrow.block tb (by have:=(Array.getElem?_eq_some_iff.1 HROW.out).1;simp;omega) (fun e=>by have:=HLT.out tb e.symm;omega)).trans (((kp_alloc (kp_refl wr) _).block tb (Array.getElem?_eq_some_iff.1 HROW.out).1).trans HROW.out);have c3:w3.cell? ⟨tb,2,none⟩=some ov:=(by rw [cell_of_row w3 tb _ _ _ _ r3];rfl);have f3:w3.frozen? ⟨tb,2,none⟩=false:=frozen_of_row w3 tb _ _ _ r3;have lt3:=cell_lt c3;have HR3:=Lib.hid r3;have HX3:Hid (KX [tb] wt w3):=Lib.hid ((HX.out.kp (kp_alloc (kp_refl _) _)).grown hgrow (fun b hb=>.inr (by have:=(HLT.out b hb).1;have:=ST.out;omega)));clear hown hgrow hnil hat r3)
   have hk3:KX [tb] w3 (w3.setCell ⟨tb,2,none⟩ v'):=(KX.refl w3).set (.inl (by simp)) _
   exact ⟨⟨k+1,v',by omega,by go_num,by rw [heap_setCell_same w3 tb 2 _ _ _ HR3.out];rfl,ownsRow_kx HO3.out hk3 (fun g hg=>by have:=World.ownsRow.lt HO3.out g hg;simp;omega),HX3.out.then hk3⟩,by simp [intOf];omega⟩
  ·obtain rfl:k=n:=by omega
   obtain ⟨go,co,hov,hco,hcell⟩:=own_cells hown (by rw [upTo_len];exact h0)
   subst hov
   have HGO:=Lib.hid (World.ownsRow.lt hown go rfl).1
   have HWR:=Lib.hid (show w.heap.size≤wr.heap.size by have:=hkx.size;have:=ST.out;omega)
   have hgo:=World.ownsRow.lt hown go rfl
   have hrw:RowT go (upTo k) wr:=by
    rcases hown with ⟨_,⟨hv,_⟩ | ⟨g',cp,cur,hv,_,hg,_⟩⟩
    ·cases hv
    ·simp only [Value.slice.injEq,Option.some.injEq,Addr.mk.injEq] at hv
     obtain ⟨⟨rfl,_⟩,_⟩:=hv
     refine ⟨cur,hg,fun j hj=>?_⟩
     have h:=hcell j (.int .i64 ((upTo k).getD j 0)) (by unfold intsV;rw [List.getElem?_map,List.getD_eq_getElem?_getD,List.getElem?_eq_getElem hj];rfl)
     rw [cell_of_row wr _ _ _ _ _ hg] at h
     exact h
   have hwz:wr.heap.size≥tb+1:=by have:=hkx.size;have:=ST.out;omega
   have htree:TrS tb gl go k cl co wr.heap.size l (upTo k) (.slice none 0 0) 0 [] wr:=⟨by rw [hrow,upTo_len],hbx.kx hkx (by simp;omega),hrw,World.ownsRow_nil _ _ _ _⟩
   rw [upTo_len] at hco
   have hpl:∀ q,q<k→∃ j:Nat,(upTo k).getD q 0=j∧j<k:=fun q hq=>⟨q,upTo_get k q hq,hq⟩
   have HPT:=Lib.hid (by have h:=part_any tb gl go k cl co wr.heap.size l HN.out (by omega) HOK.out ⟨by omega,by omega,by omega⟩ ⟨by omega,by omega,by omega⟩ hco k 0 0 true (upTo k) (.slice none 0 0) 0 [] wr h0 (by omega) (by have:2 ^ 1≤2 ^ (40 - k):=Nat.pow_le_pow_right (by decide) (by omega);omega) htree (by omega) (by rw [upTo_len];exact Nat.le_refl _) hpl (Nat.le_refl _);rw [show ((0:Nat):Int)=0 from rfl,show ((0+k:Nat):Int)=(k:Int) by omega] at h;exact h)
   have HKX:=Lib.hid hkx
   have z2:(0:Int)<(k:Int):=by omega
   have z3:¬ (k:Int)<(k:Int):=by omega
   clear hown hrow hkx hcell hrw htree hpl
   go_wp2_with (go_at_call 140;refine HPT.out.mono ?_;rintro e w8 ⟨rfl,L',nv',nn',xs',hs8,hp8,hn8,hn8b,hsm8,hcv8,hk8,hnv8⟩)
   go_ret2
   refine ⟨tb,rfl,⟨gl,go,cl,co,wr.heap.size,L',nv',nn',xs',⟨by rw [HN.out];exact hs8,by rw [HN.out];exact hcv8,hn8b,by rw [HN.out];exact hco,by rw [HN.out,hp8.len,upTo_len];exact Nat.le_refl _,by rw [hp8.len,upTo_len];omega,?_⟩,HG0.out,htw,by have:=HGO.out;omega,HWR.out⟩,?_,htw⟩
   ·rw [HN.out]
    obtain ⟨P,M,M',S,e1,e2,e3,e4,hpm⟩:=hp8
    have hP:P=[]:=List.eq_nil_of_length_eq_zero e3
    subst hP
    have hS:S=[]:=by
     have:=congrArg List.length e1
     rw [upTo_len] at this
     simp at this
     exact List.eq_nil_of_length_eq_zero (by omega)
    subst hS
    simp only [List.nil_append,List.append_nil] at e1 e2
    subst e2
    rw [List.take_of_length_le (by rw [hpm.length_eq];omega)]
    have e5:M=(List.range k).map fun j:Nat=>(j:Int):=e1.symm
    rw [← e5];exact hpm
   ·exact KX.after (KX.after KWT HKX.out (by simp;omega)) hk8 (by simp [Value.ownBlock];omega)
end Go.Proofs.YtgliljnbajohhaaGreatDoor
namespace Go.Proofs.Mon
def mchk (n:Int):Int:=if n < -1099511627775 then 5 else if 1099511627775<n then 5 else 0
def rchk (n:Int):Int:=if n<0 then 5 else if 1000000<n then 5 else 0
theorem mchk_zero {n:Int} (h:mchk n=0):-1099511627775≤n∧n≤1099511627775:=by
 unfold mchk at h
 split at h
 ·omega
 ·split at h
  ·omega
  ·omega
theorem rchk_zero {n:Int} (h:rchk n=0):0≤n∧n≤1000000:=by
 unfold rchk at h
 split at h
 ·omega
 ·split at h
  ·omega
  ·omega
end Go.Proofs.Mon
namespace Go.Proofs.Wide
theorem guess_ge {un y1 y0 u1:Nat} (h1:0<y1) (hu:u1<4294967296):(un * 4294967296+u1) / (y1 * 4294967296+y0)≤un / y1:=by
 rw [Nat.le_div_iff_mul_le h1]
 have h:=Nat.div_mul_le_self (un * 4294967296+u1) (y1 * 4294967296+y0)
 generalize (un * 4294967296+u1) / (y1 * 4294967296+y0)=Q at *
 have e:Q * (y1 * 4294967296+y0)=(Q * y1) * 4294967296+Q * y0:=by rw [Nat.mul_add,Nat.mul_assoc]
 rw [e] at h
 omega
theorem dig_lt {un y1 y0 u1:Nat} (hu:u1<4294967296) (hy:un<y1 * 4294967296+y0):(un * 4294967296+u1) / (y1 * 4294967296+y0)<4294967296:=by
 rw [Nat.div_lt_iff_lt_mul (by omega)]
 have:(un+1) * 4294967296≤(y1 * 4294967296+y0) * 4294967296:=Nat.mul_le_mul_right _ hy
 omega
theorem qY {q y1 y0:Nat}:q * (y1 * 4294967296+y0)=(q * y1) * 4294967296+q * y0:=by rw [Nat.mul_add,Nat.mul_assoc]
theorem dig_gt {un y1 y0 u1 q r:Nat} (h:q * y1+r=un) (hy:0<y1 * 4294967296+y0) (g:4294967296 * r+u1<q * y0):(un * 4294967296+u1) / (y1 * 4294967296+y0)<q:=by
 rw [Nat.div_lt_iff_lt_mul hy,qY];omega
theorem dig_eq {un y1 y0 u1 q r:Nat} (h:q * y1+r=un) (hy:0<y1 * 4294967296+y0) (hq:(un * 4294967296+u1) / (y1 * 4294967296+y0)≤q) (g:q * y0≤4294967296 * r+u1):(un * 4294967296+u1) / (y1 * 4294967296+y0)=q:=by
 refine Nat.le_antisymm hq ?_
 rw [Nat.le_div_iff_mul_le hy,qY];omega
theorem dig_small {un y1 y0 q r:Nat} (h:q * y1+r=un) (hy:un<y1 * 4294967296+y0) (h0:y0<4294967296) (hr:4294967296≤r):q<4294967296:=by
 rcases Nat.lt_or_ge q 4294967296 with k | k
 ·exact k
 ·have:=Nat.mul_le_mul_right y1 k;omega
theorem dig_out {un y1 y0 u1 q r:Nat} (h:q * y1+r=un) (hy:un<y1 * 4294967296+y0) (h0:y0<4294967296) (hq:(un * 4294967296+u1) / (y1 * 4294967296+y0)≤q) (hr:4294967296≤r):(un * 4294967296+u1) / (y1 * 4294967296+y0)=q:=by
 have k:=dig_small h hy h0 hr
 refine dig_eq h (by omega) hq ?_
 have:q * y0≤4294967296 * 4294967296:=Nat.mul_le_mul (by omega) (by omega)
 omega
set_option maxRecDepth 100000 in
theorem dig_bd {un y1 y0 q r:Nat} (h:q * y1+r=un) (hy:un<y1 * 4294967296+y0) (h0:y0<4294967296) (h1:2147483648≤y1):q≤4294967298:=by
 false_or_by_contra
 rename_i k
 obtain ⟨d,rfl⟩:∃ d,q=d+4294967299:=⟨q - 4294967299,by omega⟩
 rw [Nat.add_mul] at h
 have:=Nat.zero_le (d * y1)
 generalize d * y1=t at *
 omega
theorem two_digits' (B u a b Y:Nat) (hY:0<Y):(u * B * B+a * B+b) / Y=(u * B+a) / Y * B+((u * B+a) % Y * B+b) / Y ∧
  (u * B * B+a * B+b) % Y=((u * B+a) % Y * B+b) % Y:=by
 have e:=Nat.div_add_mod (u * B+a) Y
 generalize (u * B+a) / Y=Q at *
 generalize (u * B+a) % Y=R at *
 have e2:u * B * B+a * B+b=Y * (Q * B)+(R * B+b):=by
  have h1:u * B * B+a * B=(u * B+a) * B:=by rw [Nat.add_mul]
  rw [h1,← e,Nat.add_mul,Nat.mul_assoc];omega
 rw [e2,Nat.mul_add_div hY,Nat.mul_add_mod]
 exact ⟨rfl,rfl⟩
theorem two_digits (u a b Y:Nat) (hY:0<Y):(u * 4294967296 * 4294967296+a * 4294967296+b) / Y=(u * 4294967296+a) / Y * 4294967296+((u * 4294967296+a) % Y * 4294967296+b) / Y ∧
  (u * 4294967296 * 4294967296+a * 4294967296+b) % Y=((u * 4294967296+a) % Y * 4294967296+b) % Y:=two_digits' 4294967296 u a b Y hY
theorem moved_up (n y k:Nat) (hk:0<k):n * k / (y * k)=n / y∧n * k % (y * k) / k=n % y:=by
 refine ⟨Nat.mul_div_mul_right _ _ hk,?_⟩
 rw [Nat.mul_mod_mul_right,Nat.mul_div_cancel _ hk]
end Go.Proofs.Wide
namespace Go.Proofs.YtgliljnbajohhaaGreatDoor
open Go.RowKit Go.Proofs.Wide
theorem u64n {n:Nat} (h:n<18446744073709551616):IntKind.u64.wrap (n:Int)=(n:Int):=by rw [IntKind.wrap_u64];omega
theorem u64_mul (a b:Nat):IntKind.u64.wrap ((a:Int) * (b:Int))=((a * b % 18446744073709551616:Nat):Int):=by
 rw [IntKind.wrap_u64,Int.natCast_emod,Int.natCast_mul];rfl
theorem wraps64 (n:Int) (h0:0≤n) (h:n<2 ^ 64):IntKind.u64.wrap n=n:=by rw [IntKind.wrap_u64];omega
theorem mask32 {Y:Nat} (h:Y<18446744073709551616):bits .and .u64 (Y:Int) 4294967295=((Y % 4294967296:Nat):Int):=by
 have k:=bits_mask .u64 64 (by decide) wraps64 32 (by decide) (Y:Int) (by omega) (by omega)
 have e:((2:Int) ^ 32 - 1)=4294967295:=by decide
 have e2:((2:Int) ^ 32)=4294967296:=by decide
 rw [e,e2] at k
 rw [k];omega
theorem or_sum {a b s:Nat} (hb:b<2 ^ s) (h:a * 2 ^ s<18446744073709551616) (h2:b<18446744073709551616):bits .or .u64 ((a * 2 ^ s:Nat):Int) (b:Int)=((a * 2 ^ s+b:Nat):Int):=by
 rw [(bits_nat .u64 64 (by decide) wraps64 (a * 2 ^ s) b (by omega) (by omega)).2,← Nat.shiftLeft_eq,Nat.shiftLeft_add_eq_or_of_lt hb]
theorem lz_bd {y:Nat} (h0:0<y) (h:y<18446744073709551616):∃ s:Nat,s≤63∧64 - (Lib.bitLen y:Int)=(s:Int)∧y * 2 ^ s<18446744073709551616∧9223372036854775808≤y * 2 ^ s:=by
 obtain ⟨h1,h2,h3⟩:=Lib.bitLenAux_bounds 64 y (by omega) (by omega)
 have hb:Lib.bitLen y≤64:=Lib.bitLen_le y 64 (by omega) (by omega)
 have e:Lib.bitLenAux 64 y=Lib.bitLen y:=rfl
 rw [e] at h1 h2 h3
 generalize Lib.bitLen y=n at *
 refine ⟨64 - n,by omega,by omega,?_,?_⟩
 ·have:y * 2 ^ (64 - n)<2 ^ n * 2 ^ (64 - n):=Nat.mul_lt_mul_of_pos_right h3 (Nat.two_pow_pos _)
  rw [← Nat.pow_add,show n+(64 - n)=64 by omega] at this;omega
 ·have:2 ^ (n - 1) * 2 ^ (64 - n)≤y * 2 ^ (64 - n):=Nat.mul_le_mul_right _ h2
  rw [← Nat.pow_add,show n - 1+(64 - n)=63 by omega] at this;omega
theorem moved' {hi lo y T K C:Nat} (h:hi<y) (hl:lo<C) (hp:T * K=C) (hk2:0<T) (hk:0<K) :
  lo / T<K∧hi * K+lo / T<y * K∧(hi * C+lo) * K=(hi * K+lo / T) * C+lo * K % C:=by
 have hB:lo / T<K:=by rw [Nat.div_lt_iff_lt_mul hk2,Nat.mul_comm,hp];exact hl
 have e:=Nat.div_add_mod lo T
 have hm:lo % T<T:=Nat.mod_lt _ hk2
 generalize lo / T=B at *
 generalize lo % T=M at *
 have h1:(hi+1) * K≤y * K:=Nat.mul_le_mul_right _ h
 rw [Nat.add_mul] at h1
 have h2:lo * K=B * C+M * K:=by
  rw [← e,Nat.add_mul,Nat.mul_comm T B,Nat.mul_assoc,hp]
 have h3:M * K<T * K:=Nat.mul_lt_mul_of_pos_right hm hk
 rw [hp] at h3
 refine ⟨hB,by omega,?_⟩
 have h4:(B * C+M * K) % C=M * K:=by rw [Nat.mul_comm B,Nat.mul_add_mod,Nat.mod_eq_of_lt h3]
 have h5:(hi * C+lo) * K=hi * K * C+lo * K:=by rw [Nat.add_mul,Nat.mul_right_comm]
 have h6:(hi * K+B) * C=hi * K * C+B * C:=Nat.add_mul _ _ _
 rw [h5,h6,h2,h4];omega
theorem moved {hi lo y s:Nat} (hs:s≤63) (h:hi<y) (hl:lo<18446744073709551616) :
  lo / 2 ^ (64 - s)<2 ^ s∧hi * 2 ^ s+lo / 2 ^ (64 - s)<y * 2 ^ s∧(hi * 18446744073709551616+lo) * 2 ^ s=(hi * 2 ^ s+lo / 2 ^ (64 - s)) * 18446744073709551616+lo * 2 ^ s % 18446744073709551616 :=
 moved' h hl (by rw [← Nat.pow_add,show 64 - s+s=64 by omega]) (Nat.two_pow_pos _) (Nat.two_pow_pos _)
theorem u64_shl (a s:Nat) (h:a * 2 ^ s<18446744073709551616):IntKind.u64.wrap ((a:Int) * 2 ^ s)=((a * 2 ^ s:Nat):Int):=by
 have k:=u64_mul a (2 ^ s)
 rw [Int.natCast_pow,Nat.mod_eq_of_lt h] at k
 exact k
theorem u64_shl' (a s:Nat):IntKind.u64.wrap ((a:Int) * 2 ^ s)=((a * 2 ^ s % 18446744073709551616:Nat):Int):=by
 have k:=u64_mul a (2 ^ s)
 rw [Int.natCast_pow] at k
 exact k
theorem shr_nat (a s:Nat):(a:Int) / 2 ^ s=((a / 2 ^ s:Nat):Int):=by
 rw [Int.natCast_ediv,Int.natCast_pow];rfl
theorem wq {a b q:Nat} (h:a / b=q) (hq:q<18446744073709551616):IntKind.u64.wrap ((a:Int) / (b:Int))=(q:Int):=by
 have e:(a:Int) / (b:Int)=((a / b:Nat):Int):=rfl
 rw [e,h];exact u64n hq
theorem wrem {un q y1 r:Nat} (h:q * y1+r=un) (hu:un<18446744073709551616):∃ P:Nat,IntKind.u64.wrap ((q:Int) * (y1:Int))=(P:Int)∧IntKind.u64.wrap ((un:Int) - (P:Int))=(r:Int):=by
 obtain ⟨P,hP⟩:∃ P,q * y1=P:=⟨_,rfl⟩
 rw [hP] at h
 refine ⟨P,?_,?_⟩
 ·rw [u64_mul,hP,Nat.mod_eq_of_lt (by omega)]
 ·rw [IntKind.wrap_u64];omega
theorem wrest {u l D Y R:Nat} (h:u * 4294967296+l=D * Y+R) (hR:R<18446744073709551616):∃ U T:Nat,IntKind.u64.wrap ((u:Int) * 4294967296)=(U:Int)∧IntKind.u64.wrap ((D:Int) * (Y:Int))=(T:Int)∧IntKind.u64.wrap (IntKind.u64.wrap ((U:Int)+(l:Int)) - (T:Int))=(R:Int):=by
 obtain ⟨P,hP⟩:∃ P,D * Y=P:=⟨_,rfl⟩
 obtain ⟨V,hV⟩:∃ V,u * 4294967296=V:=⟨_,rfl⟩
 have e1:IntKind.u64.wrap ((u:Int) * 4294967296)=((V % 18446744073709551616:Nat):Int):=by rw [← hV];exact u64_mul u 4294967296
 have e2:IntKind.u64.wrap ((D:Int) * (Y:Int))=((P % 18446744073709551616:Nat):Int):=by rw [← hP];exact u64_mul D Y
 refine ⟨_,_,e1,e2,?_⟩
 rw [hP,hV] at h
 clear e1 e2 hP hV
 rw [IntKind.wrap_u64,IntKind.wrap_u64];omega
theorem wprod {a b:Nat} (ha:a<4294967296) (hb:b<4294967296):IntKind.u64.wrap ((a:Int) * (b:Int))=((a * b:Nat):Int):=by
 rw [u64_mul,Nat.mod_eq_of_lt]
 have:=Nat.mul_le_mul (show a≤4294967295 by omega) (show b≤4294967295 by omega)
 omega
theorem plan_a {hi lo y:Nat} (h:hi<y) (hy:y<18446744073709551616) (hlo:lo<18446744073709551616):∃ s Y y1 y0 A B un L l1 l0:Nat,
  (s≤63∧64 - (Lib.bitLen y:Int)=(s:Int)) ∧
  (9223372036854775808≤Y∧Y<18446744073709551616∧y1 * 4294967296+y0=Y∧y0<4294967296∧2147483648≤y1∧y1<4294967296∧un<Y∧l1 * 4294967296+l0=L∧l1<4294967296∧l0<4294967296) ∧
  ((un * 18446744073709551616+L) / Y=(hi * 18446744073709551616+lo) / y∧(un * 18446744073709551616+L) % Y / 2 ^ s=(hi * 18446744073709551616+lo) % y) ∧
  IntKind.u64.wrap ((y:Int) * 2 ^ s)=(Y:Int)∧(Y:Int) / 4294967296=(y1:Int)∧bits .and .u64 (Y:Int) 4294967295=(y0:Int)∧IntKind.u64.wrap ((hi:Int) * 2 ^ s)=(A:Int)∧(lo:Int) / 2 ^ (64 - s)=(B:Int)∧bits .or .u64 (A:Int) (B:Int)=(un:Int) ∧
  IntKind.u64.wrap ((lo:Int) * 2 ^ s)=(L:Int)∧(L:Int) / 4294967296=(l1:Int)∧bits .and .u64 (L:Int) 4294967295=(l0:Int):=by
 obtain ⟨s,hs,hlz,hY1,hY2⟩:=lz_bd (by omega) hy
 obtain ⟨hB,hun,hmv⟩:=moved hs h hlo
 have hmu:=moved_up (hi * 18446744073709551616+lo) y (2 ^ s) (Nat.two_pow_pos s)
 rw [hmv] at hmu
 have hA:hi * 2 ^ s<18446744073709551616:=Nat.lt_of_le_of_lt (Nat.le_add_right _ _) (Nat.lt_trans hun hY1)
 have hB2:lo / 2 ^ (64 - s)<18446744073709551616:=Nat.lt_of_le_of_lt (Nat.div_le_self _ _) hlo
 have hL:lo * 2 ^ s % 18446744073709551616<18446744073709551616:=Nat.mod_lt _ (by omega)
 refine ⟨s,y * 2 ^ s,y * 2 ^ s / 4294967296,y * 2 ^ s % 4294967296,hi * 2 ^ s,lo / 2 ^ (64 - s),hi * 2 ^ s+lo / 2 ^ (64 - s),lo * 2 ^ s % 18446744073709551616,lo * 2 ^ s % 18446744073709551616 / 4294967296,lo * 2 ^ s % 18446744073709551616 % 4294967296,
  ⟨hs,hlz⟩,?_,hmu,u64_shl y s hY1,rfl,mask32 hY1,u64_shl hi s hA,shr_nat lo (64 - s),or_sum hB hA hB2,u64_shl' lo s,rfl,mask32 hL⟩
 clear hmu hmv
 generalize y * 2 ^ s=Y at *
 generalize lo * 2 ^ s % 18446744073709551616=L at *
 refine ⟨hY2,hY1,?_,?_,?_,?_,hun,?_,?_,?_⟩ <;> omega
theorem plan_b {u l Y y1 y0:Nat} (hY:y1 * 4294967296+y0=Y) (h0:y0<4294967296) (h1:2147483648≤y1) (hu:u<Y) (hl:l<4294967296):∃ D R q r:Nat,
  u * 4294967296+l=D * Y+R∧R<Y∧D<4294967296∧(u * 4294967296+l) / Y=D∧(u * 4294967296+l) % Y=R∧u / y1=q∧q * y1+r=u∧D≤q∧q≤4294967298∧r<y1 ∧
  (∀ a b:Nat,a * y1+b=u→4294967296 * b+l<a * y0→D<a)∧(∀ a b:Nat,a * y1+b=u→D≤a→a * y0≤4294967296 * b+l→D=a)∧(∀ a b:Nat,a * y1+b=u→D≤a→4294967296≤b→D=a):=by
 have hdm:=Nat.div_add_mod (u * 4294967296+l) Y
 rw [Nat.mul_comm] at hdm
 have s1:u / y1 * y1+u % y1=u:=by rw [Nat.mul_comm];exact Nat.div_add_mod _ _
 subst hY
 exact ⟨_,_,_,u % y1,hdm.symm,Nat.mod_lt _ (by omega),dig_lt hl hu,rfl,rfl,rfl,s1,guess_ge (by omega) hl,dig_bd s1 hu h0 h1,Nat.mod_lt _ (by omega),fun a b h g=>dig_gt h (by omega) g,fun a b h hq g=>dig_eq h (by omega) hq g,fun a b h hq g=>dig_out h hu h0 hq g⟩
end Go.Proofs.YtgliljnbajohhaaGreatDoor
namespace Go.Proofs.YtgliljnbajohhaaGreatDoor
open Go.RowKit Go.Proofs.Geo Go.Proofs.Wide
def DivRel (y1 u D a b:Nat):Prop:=a * y1+b=u∧D≤a∧a≤4294967298∧b<4294967296
theorem div_zero (lo y:Nat) (hy0:0<y) (hy:y<18446744073709551616) (hlo:lo<18446744073709551616) (w:World):Calls Tryz.prog 373 #[.int .u64 0,.int .u64 lo,.int .u64 y] w fun e w'=>e=.returned (.tuple #[.int .u64 (lo / y:Nat),.int .u64 (lo % y:Nat)])∧Kp w w':=by
 have e1:((y:Int) == 0)=false:=by simp;omega
 have e3:(0:Int)<(y:Int):=by omega
 have e4:¬ (y:Int)≤0:=by omega
 have e5:¬ y=0:=by omega
 have q1:(lo:Int).tdiv (y:Int)=((lo / y:Nat):Int):=by rw [Int.tdiv_eq_ediv_of_nonneg (by omega)];rfl
 have q2:(lo:Int).tmod (y:Int)=((lo % y:Nat):Int):=by rw [Int.tmod_eq_emod_of_nonneg (by omega)];rfl
 have hq:lo / y≤lo:=Nat.div_le_self _ _
 have hr:lo % y≤lo:=Nat.mod_le _ _
 generalize lo / y=q at *
 generalize lo % y=r at *
 go_enter Tryz.func373,Tryz.ntmps373
 go_wp2_with fail
 go_quiet (fail)
 go_wp2_with fail
 go_ret2
 exact ⟨rfl,kp_drewN (kp_refl _) _⟩
set_option maxHeartbeats 8000000 in
set_option maxRecDepth 100000 in
theorem div_some (hi lo y:Nat) (hi0:hi≠0) (h:hi<y) (hy:y<18446744073709551616) (hlo:lo<18446744073709551616) (w:World):Calls Tryz.prog 373 #[.int .u64 hi,.int .u64 lo,.int .u64 y] w fun e w'=>e=.returned (.tuple #[.int .u64 ((hi * 18446744073709551616+lo) / y:Nat),.int .u64 ((hi * 18446744073709551616+lo) % y:Nat)])∧Kp w w':=by
 obtain ⟨s,Y,y1,y0,A,B,un,L,l1,l0,⟨hs,hlz⟩,⟨hY2,hY1,hYe,hy0,hy1,hy1',hun,hLe,hl1,hl0⟩,hmu,f1,f2,f3,f4,f5,f6,f7,f8,f9⟩:=plan_a h hy hlo
 have F:=Lib.hid (And.intro f1 (And.intro f2 (And.intro f3 (And.intro f4 (And.intro f5 (And.intro f6 (And.intro f7 (And.intro f8 f9))))))))
 clear f1 f2 f3 f4 f5 f6 f7 f8 f9
 obtain ⟨D1,R1,q1,r1,p1,p2,p3,p4,p5,p6,p7,p8,p9,p10,GT1,EQ1,OUT1⟩:=plan_b (u:=un) (l:=l1) hYe hy0 hy1 hun hl1
 obtain ⟨D0,R0,q0,r0,u1,u2,u3,u4,u5,u6,u7,u8,u9,u10,GT0,EQ0,OUT0⟩:=plan_b (u:=R1) (l:=l0) hYe hy0 hy1 p2 hl0
 have HQ:Hid ((hi * 18446744073709551616+lo) / y=D1 * 4294967296+D0∧(hi * 18446744073709551616+lo) % y=R0 / 2 ^ s):=by
  have hh:=two_digits un l1 l0 Y (by omega)
  have e:un * 4294967296 * 4294967296+l1 * 4294967296+l0=un * 18446744073709551616+L:=by rw [← hLe,Nat.mul_assoc,Nat.add_assoc]
  rw [e,p4,p5,u4,u5] at hh
  rw [hh.1,hh.2] at hmu
  exact Lib.hid ⟨hmu.1.symm,hmu.2.symm⟩
 clear hmu
 obtain ⟨P1,a1,a2⟩:=wrem (un:=un) p7 (by omega)
 obtain ⟨P0,c1,c2⟩:=wrem (un:=R1) u7 (by omega)
 obtain ⟨U1,T1,d1,d2,d3⟩:=wrest p1 (by omega)
 obtain ⟨U0,T0,e1,e2,e3⟩:=wrest u1 (by omega)
 have b1:=wq p6 (by omega)
 have b0:=wq u6 (by omega)
 have W1:=Lib.hid (And.intro b1 (And.intro a1 a2))
 have W2:=Lib.hid (And.intro d1 (And.intro d2 d3))
 have W3:=Lib.hid (And.intro b0 (And.intro c1 c2))
 have e4:=shr_nat R0 s
 obtain ⟨X,hX⟩:∃ X,R0 / 2 ^ s=X:=⟨_,rfl⟩
 rw [hX] at e4 HQ
 clear hX
 have W4:=Lib.hid (And.intro e1 (And.intro e2 (And.intro e3 e4)))
 have I1:=Lib.hid p7
 have I0:=Lib.hid u7
 have HG1:=Lib.hid GT1;have HE1:=Lib.hid EQ1;have HO1:=Lib.hid OUT1
 have HG0:=Lib.hid GT0;have HE0:=Lib.hid EQ0;have HO0:=Lib.hid OUT0
 clear b1 a1 a2 d1 d2 d3 b0 c1 c2 e1 e2 e3 e4 p7 u7 GT1 EQ1 OUT1 GT0 EQ0 OUT0 p1 u1 p4 p5 p6 u4 u5 u6 hLe hYe
 have g1:((y:Int) == 0)=false:=by simp;omega
 have g2:((hi:Int) == 0)=false:=by simp;omega
 have g3:(hi:Int)<(y:Int):=by omega
 have g4:¬ (y:Int)≤(hi:Int):=by omega
 have g5:(s:Int)≤63:=by omega
 have g9:(s:Int)≤64:=by omega
 have g10:s≤64:=by omega
 have g6:¬ y1=0:=by omega
 have g7:(D1:Int)<4294967296:=by omega
 have g8:(D0:Int)<4294967296:=by omega
 have HLZ:=Lib.hid hlz
 obtain ⟨f1,f2,f3,f4,f5,f6,f7,f8,f9⟩:=F.out
 obtain ⟨b1,a1,a2⟩:=W1.out
 clear hlz
 go_enter Tryz.func373,Tryz.ntmps373
 go_upto_block 0 with (go_at_call 417;refine (lz64 _ hy _).mono ?_;rintro e w' ⟨rfl,rfl⟩;rw [HLZ.out])
 clear f1 f2 f3 f4 f5 f6 f7 f8 f9 b1 a1 a2
 go_cut [15] (fun v wx=>v=.int .u64 (D1:Nat)∧w=wx)
 case first =>
  go_wp2_with fail
  go_loop [15,16] (fun v t=>∃ a b:Nat,v=.int .u64 a∧t=.int .u64 b∧DivRel y1 un D1 a b) (fun v _=>(intOf v).toNat)
  case atStart=>exact ⟨q1,r1,rfl,rfl,I1.out,p8,p9,Nat.lt_trans p10 hy1'⟩
  case round =>
   obtain ⟨a,b,rfl,rfl,hab,hD,hbd,hb⟩:=hrel
   have cb:(b:Int)<4294967296:=by omega
   by_cases c1:4294967296≤a
   ·have c1':(4294967296:Int)≤(a:Int):=by omega
    obtain ⟨a',ha'⟩:∃ a',a=a'+1:=⟨a - 1,by omega⟩
    have ea:(a:Int) - 1=(a':Int):=by omega
    have ea1:(1:Int)≤(a:Int):=by omega
    have ew:IntKind.u64.wrap (a':Int)=(a':Int):=u64n (by omega)
    have hab':a' * y1+(b+y1)=un:=by rw [ha',Nat.add_mul] at hab;omega
    have hD':D1≤a':=by omega
    have HAB:=Lib.hid hab'
    have HO:=Lib.hid (HO1.out a' (b+y1) hab' hD')
    obtain ⟨b2,hb2⟩:∃ b2,b+y1=b2:=⟨_,rfl⟩
    have eb:(b:Int)+(y1:Int)=(b2:Int):=by omega
    rw [hb2] at HO HAB
    have ebw:IntKind.u64.wrap (b2:Int)=(b2:Int):=u64n (by omega)
    by_cases c2:4294967296≤b2
    ·have c2':(4294967296:Int)≤(b2:Int):=by omega
     have HD:=Lib.hid (HO.out c2)
     clear c2 hab hab' ha' hD hbd hb hD' hb2 c1
     go_wp2_with fail
     go_meet
     exact ⟨by rw [HD.out],rfl⟩
    ·have c2':decide ((4294967296:Int)≤(b2:Int))=false:=decide_eq_false (by omega)
     have HP:=Lib.hid (show D1≤a'∧a'≤4294967298∧b2<4294967296∧a'<a from ⟨hD',by omega,by omega,by omega⟩)
     clear c2 hab hab' ha' hD hbd hb hD' hb2 c1
     go_wp2_with fail
     exact ⟨⟨a',b2,by first | rfl | go_num,by first | rfl | go_num,HAB.out,HP.out.1,HP.out.2.1,HP.out.2.2.1⟩,by have:=HP.out;simp [intOf];omega⟩
   ·have c1':(a:Int)<4294967296:=by omega
    have hM:=wprod (a:=a) (b:=y0) (by omega) hy0
    have g:=HG1.out a b hab
    have g2:=HE1.out a b hab hD
    obtain ⟨M,hMe⟩:∃ M,a * y0=M:=⟨_,rfl⟩
    rw [hMe] at hM g g2
    clear hMe
    have HM:=Lib.hid hM
    clear hM
    obtain ⟨S,hS⟩:∃ S,4294967296 * b+l1=S:=⟨_,rfl⟩
    have eS:(4294967296:Int) * (b:Int)+(l1:Int)=(S:Int):=by omega
    have eSw:IntKind.u64.wrap (S:Int)=(S:Int):=u64n (by omega)
    rw [hS] at g g2
    clear hS
    by_cases c3:S<M
    ·have c3':(S:Int)<(M:Int):=by omega
     have gD:=g c3
     clear g g2
     obtain ⟨a',ha'⟩:∃ a',a=a'+1:=⟨a - 1,by omega⟩
     have ea:(a:Int) - 1=(a':Int):=by omega
     have ea1:(1:Int)≤(a:Int):=by omega
     have ew:IntKind.u64.wrap (a':Int)=(a':Int):=u64n (by omega)
     have hab':a' * y1+(b+y1)=un:=by rw [ha',Nat.add_mul] at hab;omega
     have hD':D1≤a':=by omega
     have HAB:=Lib.hid hab'
     have HO:=Lib.hid (HO1.out a' (b+y1) hab' hD')
     obtain ⟨b2,hb2⟩:∃ b2,b+y1=b2:=⟨_,rfl⟩
     have eb:(b:Int)+(y1:Int)=(b2:Int):=by omega
     rw [hb2] at HO HAB
     have ebw:IntKind.u64.wrap (b2:Int)=(b2:Int):=u64n (by omega)
     have hM2:=HM.out
     by_cases c2:4294967296≤b2
     ·have c2':(4294967296:Int)≤(b2:Int):=by omega
      have HD:=Lib.hid (HO.out c2)
      clear c2 hab hab' ha' hD hbd hb hD' hb2 c1 c3 gD
      go_wp2_with fail
      go_meet
      exact ⟨by rw [HD.out],rfl⟩
     ·have c2':decide ((4294967296:Int)≤(b2:Int))=false:=decide_eq_false (by omega)
      have HP:=Lib.hid (show D1≤a'∧a'≤4294967298∧b2<4294967296∧a'<a from ⟨hD',by omega,by omega,by omega⟩)
      clear c2 hab hab' ha' hD hbd hb hD' hb2 c1 c3 gD
      go_wp2_with fail
      exact ⟨⟨a',b2,by first | rfl | go_num,by first | rfl | go_num,HAB.out,HP.out.1,HP.out.2.1,HP.out.2.2.1⟩,by have:=HP.out;simp [intOf];omega⟩
    ·have c3':decide (S<M)=false:=decide_eq_false (by omega)
     have HD:=Lib.hid (g2 (by omega))
     have c1d:decide ((4294967296:Int)≤(a:Int))=false:=decide_eq_false (by omega)
     clear g g2 hab c1 c3 hD hbd hb c1'
     have hM:=HM.out
     go_wp2_with fail
     go_meet
     exact ⟨by rw [HD.out],rfl⟩
 case rest =>
  obtain ⟨rfl,rfl⟩:=hcut
  obtain ⟨d1,d2,d3⟩:=W2.out
  obtain ⟨b0,c1,c2⟩:=W3.out
  go_upto_block 2 with fail
  clear d1 d2 d3 b0 c1 c2
  go_cut [18] (fun v wx=>v=.int .u64 (D0:Nat)∧w=wx)
  case first =>
   go_wp2_with fail
   go_loop [18,16] (fun v t=>∃ a b:Nat,v=.int .u64 a∧t=.int .u64 b∧DivRel y1 R1 D0 a b) (fun v _=>(intOf v).toNat)
   case atStart=>exact ⟨q0,r0,rfl,rfl,I0.out,u8,u9,Nat.lt_trans u10 hy1'⟩
   case round =>
    obtain ⟨a,b,rfl,rfl,hab,hD,hbd,hb⟩:=hrel
    have cb:(b:Int)<4294967296:=by omega
    by_cases c1:4294967296≤a
    ·have c1':(4294967296:Int)≤(a:Int):=by omega
     obtain ⟨a',ha'⟩:∃ a',a=a'+1:=⟨a - 1,by omega⟩
     have ea:(a:Int) - 1=(a':Int):=by omega
     have ea1:(1:Int)≤(a:Int):=by omega
     have ew:IntKind.u64.wrap (a':Int)=(a':Int):=u64n (by omega)
     have hab':a' * y1+(b+y1)=R1:=by rw [ha',Nat.add_mul] at hab;omega
     have hD':D0≤a':=by omega
     have HAB:=Lib.hid hab'
     have HO:=Lib.hid (HO0.out a' (b+y1) hab' hD')
     obtain ⟨b2,hb2⟩:∃ b2,b+y1=b2:=⟨_,rfl⟩
     have eb:(b:Int)+(y1:Int)=(b2:Int):=by omega
     rw [hb2] at HO HAB
     have ebw:IntKind.u64.wrap (b2:Int)=(b2:Int):=u64n (by omega)
     by_cases c2:4294967296≤b2
     ·have c2':(4294967296:Int)≤(b2:Int):=by omega
      have HD:=Lib.hid (HO.out c2)
      clear c2 hab hab' ha' hD hbd hb hD' hb2 c1
      go_wp2_with fail
      go_meet
      exact ⟨by rw [HD.out],rfl⟩
     ·have c2':decide ((4294967296:Int)≤(b2:Int))=false:=decide_eq_false (by omega)
      have HP:=Lib.hid (show D0≤a'∧a'≤4294967298∧b2<4294967296∧a'<a from ⟨hD',by omega,by omega,by omega⟩)
      clear c2 hab hab' ha' hD hbd hb hD' hb2 c1
      go_wp2_with fail
      exact ⟨⟨a',b2,by first | rfl | go_num,by first | rfl | go_num,HAB.out,HP.out.1,HP.out.2.1,HP.out.2.2.1⟩,by have:=HP.out;simp [intOf];omega⟩
    ·have c1':(a:Int)<4294967296:=by omega
     have hM:=wprod (a:=a) (b:=y0) (by omega) hy0
     have g:=HG0.out a b hab
     have g2:=HE0.out a b hab hD
     obtain ⟨M,hMe⟩:∃ M,a * y0=M:=⟨_,rfl⟩
     rw [hMe] at hM g g2
     clear hMe
     have HM:=Lib.hid hM
     clear hM
     obtain ⟨S,hS⟩:∃ S,4294967296 * b+l0=S:=⟨_,rfl⟩
     have eS:(4294967296:Int) * (b:Int)+(l0:Int)=(S:Int):=by omega
     have eSw:IntKind.u64.wrap (S:Int)=(S:Int):=u64n (by omega)
     rw [hS] at g g2
     clear hS
     by_cases c3:S<M
     ·have c3':(S:Int)<(M:Int):=by omega
      have gD:=g c3
      clear g g2
      obtain ⟨a',ha'⟩:∃ a',a=a'+1:=⟨a - 1,by omega⟩
      have ea:(a:Int) - 1=(a':Int):=by omega
      have ea1:(1:Int)≤(a:Int):=by omega
      have ew:IntKind.u64.wrap (a':Int)=(a':Int):=u64n (by omega)
      have hab':a' * y1+(b+y1)=R1:=by rw [ha',Nat.add_mul] at hab;omega
      have hD':D0≤a':=by omega
      have HAB:=Lib.hid hab'
      have HO:=Lib.hid (HO0.out a' (b+y1) hab' hD')
      obtain ⟨b2,hb2⟩:∃ b2,b+y1=b2:=⟨_,rfl⟩
      have eb:(b:Int)+(y1:Int)=(b2:Int):=by omega
      rw [hb2] at HO HAB
      have ebw:IntKind.u64.wrap (b2:Int)=(b2:Int):=u64n (by omega)
      have hM2:=HM.out
      by_cases c2:4294967296≤b2
      ·have c2':(4294967296:Int)≤(b2:Int):=by omega
       have HD:=Lib.hid (HO.out c2)
       clear c2 hab hab' ha' hD hbd hb hD' hb2 c1 c3 gD
       go_wp2_with fail
       go_meet
       exact ⟨by rw [HD.out],rfl⟩
      ·have c2':decide ((4294967296:Int)≤(b2:Int))=false:=decide_eq_false (by omega)
       have HP:=Lib.hid (show D0≤a'∧a'≤4294967298∧b2<4294967296∧a'<a from ⟨hD',by omega,by omega,by omega⟩)
       clear c2 hab hab' ha' hD hbd hb hD' hb2 c1 c3 gD
       go_wp2_with fail
       exact ⟨⟨a',b2,by first | rfl | go_num,by first | rfl | go_num,HAB.out,HP.out.1,HP.out.2.1,HP.out.2.2.1⟩,by have:=HP.out;simp [intOf];omega⟩
     ·have c3':decide (S<M)=false:=decide_eq_false (by omega)
      have HD:=Lib.hid (g2 (by omega))
      have c1d:decide ((4294967296:Int)≤(a:Int))=false:=decide_eq_false (by omega)
      clear g g2 hab c1 c3 hD hbd hb c1'
      have hM:=HM.out
      go_wp2_with fail
      go_meet
      exact ⟨by rw [HD.out],rfl⟩
  case rest =>
   obtain ⟨rfl,rfl⟩:=hcut
   obtain ⟨e1,e2,e3,e4⟩:=W4.out
   clear F W1 W2 W3 HLZ HG1 HE1 HO1 HG0 HE0 HO0 I1 I0 W4
   go_wp2_with fail
   go_ret2
   exact ⟨by rw [HQ.out.1,HQ.out.2];rfl,kp_refl _⟩
theorem div64_any (hi lo y:Nat) (h:hi<y) (hy:y<18446744073709551616) (hlo:lo<18446744073709551616) (w:World):Calls Tryz.prog 373 #[.int .u64 hi,.int .u64 lo,.int .u64 y] w fun e w'=>e=.returned (.tuple #[.int .u64 ((hi * 18446744073709551616+lo) / y:Nat),.int .u64 ((hi * 18446744073709551616+lo) % y:Nat)])∧Kp w w':=by
 by_cases h0:hi=0
 ·subst h0
  have:=div_zero lo y (by omega) hy hlo w
  simpa using this
 ·exact div_some hi lo y h0 h hy hlo w
end Go.Proofs.YtgliljnbajohhaaGreatDoor
