import Derived.Test.YtgliljnbajohhaaGreatDoorQ38
import Derived.Test.YtgliljnbajohhaaGreatDoorQ40
import Derived.Test.YtgliljnbajohhaaGreatDoorQ20
import Derived.Test.YtgliljnbajohhaaGreatDoorQ45
import Derived.Test.YtgliljnbajohhaaGreatDoorProg
import GoSem.ClaimGoes
import Derived.KernelRfl
set_option linter.unusedVariables false
set_option linter.unusedSimpArgs false
namespace Go.Proofs.YtgliljnbajohhaaGreatDoor
open Go.RowKit Go.Proofs.Top Go.Proofs.Geo Go.Ex
theorem infoReg2:(Tryz.prog.info? 36).map (fun i=>(i.zero,i.size,i.bytes))=some (some (.agg #[.slice none 0 0]),1,24):=by kernel_rfl
set_option maxHeartbeats 8000000 in
set_option maxRecDepth 100000 in
theorem law_walk (us vs:List Int) (u v:Value) (x y am:Int) (w:World) (hu:RdI w u us) (hv:RdI w v vs) (hx:I64 x) (hy:I64 y) (ha:I64 am) :
  Calls Tryz.prog 3 #[u,v,.int .i64 x,.int .i64 y,.int .i64 am] w fun e w'=>e=.returned (.bool true)∧Kp w w':=by
 have HAW:=Lib.hid (fun w'=>awake_any w')
 have HPK:Hid (∀ (i:Int) (w':World),Calls Tryz.prog 5 #[.int .i64 i,.int .i64 100] w' fun e w''=>e=.returned (.int .i64 (pickN i 100:Nat))∧Kp w' w''):=Lib.hid (fun i w'=>pick_det i 100 (by omega) (by omega) w')
 have HBX:=Lib.hid (fun a b c d w'=>box_any a b c d w')
 obtain ⟨i0,hi,hz0,hz1,hz2⟩:=info_parts infoReg2
 have JI:=Lib.hid hi;have JZ0:=Lib.hid hz0;have JZ1:=Lib.hid hz1;have JZ2:=Lib.hid hz2
 clear hi hz0 hz1 hz2
 obtain ⟨pu,cu,rfl,hu2⟩:=hu.shape
 obtain ⟨pv,cv,rfl,hv2⟩:=hv.shape
 have iat:∀ (l:List Int) (b off:Nat),IntsAt w b off l→∀ k,k<l.length→w.cell? ⟨b,off+k,none⟩=some (.int .i64 (l.getD k 0)):=fun l b off h k hk=>by rw [List.getD_eq_getElem?_getD,List.getElem?_eq_getElem hk];exact h k hk
 have IAT:=Lib.hid iat
 clear iat
 obtain ⟨m,hm⟩:∃ m,us.length=m:=⟨_,rfl⟩
 obtain ⟨n,hn⟩:∃ n,vs.length=n:=⟨_,rfl⟩
 have HU:=Lib.hid hu;have HV:=Lib.hid hv;have HU2:=Lib.hid hu2;have HV2:=Lib.hid hv2;have HM:=Lib.hid hm;have HN:=Lib.hid hn
 rw [hm,hn]
 clear hu hv hu2 hv2 hm hn
 go_enter Tryz.func3,Tryz.ntmps3
 go_upto_region 2 with (go_at_call 4;refine (HAW.out _).mono ?_;rintro e w1 ⟨rfl,hk1⟩)
 by_cases c0:(m:Int)<1
 ·go_wp2_with fail
  go_ret
  exact ⟨rfl,hk1⟩
 by_cases c1:(3:Int)<(m:Int)
 ·go_wp2_with fail
  go_ret
  exact ⟨rfl,hk1⟩
 by_cases c2:(n:Int)<1
 ·go_wp2_with fail
  go_ret
  exact ⟨rfl,hk1⟩
 by_cases c3:(3:Int)<(n:Int)
 ·go_wp2_with fail
  go_ret
  exact ⟨rfl,hk1⟩
 by_cases c4:am<0
 ·go_wp2_with fail
  go_ret
  exact ⟨rfl,hk1⟩
 by_cases c5:(1099511627775:Int)<am
 ·go_wp2_with fail
  go_ret
  exact ⟨rfl,hk1⟩
 by_cases c6:x < -1000
 ·go_wp2_with fail
  go_ret
  exact ⟨rfl,hk1⟩
 by_cases c7:(1000:Int)<x
 ·go_wp2_with fail
  go_ret
  exact ⟨rfl,hk1⟩
 by_cases c8:y < -1000
 ·go_wp2_with fail
  go_ret
  exact ⟨rfl,hk1⟩
 by_cases c9:(1000:Int)<y
 ·go_wp2_with fail
  go_ret
  exact ⟨rfl,hk1⟩
 go_upto_region 8 with fail
 obtain ⟨W1,hW1⟩:∃ W,w1.alloc (.cells #[.slice none 0 0,.slice none 0 0,.slice none 0 0,.slice none 0 0,.slice none 0 0,.slice none 0 0] 31)=W:=⟨_,rfl⟩
 obtain ⟨s0,hs0⟩:∃ t,w1.heap.size=t:=⟨_,rfl⟩
 have hk0:Kp w1 W1:=by rw [← hW1];exact kp_alloc (kp_refl _) _
 have q0:W1.heap[s0]? = some (.cells #[.slice none 0 0,.slice none 0 0,.slice none 0 0,.slice none 0 0,.slice none 0 0,.slice none 0 0] 31 (0,0)):=by rw [← hW1,← hs0];exact heap_alloc_new _ _
 have hsw:w.heap.size≤s0:=by rw [← hs0];exact Below.size hk1
 simp only [hW1,hs0]
 have Q0:=Lib.hid q0;have HSW:=Lib.hid hsw
 replace hk1:=kp_trans hk1 hk0
 clear hW1 hs0 hk0 q0 hsw
 have hm3:1≤m∧m≤3:=by omega
 have hn3:1≤n∧n≤3:=by omega
 have hune:us≠[]:=fun e=>by have:=HM.out;rw [e] at this;simp at this;omega
 have hvne:vs≠[]:=fun e=>by have:=HN.out;rw [e] at this;simp at this;omega
 obtain ⟨bu,ou,rfl,iu⟩:=HU2.out.resolve_left hune
 obtain ⟨bv,ov,rfl,iv⟩:=HV2.out.resolve_left hvne
 have IU:=Lib.hid iu;have IV:=Lib.hid iv;have HK1:=Lib.hid hk1
 obtain ⟨s1,hs1⟩:∃ t,W1.heap.size=t:=⟨_,rfl⟩
 have HS1:=Lib.hid hs1
 clear hune hvne iu iv hk1 hs1 HU2 HV2 HU HV c0 c1 c2 c3
 go_loopw [13,14,15,16] (fun r t v i wr=>∃ j:Nat,j≤n∧i=.int .i64 j∧t=.int .i64 (cumW vs j:Nat)∧r=.int .i64 ((if j=0 then 0 else cumW us m:Nat):Int)∧RegL wr s1 v (tileL us vs m (j * m))∧Kp W1 wr) (fun _ _ _ i _=>n - (intOf i).toNat)
 case atStart=>exact ⟨0,by omega,rfl,rfl,rfl,by rw [Nat.zero_mul];exact RegL.nil _ _,by (repeat (first | exact kp_refl _ | apply kp_alloc))⟩
 case round =>
  obtain ⟨j,hj,rfl,rfl,rfl,hreg,hkp⟩:=hrel
  have HRG:=Lib.hid hreg;have HKP:=Lib.hid hkp
  clear hreg hkp
  by_cases hlt:j<n
  ·have z1:(j:Int)<(n:Int):=by omega
   have z0:(0:Int)≤(j:Int):=by omega
   have z2:¬ (j:Int)<0:=by omega
   have e5:=kp_cell (kp_trans HK1.out HKP.out) (IAT.out vs bv ov IV.out j (by rw [HN.out];exact hlt))
   have l5:=cell_lt e5
   obtain ⟨p,hp⟩:∃ p,pickN (vs.getD j 0) 100=p:=⟨_,rfl⟩
   have hp1:p<100:=by rw [← hp];exact pickN_lt _ (by omega)
   have HPJ:Hid (∀ w',Calls Tryz.prog 5 #[.int .i64 (vs.getD j 0),.int .i64 100] w' fun e w''=>e=.returned (.int .i64 (p:Int))∧Kp w' w''):=Lib.hid (fun w'=>by have:=HPK.out (vs.getD j 0) w';rwa [hp] at this)
   have HP:=Lib.hid hp
   clear hp
   have wp:IntKind.i64.wrap (1+(p:Int))=1+(p:Int):=IntWalk.i64_in _ (by omega)
   go_upto_region 13 with (go_at_call 5;refine (HPJ.out _).mono ?_;rintro e w2 ⟨rfl,hk2⟩)
   have HR2:=Lib.hid (HRG.out.kp hk2);have HK2:=Lib.hid (kp_trans HKP.out hk2)
   clear hk2 HRG HKP e5 l5 HPJ
   go_loopw [13,15,18] (fun r v i wr'=>∃ k:Nat,k≤m∧i=.int .i64 k∧r=.int .i64 (cumW us k:Nat)∧RegL wr' s1 v (tileL us vs m (j * m+k))∧Kp W1 wr') (fun _ _ i _=>m - (intOf i).toNat)
   case atStart=>exact ⟨0,by omega,rfl,rfl,HR2.out,HK2.out⟩
   case round =>
    obtain ⟨k,hk,rfl,rfl,hreg,hkp⟩:=hrel
    have HRG:=Lib.hid hreg;have HKP:=Lib.hid hkp
    clear hreg hkp HR2 HK2
    by_cases hlk:k<m
    ·have y1:(k:Int)<(m:Int):=by omega
     have y0:(0:Int)≤(k:Int):=by omega
     have y2:¬ (k:Int)<0:=by omega
     have e6:=kp_cell (kp_trans HK1.out HKP.out) (IAT.out us bu ou IU.out k (by rw [HM.out];exact hlk))
     have l6:=cell_lt e6
     obtain ⟨q,hq⟩:∃ q,pickN (us.getD k 0) 100=q:=⟨_,rfl⟩
     have hq1:q<100:=by rw [← hq];exact pickN_lt _ (by omega)
     have HPK2:Hid (∀ w',Calls Tryz.prog 5 #[.int .i64 (us.getD k 0),.int .i64 100] w' fun e w''=>e=.returned (.int .i64 (q:Int))∧Kp w' w''):=Lib.hid (fun w'=>by have:=HPK.out (us.getD k 0) w';rwa [hq] at this)
     have HQ:=Lib.hid hq
     clear hq
     obtain ⟨A,hA⟩:∃ A,cumW us k=A:=⟨_,rfl⟩
     obtain ⟨C,hC⟩:∃ C,cumW vs j=C:=⟨_,rfl⟩
     have hA3:A≤300:=by rw [← hA];have:=cumW_le us k;omega
     have hC3:C≤300:=by rw [← hC];have:=cumW_le vs j;omega
     have HA:=Lib.hid hA;have HC:=Lib.hid hC
     have wq:IntKind.i64.wrap (1+(q:Int))=1+(q:Int):=IntWalk.i64_in _ (by omega)
     have wA:IntKind.i64.wrap ((A:Int)+(1+(q:Int)))=(A:Int)+(1+(q:Int)):=IntWalk.i64_in _ (by omega)
     have wC:IntKind.i64.wrap ((C:Int)+(1+(p:Int)))=(C:Int)+(1+(p:Int)):=IntWalk.i64_in _ (by omega)
     have wk:IntKind.i64.wrap ((k:Int)+1)=(k:Int)+1:=IntWalk.i64_in _ (by omega)
     rw [hA,hC]
     clear hA hC
     go_upto_region 16 with (go_at_call 5;refine (HPK2.out _).mono ?_;rintro e w3 ⟨rfl,hk3⟩)
     have HR3:=Lib.hid (HRG.out.kp hk3);have HK3:=Lib.hid (kp_trans HKP.out hk3)
     clear hk3 HRG HKP e6 l6 HPK2
     obtain ⟨N0,hN0⟩:∃ N0,j * m+k=N0:=⟨_,rfl⟩
     have hN9:N0≤9:=by rw [← hN0];have:j * m≤2 * 3:=Nat.mul_le_mul (by omega) (by omega);omega
     have HN0:=Lib.hid hN0
     have HBW:=Lib.hid (HBX.out (A:Int) (C:Int) ((A:Int)+(1+(q:Int))) ((C:Int)+(1+(p:Int))) w3)
     obtain ⟨xs,ho1,ho2,ho3⟩:=HR3.out
     rw [hN0] at ho1 ho2 ho3
     have htl:(tileL us vs m N0).length=N0:=by unfold tileL;simp
     rw [htl] at ho1 ho2
     have HO1:=Lib.hid ho1;have HO2:=Lib.hid ho2;have HO3:=Lib.hid ho3;have HTL:=Lib.hid htl
     clear ho1 ho2 ho3 hN0 htl
     go_wp2_with (first
      | (go_at_call 6;refine HBW.out.mono ?_;rintro e w4 ⟨u4,rfl,hrg4,hk4⟩;have HG4:=Lib.hid hrg4;have HK4:=Lib.hid hk4;obtain ⟨b1,b2,d1,d2,e1,e2,hru⟩:=hrg4;obtain ⟨rfl,-⟩:=hru;clear hk4)
      | (at_builtin;refine wpList_append_own_at _ rfl _ _ 32 rfl s1 36 i0 (.agg #[.slice none 0 0]) 1 24 Tryz.underlying32 JI.out JZ0.out JZ1.out JZ2.out rfl (by decide) _ _ _ rfl (ownsRow_kx (S:=[]) HO1.out (KX.of (kp_trans HK4.out (kp_alloc (kp_refl _) _))) (by simp)) ⟨w4.heap.size,0,none⟩ 1 1 [.slice (some ⟨b1,0,none⟩) 1 (1+d1)] rfl rfl (cells_new w4 [.slice (some ⟨b1,0,none⟩) 1 (1+d1)] _) (by simp [Value.oneCell']) (by unfold maxLen;omega) (by omega) (by have h1:=HK4.out.size;have h2:=HK3.out.size;have h3:=HS1.out;simp;omega) ?_;intro v' w6 hown hgrow hnil hat;have HO6:=Lib.hid hown;have HG6:=Lib.hid hgrow;clear hown hgrow hnil hat))
     have hkw:=kp_trans HK4.out (kp_alloc (kp_refl w4) (.cells #[.slice (some ⟨b1,0,none⟩) 1 (1+d1)] 36))
     have hm0:N0 % m=k∧N0 / m=j:=by
      rw [← HN0.out,Nat.mul_comm]
      exact ⟨by rw [Nat.mul_add_mod,Nat.mod_eq_of_lt hlk],by rw [Nat.mul_add_div (by omega),Nat.div_eq_of_lt hlk,Nat.add_zero]⟩
     have hA1:cumW us (k+1)=A+(1+q):=by simp only [cumW];rw [HA.out,HQ.out]
     have hC1:cumW vs (j+1)=C+(1+p):=by simp only [cumW];rw [HC.out,HP.out]
     refine ⟨⟨k+1,by omega,by go_num,by rw [hA1];congr 1 <;> omega,?_,kpOfKx (((KX.of (S:=[]) (kp_trans HK3.out HK4.out)).alloc _).grown HG6.out (fun g hg=>.inr (by rw [HS1.out];exact (World.ownsRow.lt HO1.out g hg).1)))⟩,by simp [intOf];omega⟩
     have ht:tileL us vs m (j * m+(k+1))=tileL us vs m N0++[tileB us vs k j]:=by
      rw [← Nat.add_assoc,HN0.out]
      unfold tileL
      rw [List.range_succ,List.map_append,List.map_singleton,hm0.1,hm0.2]
     rw [ht]
     refine RegL.snoc (xs:=xs) (by rw [HTL.out];exact ownsRow_kx (S:=[]) HO1.out (KX.of hkw) (by simp)) (by rw [HTL.out];exact HO2.out) (fun i b u e1 e2=>(HO3.out i b u e1 e2).kp hkw) ?_ HG6.out (by rw [HTL.out];exact HO6.out)
     unfold tileB
     rw [HA.out,HC.out,hA1,hC1]
     have e1:((A+(1+q):Nat):Int)=(A:Int)+(1+(q:Int)):=by omega
     have e2:((C+(1+p):Nat):Int)=(C:Int)+(1+(p:Int)):=by omega
     simp only [e1,e2]
     exact HG4.out.kp (kp_alloc (kp_refl _) _)
    ·obtain rfl:k=m:=by omega
     have y1:¬ (k:Int)<(k:Int):=by omega
     obtain ⟨C,hC⟩:∃ C,cumW vs j=C:=⟨_,rfl⟩
     have hC3:C≤300:=by rw [← hC];have:=cumW_le vs j;omega
     have HC:=Lib.hid hC
     have wC:IntKind.i64.wrap ((C:Int)+(1+(p:Int)))=(C:Int)+(1+(p:Int)):=IntWalk.i64_in _ (by omega)
     have wk:IntKind.i64.wrap ((j:Int)+1)=(j:Int)+1:=IntWalk.i64_in _ (by omega)
     rw [hC]
     clear hC
     go_wp2_with fail
     have hC1:cumW vs (j+1)=C+(1+p):=by simp only [cumW];rw [HC.out,HP.out]
     exact ⟨⟨j+1,by omega,by go_num,by rw [hC1];congr 1 <;> omega,by rw [if_neg (by omega)],by rw [Nat.succ_mul];exact HRG.out,HKP.out⟩,by simp [intOf];omega⟩
  ·obtain rfl:j=n:=by omega
   have z1:¬ (j:Int)<(j:Int):=by omega
   rw [if_neg (by omega)]
   go_upto_region 19 with fail
   obtain ⟨xs,ho1,ho2,ho3⟩:=HRG.out
   have htl:(tileL us vs m (j * m)).length=j * m:=by unfold tileL;simp
   rw [htl] at ho1 ho2
   have hpos:0<j * m:=Nat.mul_pos (by omega) (by omega)
   obtain ⟨g,lc,sp,rfl,hgB,hrow,hspl⟩:=own_cut ho1 hpos
   obtain ⟨q,hq4,hq⟩:=q_ex x y (cumW us m:Nat) (cumW vs j:Nat)
   rename_i K1 K0 hK Qx ax
   clear ax
   have hs0:s0<W1.heap.size:=(Array.getElem?_eq_some_iff.1 Q0.out).1
   have hgw:w.heap.size≤g:=by have h1:=HS1.out;have h2:=HSW.out;omega
   have hc0:=(HKP.out.block s0 hs0).trans Q0.out
   refine wp_conv (c:=tpHead) (by kernel_rfl) ?_
   refine Code.wp_mono (fun e a w' h=>?_) (tail_any us vs (wb:=w) (m:=m) (n:=j) (q:=q) (g:=g) (s0:=s0) (lc:=lc) (x:=x) (y:=y) (am:=am) hm3 hn3 ⟨c6,c7⟩ ⟨c8,c9⟩ ⟨c4,c5⟩ hc0 hrow ho2 (by omega) ho3 hq4 hq (by rfl) (by rfl) (by rfl) (by rfl) (by rfl) (by rfl) (by rfl) (by rfl) (by rfl) (by rfl) (kp_trans HK1.out HKP.out) HSW.out hgw)
   cases e with
   | normal=>exact hK _ _ (wp_conv (by kernel_rfl) h)
   | _=>exact h
end Go.Proofs.YtgliljnbajohhaaGreatDoor
namespace Go.Proofs.YtgliljnbajohhaaGreatDoor
theorem no_goes:Tryz.prog.funcs.any Func.goes=false:=by kernel_rfl
theorem goes_no (P:Program) (h:P.funcs.any Func.goes=false) (f:FuncId):P.goes f=false:=by
 unfold Program.goes
 rw [h,Bool.and_false,Bool.or_false]
 have hg:∀ g:FuncId,(P.funcs[g]?).any Func.goes=false:=by
  intro g
  cases hf:P.funcs[g]? with
  | none=>rfl
  | some fn =>
   have hm:fn∈P.funcs:=Array.mem_of_getElem? hf
   rw [Array.any_eq_false'] at h
   show fn.goes=false
   simpa using h fn hm
 simp [hg]
theorem goesBy_no (P:Program) (h:P.funcs.any Func.goes=false) (c:OpenClaim):c.goesBy P=false:=by
 unfold OpenClaim.goesBy Program.goesAt Program.goesFrom
 have h1:(P.funcNamed c.func).any P.goes=false:=by
  cases P.funcNamed c.func with
  | none=>rfl
  | some f=>exact goes_no P h f
 rw [h1,Bool.false_or]
 split
 ·rfl
 ·rw [List.any_eq_false]
  intro f _
  simp [goes_no P h f]
end Go.Proofs.YtgliljnbajohhaaGreatDoor
