import Derived.Test.YtgliljnbajohhaaGreatDoorQ00
import Derived.Test.YtgliljnbajohhaaGreatDoorQ02
import Derived.Laws.AppendOwnNone
import Derived.Lib.AppendZeros
import Derived.RegionTactic
import Derived.WalkSpells
import Derived.BigRegion
import Derived.IntWalk
import Derived.Deep.DeepCutAuto
import Derived.Deep.RegionHeld3
import Derived.Test.YtgliljnbajohhaaGreatDoorQ13
import Derived.Test.YtgliljnbajohhaaGreatDoorQ08
import Derived.Test.YtgliljnbajohhaaGreatDoorQ01
set_option linter.unusedVariables false
set_option linter.unusedSimpArgs false
namespace Go.Proofs.YtgliljnbajohhaaGreatDoor
open Go.RowKit Go.Proofs.Geo
theorem own_room (w:World) (cs:Array Value) (cap:Nat) (hcap:cap≤maxLen) (hsz:cs.size=cap * 2):OwnP (w.alloc (.cells cs 53)) w.heap.size (.slice (some ⟨w.heap.size,0,none⟩) 0 cap) [] :=
 ⟨by simp [flat],.inr ⟨w.heap.size,cap,cs,rfl,Nat.le_refl _,heap_alloc_new w _,Nat.zero_le _,hcap,hsz,by simp [flat]⟩⟩
theorem wpList_append_pts {w:World} {ops:Array Oper} {rest:List Oper} {o:Oper} {a:Act} {Q:Exit→Act→World→Prop} (hgd:o.guard=none) (s x:Operand)
  (ho:o.op=.call { callee:=.builtin .append,args:=#[s,x],argTypes:=#[71, 71] }) (B:Nat) (v y:Value) (l m:List Pt) (hs:a.eval s=v) (hx:a.eval x=y)
  (hown:OwnP w B v l) (hr:RdC w y m) (hn:l.length+m.length≤10000000) (hB:B≤w.heap.size)
  (h:∀ v' w',OwnP w' B v' (l++m)→w.grownBy w' v.ownBlock→wpList Tryz.prog ops Q rest (a.put o.dst v') w'):wpList Tryz.prog ops Q (o :: rest) a w:=by
 obtain ⟨i0,hi,hz0,hz1,hz2⟩:=info_parts infoPt
 obtain ⟨_,⟨hy,hm⟩ | ⟨ad,cap,hy,hc⟩⟩:=hr
 ·subst hy hm
  refine wpList_append_own_none hgd s x 71 ho B 53 i0 2 Tryz.underlying71 hi v _ _ hs hown hx ?_
  exact h _ _ (by rw [List.append_nil];exact hown) (World.grownBy.refl _ _)
 ·subst hy
  refine wpList_append_own w hgd s x 71 ho B 53 i0 (.agg #[.int .i64 0,.int .i64 0]) 2 16 Tryz.underlying71 hi hz0 hz1 hz2 rfl (by decide) v _ _ hs hown ad _ _ (flat m) hx (flat_len m) hc (flat_one _) (by unfold maxLen;omega) (by omega) hB ?_
  intro v' w' hown' hg _
  exact h _ _ (OwnP.append hown') hg
set_option maxHeartbeats 4000000 in
set_option maxRecDepth 100000 in
theorem grow_any (n:Nat) (hn:n≤1000000) (w:World):Calls Tryz.prog 219 #[.slice none 0 0,.int .i64 n] w (OwnEnd w []):=by
 obtain ⟨i0,hi,hz0,hz1,hz2⟩:=info_parts infoPt
 by_cases h0:n=0
 ·subst h0
  clear hi hz0 hz1 hz2
  go_enter Tryz.func219,Tryz.ntmps219
  go_wp2
  go_ret
  exact ⟨_,rfl,OwnP.nil _ _,kp_refl _⟩
 ·have hpos:0<n:=by omega
  have hr:=Lib.run_append_nil_zeros (P:=Tryz.prog) w 71 3 71 53 i0 _ .i64 .i64 Tryz.underlying71 Tryz.underlying3 hi hz0 n hpos (by rw [hz1];decide) (by omega) (by rw [hz2];omega)
  have HR:=Lib.hid hr
  have b1:(0:Int)<(n:Int):=by omega
  have b2:(n:Int)≤1000000:=by omega
  have hcp:=grownCap_le_maxLen w n 0 53 (by unfold maxLen;omega)
  have hge:=grownCap_ge w n 0 53
  have HCP:=Lib.hid hcp
  have HGE:=Lib.hid hge
  clear hr hi hz0 hz1 hz2 hcp hge h0
  go_enter Tryz.func219,Tryz.ntmps219
  go_wp2_with (at_builtin;refine Lib.wpList_append_run _ rfl (.tmp 20) (.tmp 21) 71 3 rfl _ _ rfl rfl _ _ HR.out ?_)
  go_ret
  refine ⟨_,rfl,own_room w.drew _ _ HCP.out ?_,kp_alloc (kp_drew (kp_refl _)) _⟩
  have:=HGE.out
  simp only [Array.size_append,size_zeroCells]
  simp
  omega
end Go.Proofs.YtgliljnbajohhaaGreatDoor
namespace Go.Proofs.YtgliljnbajohhaaGreatDoor
open Go.RowKit Go.Proofs.Top Go.Proofs.Geo
def OneR (w:World) (u:Value) (r:List Pt):Prop:=∃ b off cap up cp,u=.slice (some ⟨b,off,none⟩) 1 cap∧1≤cap∧w.cell? ⟨b,off,none⟩=some (.slice up r.length cp)∧RdC w (.slice up r.length cp) r
theorem OneR.kp {w w':World} {u:Value} {r:List Pt} (h:OneR w u r) (k:Kp w w'):OneR w' u r:=by
 obtain ⟨b,off,cap,up,cp,hu,hc,h1,h2⟩:=h
 exact ⟨b,off,cap,up,cp,hu,hc,kp_cell k h1,h2.kp k⟩
set_option maxHeartbeats 4000000 in
theorem rsize_one (u:Value) (r:List Pt) (hr:r.length≤400) (w:World) (h:OneR w u r):Calls Tryz.prog 132 #[.agg #[u]] w fun e w'=>e=.returned (.int .i64 0)∧Kp w w':=by
 obtain ⟨b,off,cap,up,cp,rfl,hc,h1,h2⟩:=h
 generalize r.length=n at *
 have lb:=cell_lt h1
 have z1:¬ (400:Int)<(n:Int):=by omega
 have wi:IntKind.i64.wrap (n:Int)=(n:Int):=IntWalk.i64_in _ (by omega)
 clear h2
 go_enter Tryz.func132,Tryz.ntmps132
 go_wp2_with fail
 go_loopw [3,9] (fun s i wr=>∃ k:Nat,k≤1∧i=.int .i64 k∧s=.int .i64 ((if k=0 then 0 else n:Nat):Int)∧Kp w wr∧wr.cell? ⟨w.heap.size,0,none⟩=some (.slice (some ⟨b,off,none⟩) 1 cap)) (fun _ i _=>1 - (intOf i).toNat)
 case atStart=>exact ⟨0,by omega,rfl,rfl,kp_alloc (kp_refl _) _,by simp [go_sem]⟩
 case round =>
  obtain ⟨k,hk,rfl,rfl,hkp,hcl⟩:=hrel
  have d1:=kp_cell hkp h1
  have ld:=cell_lt d1
  have lcl:=cell_lt hcl
  have hk':k=0∨k=1:=by omega
  rcases hk' with rfl | rfl
  ·go_wp2_with fail
   exact ⟨⟨1,by omega,rfl,by simp,hkp,hcl⟩,by simp [intOf]⟩
  ·have e1:((if (1:Nat)=0 then 0 else n:Nat):Int)=(n:Int):=by simp
   rw [e1]
   go_wp2_with fail
   go_ret
   exact ⟨rfl,hkp⟩
theorem cfn_none (a:Option Addr) (cap:Nat) (f:Value) (w:World):Calls Tryz.prog 134 #[.slice a 0 cap,f] w fun e w'=>e=.returned (.bool false)∧Kp w w':=by
 have HI:Calls Tryz.prog 214 #[.slice a 0 cap,f] w fun e w'=>e=.returned (.int .i64 (-1))∧Kp w w':=by
  go_enter Tryz.func214,Tryz.ntmps214
  go_wp2_with fail
  go_loopw [8] (fun i wr=>i=.int .i64 0∧Kp w wr) (fun _ _=>0)
  case atStart=>exact ⟨rfl,kp_refl _⟩
  case round =>
   obtain ⟨rfl,hkp⟩:=hrel
   go_wp2_with fail
   go_ret
   exact ⟨rfl,hkp⟩
 have HC:=Lib.hid HI
 clear HI
 go_enter Tryz.func134,Tryz.ntmps134
 go_wp2_with (go_at_call 214;refine HC.out.mono ?_;rintro e w1 ⟨rfl,hk⟩)
 go_ret
 exact ⟨rfl,hk⟩
set_option maxHeartbeats 4000000 in
theorem concat_one (u:Value) (r:List Pt) (hr:r.length≤400) (w:World) (h:OneR w u r):Calls Tryz.prog 138 #[u] w (OwnEnd w r):=by
 obtain ⟨B,off,cap,a1,c1,rfl,hc,ca,ra⟩:=h
 have HN:=Lib.hid hr
 obtain ⟨n,ha⟩:∃ n,r.length=n:=⟨_,rfl⟩
 rw [ha] at ca ra hr
 have RA:=Lib.hid ra
 have wi:IntKind.i64.wrap (n:Int)=(n:Int):=IntWalk.i64_in _ (by omega)
 clear ra ha
 have lB:=cell_lt ca
 go_enter Tryz.func138,Tryz.ntmps138
 go_wp2
 go_loop [3,11] (fun s i=>∃ k:Nat,k≤1∧i=.int .i64 k∧s=.int .i64 ((if k=0 then 0 else n:Nat):Int)) (fun _ i=>1 - (intOf i).toNat)
 case atStart=>exact ⟨0,by omega,rfl,rfl⟩
 case round =>
  obtain ⟨k,hk,rfl,rfl⟩:=hrel
  have hk':k=0∨k=1:=by omega
  rcases hk' with rfl | rfl
  ·go_wp2
   go_round
   case rel=>exact ⟨1,by omega,rfl,by simp⟩
   case measure=>simp [intOf]
  ·have hs:((if (1:Nat)=0 then 0 else n:Nat):Int)=(n:Int):=by simp
   rw [hs]
   have HG:=Lib.hid (grow_any n (by omega))
   go_wp2_with (go_at_call 219;refine (HG.out _).mono ?_;rintro e w1 ⟨v1,rfl,ho,hk⟩;have HO:=Lib.hid ho;have HK:=Lib.hid hk;clear ho hk)
   go_loopw [6,27] (fun s i wr=>∃ k:Nat,k≤1∧i=.int .i64 k∧OwnP wr w.heap.size s (if k=0 then [] else r)∧Kp w wr) (fun _ i _=>1 - (intOf i).toNat)
   case atStart=>exact ⟨0,by omega,rfl,HO.out,HK.out⟩
   case round =>
    obtain ⟨k,hk,rfl,ho,hkp⟩:=hrel
    have e0:wr.cell? ⟨B,off,none⟩=some (.slice a1 n c1):=kp_cell hkp ca
    have RA2:=Lib.hid (RA.out.kp hkp)
    have HO2:=Lib.hid ho
    have HK2:=Lib.hid hkp
    clear ho hkp
    have hk':k=0∨k=1:=by omega
    rcases hk' with rfl | rfl
    ·go_wp2_with (at_builtin;refine wpList_append_pts rfl (.tmp 31) (.tmp 32) rfl w.heap.size _ _ _ r rfl rfl HO2.out RA2.out (by have:=HN.out;simp;omega) (Below.size HK2.out) ?_;intro v2 w2 ho hg;have HO3:=Lib.hid ho;have HK3:=Lib.hid (kp_of_grown HK2.out hg HO2.out);clear ho hg)
     exact ⟨⟨1,by omega,rfl,by simpa using HO3.out,HK3.out⟩,by simp [intOf]⟩
    ·go_wp2
     go_ret
     exact ⟨_,rfl,by simpa using HO2.out,HK2.out⟩
set_option maxHeartbeats 4000000 in
theorem rbox_one (u:Value) (r:List Pt) (hr:r.length≤400) (w:World) (h:OneR w u r):Calls Tryz.prog 56 #[.agg #[u]] w (BndEnd w r):=by
 have HC:=Lib.hid (fun w' (k:Kp w w')=>concat_one u r hr w' (h.kp k))
 have HB:=Lib.hid (fun v w' (ho:RdC w' v r)=>bounds_rdC v r w' ho)
 obtain ⟨b,off,cap,up,cp,rfl,hc,h1,h2⟩:=h
 clear h1 h2
 unfold BndEnd at *
 obtain ⟨⟨x0,x1,x2,x3⟩,hbx⟩:∃ q,bndB r=q:=⟨_,rfl⟩
 rw [hbx] at HB ⊢
 generalize bndOk r=ok at *
 go_enter Tryz.func56,Tryz.ntmps56
 go_upto_region 1 with fail
 obtain ⟨W,hW⟩:∃ W,(w.alloc (.cells #[.slice (some ⟨b,off,none⟩) 1 cap] 36)).alloc (.cells #[.int .i64 0,.int .i64 0,.int .i64 0,.int .i64 0] 160)=W:=⟨_,rfl⟩
 obtain ⟨t,ht⟩:∃ t,w.heap.size+1=t:=⟨_,rfl⟩
 have KW:Kp w W:=by rw [← hW];exact kp_alloc (kp_alloc (kp_refl _) _) _
 have g0:W.cell? ⟨w.heap.size,0,none⟩=some (.slice (some ⟨b,off,none⟩) 1 cap):=by rw [← hW];simp [go_sem]
 have rW:W.heap[t]? = some (.cells #[.int .i64 0,.int .i64 0,.int .i64 0,.int .i64 0] 160 (0,0)):=by rw [← hW,← ht];have h:=heap_alloc_new (w.alloc (.cells #[.slice (some ⟨b,off,none⟩) 1 cap] 36)) (.cells #[.int .i64 0,.int .i64 0,.int .i64 0,.int .i64 0] 160);simpa using h
 have htl:w.heap.size≤t:=by omega
 have lg0:=cell_lt g0
 rw [hW,ht]
 clear hW ht
 go_wp2_with (first | (go_at_call 138;refine (HC.out _ KW).mono ?_;rintro e w1 ⟨v1,rfl,ho1,hk1⟩;have K1:=kp_trans KW hk1;have HRD:=Lib.hid (ho1.rd (by omega)).toC;clear ho1) | (go_at_call 137;refine (HB.out _ _ HRD.out).mono ?_;rintro e w2 ⟨rfl,hk2⟩;have K2:=kp_trans K1 hk2;have r2:=((kp_trans hk1 hk2).block t (Array.getElem?_eq_some_iff.1 rW).1).trans rW;have t0:w2.cell? ⟨t,0,none⟩=some (.int .i64 0):=(by rw [cell_of_row w2 t _ _ _ _ r2];rfl);have t1:w2.cell? ⟨t,1,none⟩=some (.int .i64 0):=(by rw [cell_of_row w2 t _ _ _ _ r2];rfl);have t2:w2.cell? ⟨t,2,none⟩=some (.int .i64 0):=(by rw [cell_of_row w2 t _ _ _ _ r2];rfl);have t3:w2.cell? ⟨t,3,none⟩=some (.int .i64 0):=(by rw [cell_of_row w2 t _ _ _ _ r2];rfl);have fr:=fun o=>frozen_of_row w2 t o _ _ r2;have lt1:=cell_lt t0;have R1:=Lib.hid r2;clear r2))
 have R4:(((((w2.setCell ⟨t,0,none⟩ (.int .i64 x0)).setCell ⟨t,1,none⟩ (.int .i64 x1)).setCell ⟨t,2,none⟩ (.int .i64 x2)).setCell ⟨t,3,none⟩ (.int .i64 x3))).heap[t]? = some (.cells #[.int .i64 x0,.int .i64 x1,.int .i64 x2,.int .i64 x3] 160 (0,0)):=by
  rw [heap_setCell_same _ t _ _ _ _ (heap_setCell_same _ t _ _ _ _ (heap_setCell_same _ t _ _ _ _ (heap_setCell_same _ t _ _ _ _ R1.out)))];rfl
 refine bodyPost_ret (v:=.tuple #[.agg #[.int .i64 x0,.int .i64 x1,.int .i64 x2,.int .i64 x3],.bool ok]) (by simp [results,Tryz.results56,go_sem,cell_of_row _ t _ _ _ _ R4]) rfl ⟨rfl,?_⟩
 ((repeat (first | exact K2 | apply kp_drew | apply kp_drewN | refine kp_set ?_ ?_ _));all_goals (first | exact htl | (simp;done) | omega))
theorem dvalid_any (n:Int) (h1:0≤n) (h2:n≤3652058) (w:World):Calls Tryz.prog 233 #[.int .i64 n] w fun e w'=>e=.returned (.bool true)∧Kp w w':=by
 go_enter Tryz.func233,Tryz.ntmps233
 go_wp2_with fail
 go_ret
 exact ⟨rfl,kp_refl _⟩
set_option maxHeartbeats 4000000 in
theorem dcheck_one (v:Nat) (u:Value) (w:World) (hu:SlR J_pt 2 w u [(0,v)]):Calls Tryz.prog 190 #[u] w fun e w'=>e=.returned (.int .i64 0)∧Kp w w':=by
 obtain ⟨b,off,cap,rfl,hc,hJ⟩:=hu
 obtain ⟨d0,d1⟩:=hJ 0 (0,v) rfl
 have c0:w.cell? ⟨b,off,none⟩=some (.int .i64 0):=by simpa using d0
 have c1:w.cell? ⟨b,off+1,none⟩=some (.int .i64 v):=by simpa using d1
 clear hJ d0 d1
 simp only [List.length_cons,List.length_nil,Nat.zero_add] at *
 go_enter Tryz.func190,Tryz.ntmps190
 go_wp2_with fail
 go_loopw [10] (fun i wr=>∃ k:Nat,k≤1∧i=.int .i64 k∧Kp w wr) (fun i _=>1 - (intOf i).toNat)
 case atStart=>exact ⟨0,by omega,rfl,kp_refl _⟩
 case round =>
  obtain ⟨k,hk,rfl,hkp⟩:=hrel
  have e0:=kp_cell hkp c0
  have e1:=kp_cell hkp c1
  have le:=cell_lt e0
  have hk':k=0∨k=1:=by omega
  rcases hk' with rfl | rfl
  ·go_upto_region 8 with (go_at_call 233;refine (dvalid_any _ (by omega) (by omega) _).mono ?_;rintro e w2 ⟨rfl,hk2⟩;have K2:=kp_trans hkp (kp_trans (kp_alloc (kp_refl _) _) hk2))
   go_region
   go_wp2_with fail
   exact ⟨⟨1,by omega,rfl,(by (repeat (first | exact K2 | apply kp_drew | apply kp_drewN)))⟩,by simp [intOf]⟩
  ·go_wp2_with fail
   go_ret
   exact ⟨rfl,hkp⟩
set_option maxHeartbeats 4000000 in
theorem there_at (js:List JU) (hok:JsOk js) (uj ur:Value) (w:World) (hj:SlR J_jur 5 w uj js) (hur:∃ p n c,ur=.slice p n c) (i:Nat) (p:JU) (hp:js[i]? = some p) :
  Calls Tryz.prog 104 #[.agg #[uj,ur,.slice none 0 0,.slice none 0 0,.slice none 0 0,.slice none 0 0],.int .i64 p.id] w fun e w'=>e=.returned (.bool true)∧Kp w w':=by
 have HC:=Lib.hid (fun w' (k:Kp w w')=>jfind_at js hok uj w' (hj.kp stays_jur k) i p hp)
 obtain ⟨b,off,cap,rfl,_,_⟩:=hj
 obtain ⟨pr,nr,cr,rfl⟩:=hur
 unfold jv at HC
 go_enter Tryz.func104,Tryz.ntmps104
 go_wp2_with (go_at_call 65;refine (HC.out _ (by (repeat (first | exact kp_refl _ | apply kp_alloc | apply kp_drew | apply kp_drewN)))).mono ?_;rintro e w1 ⟨u,rfl,hu,hk⟩;obtain ⟨b2,o2,c2,rfl,_,_⟩:=hu)
 go_ret
 exact ⟨rfl,by ((repeat (first | exact kp_trans (by (repeat (first | exact kp_refl _ | apply kp_alloc | apply kp_drew | apply kp_drewN))) hk | apply kp_alloc | apply kp_drew | apply kp_drewN | refine kp_set ?_ ?_ _));all_goals (first | (simp;done) | (have:=Below.size hk;simp at this ⊢;omega)))⟩
def RtOk (r:RT):Prop:=∃ v,r.ds=[(0,v)]∧v≤1000000
set_option maxHeartbeats 8000000 in
theorem rate_at (js:List JU) (hok:JsOk js) (uj ur:Value) (w:World) (hj:SlR J_jur 5 w uj js) (hur:∃ p n c,ur=.slice p n c) (i:Nat) (p:JU) (hp:js[i]? = some p) (r:RT) (hr:RtOk r) (hid:r.id=p.id) (ud:Value) (hd:SlR J_pt 2 w ud r.ds) (last:Nat) (hl:last<r.id) :
  Calls Tryz.prog 101 #[.agg #[uj,ur,.slice none 0 0,.slice none 0 0,.slice none 0 0,.slice none 0 0],.agg #[.int .i64 r.id,ud],.int .i64 last] w fun e w'=>e=.returned (.int .i64 0)∧Kp w w':=by
 obtain ⟨v,hv,hv2⟩:=hr
 rw [hv] at hd
 have HT:=Lib.hid (fun w' (k:Kp w w')=>there_at js hok uj ur w' (hj.kp stays_jur k) hur i p hp)
 have HD:=Lib.hid (fun w' (k:Kp w w')=>dcheck_one v ud w' (hd.kp stays_pt k))
 rw [hid] at hl ⊢
 clear hid
 obtain ⟨b,off,cap,rfl,hcd,hJ⟩:=hd
 obtain ⟨d0,d1⟩:=hJ 0 (0,v) rfl
 have c0:w.cell? ⟨b,off,none⟩=some (.int .i64 0):=by simpa using d0
 have c1:w.cell? ⟨b,off+1,none⟩=some (.int .i64 v):=by simpa using d1
 obtain ⟨bj,oj,cj,rfl,_,_⟩:=hj
 obtain ⟨pr,nr,cr,rfl⟩:=hur
 clear hJ d0 d1
 simp only [List.length_cons,List.length_nil,Nat.zero_add] at *
 generalize p.id=q at *
 clear hp
 generalize js.length=nj at *
 have z1:¬ (q:Int)≤(last:Int):=by omega
 have z2:¬ (v:Int)<0:=by omega
 have z3:¬ (1000000:Int)<(v:Int):=by omega
 go_enter Tryz.func101,Tryz.ntmps101
 go_upto_region 1 with fail
 obtain ⟨W1,hW1⟩:∃ W,w.alloc (.cells #[.slice (some ⟨bj,oj,none⟩) nj cj,.slice pr nr cr,.slice none 0 0,.slice none 0 0,.slice none 0 0,.slice none 0 0] 31)=W:=⟨_,rfl⟩
 obtain ⟨W,hW⟩:∃ W,W1.alloc (.cells #[.int .i64 q,.slice (some ⟨b,off,none⟩) 1 cap] 44)=W:=⟨_,rfl⟩
 obtain ⟨t,ht⟩:∃ t,w.heap.size=t:=⟨_,rfl⟩
 have K1:Kp w W1:=by rw [← hW1];exact kp_alloc (kp_refl _) _
 have K2:Kp W1 W:=by rw [← hW];exact kp_alloc (kp_refl _) _
 have s1:W1.heap.size=t+1:=by rw [← hW1,← ht];simp
 have q0:W.heap[t]? = some (.cells #[.slice (some ⟨bj,oj,none⟩) nj cj,.slice pr nr cr,.slice none 0 0,.slice none 0 0,.slice none 0 0,.slice none 0 0] 31 (0,0)):=(K2.block t (by omega)).trans (by rw [← hW1,← ht];exact heap_alloc_new _ _)
 have q1:W.heap[t+1]? = some (.cells #[.int .i64 q,.slice (some ⟨b,off,none⟩) 1 cap] 44 (0,0)):=by rw [← hW,← s1];exact heap_alloc_new _ _
 have KW:=kp_trans K1 K2
 have htl:w.heap.size≤t:=by omega
 simp only [hW1,hW,ht,s1]
 clear hW1 hW ht s1 K1 K2
 have x0:W.cell? ⟨t,0,none⟩=some (.slice (some ⟨bj,oj,none⟩) nj cj):=by rw [cell_of_row W t _ _ _ _ q0];rfl
 have x1:W.cell? ⟨t,1,none⟩=some (.slice pr nr cr):=by rw [cell_of_row W t _ _ _ _ q0];rfl
 have x2:W.cell? ⟨t,2,none⟩=some (.slice none 0 0):=by rw [cell_of_row W t _ _ _ _ q0];rfl
 have x3:W.cell? ⟨t,3,none⟩=some (.slice none 0 0):=by rw [cell_of_row W t _ _ _ _ q0];rfl
 have x4:W.cell? ⟨t,4,none⟩=some (.slice none 0 0):=by rw [cell_of_row W t _ _ _ _ q0];rfl
 have x5:W.cell? ⟨t,5,none⟩=some (.slice none 0 0):=by rw [cell_of_row W t _ _ _ _ q0];rfl
 have y0:W.cell? ⟨t+1,0,none⟩=some (.int .i64 q):=by rw [cell_of_row W (t+1) _ _ _ _ q1];rfl
 have y1:W.cell? ⟨t+1,1,none⟩=some (.slice (some ⟨b,off,none⟩) 1 cap):=by rw [cell_of_row W (t+1) _ _ _ _ q1];rfl
 have lx:=cell_lt x0
 have ly:=cell_lt y0
 clear q0 q1
 go_wp2_with (first | (go_at_call 104;refine (HT.out _ KW).mono ?_;rintro e w1 ⟨rfl,hk1⟩;have u0:=kp_cell hk1 y0;have u1:=kp_cell hk1 y1;have lu:=cell_lt u0;have KA:=kp_trans KW hk1) | (go_at_call 190;refine (HD.out _ KA).mono ?_;rintro e w2 ⟨rfl,hk2⟩;have v1:=kp_cell hk2 u1;have lv:=cell_lt v1;have KB:=kp_trans KA hk2))
 go_loopw [30] (fun i wr=>∃ k:Nat,k≤1∧i=.int .i64 k∧Kp w2 wr) (fun i _=>1 - (intOf i).toNat)
 case atStart=>exact ⟨0,by omega,rfl,kp_refl _⟩
 case round =>
  obtain ⟨k,hk,rfl,hkp⟩:=hrel
  have KC:=kp_trans KB hkp
  have e0:=kp_cell KC c0
  have e1:=kp_cell KC c1
  have le:=cell_lt e0
  have hk':k=0∨k=1:=by omega
  rcases hk' with rfl | rfl
  ·go_wp2_with fail
   exact ⟨⟨1,by omega,rfl,kp_trans hkp (by ((repeat (first | exact kp_refl _ | apply kp_alloc | apply kp_drew | apply kp_drewN | refine kp_set ?_ ?_ _));all_goals (first | exact Nat.le_refl _ | (simp;done) | omega)))⟩,by simp [intOf]⟩
  ·go_wp2_with fail
   go_ret
   exact ⟨rfl,KC⟩
set_option maxHeartbeats 8000000 in
theorem jparent_ok (js:List JU) (hok:JsOk js) (uj:Value) (w:World) (hj:SlR J_jur 5 w uj js) (j:JU) (hp:ParOk js j) (p:Option Addr) (n c:Nat) :
  Calls Tryz.prog 100 #[uj,.agg #[.int .i64 j.id,.int .i64 j.kind,.int .i64 j.par,.int .i64 j.fil,.slice p n c]] w fun e w'=>e=.returned (.int .i64 0)∧Kp w w':=by
 obtain ⟨id,kind,par,fil,rings⟩:=j
 unfold ParOk at hp
 dsimp only at hp ⊢
 rcases hp with ⟨rfl,rfl⟩ | ⟨rfl,hp0,i,q,hq,hqi,hqk⟩
 ·obtain ⟨b,off,cap,rfl,_,_⟩:=hj
  go_enter Tryz.func100,Tryz.ntmps100
  go_wp2_with fail
  go_ret
  exact ⟨rfl,(by (repeat (first | exact kp_refl _ | apply kp_alloc | apply kp_drew | apply kp_drewN)))⟩
 ·have HC:=Lib.hid (fun w' (k:Kp w w')=>place_at js hok uj w' (hj.kp stays_jur k) i q hq)
  have hil:=(List.getElem?_eq_some_iff.1 hq).1
  have hlen:=hok.len
  obtain ⟨b,off,cap,rfl,hc,hJ⟩:=hj
  obtain ⟨y0,y1,y2,y3,u,y4,_⟩:=hJ i q hq
  rw [hqk] at y1
  generalize js.length=len at *
  subst hqi
  have z1:¬ (q.id:Int)=0:=by omega
  have z2:(0:Int)≤(i:Int):=by omega
  have z3:(i:Int)<(len:Int):=by omega
  have z4:¬ (i:Int)<0:=by omega
  have z5:((q.id:Int) == 0)=false:=by simp;omega
  have lb:=cell_lt y0
  clear hJ hq hok y0 y2 y3 y4 hqk
  go_enter Tryz.func100,Tryz.ntmps100
  go_upto_region 10 with (go_at_call 145;refine (HC.out _ (by (repeat (first | exact kp_refl _ | apply kp_alloc | apply kp_drew | apply kp_drewN)))).mono ?_;rintro e w1 ⟨rfl,hk⟩;have K1:=kp_trans (kp_alloc (kp_refl w) _) hk;have e1:=kp_cell K1 y1;have le:=cell_lt e1;have d1:=kp_cell hk (show (w.alloc _).cell? ⟨w.heap.size,1,none⟩=some (.int .i64 2) by simp [go_sem]);have ld:=cell_lt d1)
  go_region
  go_wp2_with fail
  go_ret
  exact ⟨rfl,(by (repeat (first | exact K1 | apply kp_drew | apply kp_drewN)))⟩
set_option maxHeartbeats 8000000 in
theorem jcheck_ok (js:List JU) (hok:JsOk js) (uj:Value) (w:World) (hj:SlR J_jur 5 w uj js) :
  Calls Tryz.prog 32 #[uj] w fun e w'=>e=.returned (.tuple #[.int .i64 0,.int .i64 0])∧Kp w w':=by
 have HP:=Lib.hid (fun w' (k:Kp w w') j (hm:j∈js) p n c=>jparent_ok js hok uj w' (hj.kp stays_jur k) j (hok.par j hm) p n c)
 have hlen:=hok.len
 obtain ⟨b,off,cap,rfl,hc,hJ⟩:=hj
 have HJ:=Lib.hid hJ;have HOK:=Lib.hid hok
 have HL:Hid (js.length=js.length):=Lib.hid rfl
 obtain ⟨len,hln⟩:∃ n,js.length=n:=⟨_,rfl⟩
 have HLN:=Lib.hid hln
 rw [hln] at hlen hc HP ⊢
 clear hJ hok hln HL
 have z0:¬ (64:Int)<(len:Int):=by omega
 go_enter Tryz.func32,Tryz.ntmps32
 go_wp2_with fail
 go_loopw [14] (fun i wr=>∃ k:Nat,k≤len∧i=.int .i64 k∧Kp w wr) (fun i _=>len - (intOf i).toNat)
 case atStart=>exact ⟨0,by omega,rfl,kp_refl _⟩
 case round =>
  obtain ⟨k,hk,rfl,hkp⟩:=hrel
  by_cases hlt:k<len
  ·obtain ⟨a,ha⟩:∃ a,js[k]? = some a:=⟨_,List.getElem?_eq_getElem (by rw [HLN.out];exact hlt)⟩
   obtain ⟨y0,y1,y2,y3,u,y4,bb,o2,c2,rfl,_,_⟩:=stays_jur _ _ _ _ _ hkp (HJ.out k a ha)
   have hm:=List.mem_of_getElem? ha
   have hid:=HOK.out.id a hm
   have hkd:=HOK.out.kind a hm
   have hfl:=HOK.out.fil a hm
   have lb:=cell_lt y0
   have c1:(0:Int)≤(k:Int):=by omega
   have c3:(k:Int)<(len:Int):=by omega
   have wi:IntKind.i64.wrap ((k:Int)+1)=(k:Int)+1:=IntWalk.i64_in _ (by omega)
   have x1:¬ (a.id:Int)<1:=by omega
   have x2:¬ (1099511627775:Int)<(a.id:Int):=by omega
   have KD:=Lib.hid (fun w=>kind_any a.kind (by omega) (by omega) w)
   have FD:=Lib.hid (fun w=>kind_any a.fil (by omega) (by omega) w)
   have HK:=Lib.hid hkp
   obtain ⟨ia,hia⟩:∃ x,a.id=x:=⟨_,rfl⟩
   have HIA:=Lib.hid hia
   generalize a.rings.length=nr at *
   rw [hia] at y0 x1 x2
   clear hkp hid hkd hfl hia hm
   generalize a.kind=kd at *
   generalize a.fil=fl at *
   generalize a.par=pa at *
   cases k with
   | zero =>
    simp only [Nat.zero_mul,Nat.add_zero] at y0 y1 y2 y3 y4
    go_upto_region 8 with fail
    go_region
    go_wp2_with (first | (go_at_call 99;have M2:=HK2;refine (FD.out _).mono ?_;rintro e w3 ⟨rfl,hk3⟩;have K23:=Lib.hid (kp_trans HK.out (kp_trans HK2.out hk3));clear hk3) | (go_at_call 99;refine (KD.out _).mono ?_;rintro e w2 ⟨rfl,hk2⟩;have HK2:Hid (Kp wr w2):=Lib.hid (kp_trans (by (repeat (first | exact kp_refl _ | apply kp_alloc | apply kp_drew | apply kp_drewN))) hk2);have d3:=kp_cell hk2 (show (World.alloc wr _).cell? ⟨wr.heap.size,3,none⟩=some (.int .i64 fl) by simp [go_sem]);have ld:=cell_lt d3;clear hk2))
    exact ⟨⟨1,by omega,by go_num,K23.out⟩,by (simp only [intOf,Int.toNat_natCast];first | omega | (simp;omega))⟩
   | succ m =>
    obtain ⟨a2,ha2⟩:∃ a,js[m]? = some a:=⟨_,List.getElem?_eq_getElem (by rw [HLN.out];omega)⟩
    obtain ⟨v0,_⟩:=stays_jur _ _ _ _ _ HK.out (HJ.out m a2 ha2)
    have hinc:=HOK.out.inc m (m+1) a2 a ha2 ha (by omega)
    rw [HIA.out] at hinc
    generalize a2.id=ib at *
    have x3:¬ (ia:Int)≤(ib:Int):=by omega
    have wi2:IntKind.i64.wrap ((m:Int)+1 - 1)=(m:Int):=by rw [IntWalk.i64_in _ (by omega)];omega
    have c4:(0:Int)≤(m:Int):=by omega
    have c5:(m:Int)<(len:Int):=by omega
    have c6:(0:Int)<(m:Int)+1:=by omega
    clear ha2 hinc ha
    go_upto_region 8 with fail
    go_region
    go_wp2_with (first | (go_at_call 99;have M2:=HK2;refine (FD.out _).mono ?_;rintro e w3 ⟨rfl,hk3⟩;have K23:=Lib.hid (kp_trans HK.out (kp_trans HK2.out hk3));clear hk3) | (go_at_call 99;refine (KD.out _).mono ?_;rintro e w2 ⟨rfl,hk2⟩;have HK2:Hid (Kp wr w2):=Lib.hid (kp_trans (by (repeat (first | exact kp_refl _ | apply kp_alloc | apply kp_drew | apply kp_drewN))) hk2);have d3:=kp_cell hk2 (show (World.alloc wr _).cell? ⟨wr.heap.size,3,none⟩=some (.int .i64 fl) by simp [go_sem]);have ld:=cell_lt d3;clear hk2))
    exact ⟨⟨m+2,by omega,by go_num,K23.out⟩,by (simp only [intOf,Int.toNat_natCast];first | omega | (simp;omega))⟩
  ·obtain rfl:k=len:=by omega
   have HK:=Lib.hid hkp
   clear hkp
   go_wp2_with fail
   go_loopw [59] (fun i wr=>∃ q:Nat,q≤k∧i=.int .i64 q∧Kp w wr) (fun i _=>k - (intOf i).toNat)
   case atStart=>exact ⟨0,by omega,rfl,HK.out⟩
   case round =>
    obtain ⟨q,hq,rfl,hkp⟩:=hrel
    by_cases hlt2:q<k
    ·obtain ⟨a,ha⟩:∃ a,js[q]? = some a:=⟨_,List.getElem?_eq_getElem (by rw [HLN.out];exact hlt2)⟩
     obtain ⟨y0,y1,y2,y3,u,y4,bb,o2,c2,rfl,_,_⟩:=stays_jur _ _ _ _ _ hkp (HJ.out q a ha)
     have lb:=cell_lt y0
     have c1:(0:Int)≤(q:Int):=by omega
     have c3:(q:Int)<(k:Int):=by omega
     have wi:IntKind.i64.wrap ((q:Int)+1)=(q:Int)+1:=IntWalk.i64_in _ (by omega)
     have PD:=Lib.hid (fun w2 (k2:Kp wr w2)=>HP.out w2 (kp_trans hkp k2) a (List.mem_of_getElem? ha) (some ⟨bb,o2,none⟩) a.rings.length c2)
     have HK3:=Lib.hid hkp
     clear ha hkp
     go_wp2_with (go_at_call 100;refine (PD.out _ (by (repeat (first | exact kp_refl _ | apply kp_alloc | apply kp_drew | apply kp_drewN)))).mono ?_;rintro e w2 ⟨rfl,hk2⟩;have HK2:=Lib.hid hk2;clear hk2)
     exact ⟨⟨q+1,by omega,by go_num,kp_trans HK3.out (kp_trans (by (repeat (first | exact kp_refl _ | apply kp_alloc | apply kp_drew | apply kp_drewN))) HK2.out)⟩,by (simp only [intOf,Int.toNat_natCast];first | omega | (simp;omega))⟩
    ·obtain rfl:q=k:=by omega
     go_wp2_with fail
     go_ret2
     exact ⟨rfl,hkp⟩
set_option maxHeartbeats 8000000 in
set_option maxRecDepth 20000 in
theorem rcheck_one (u:Value) (r:List Pt) (hr:r.length≤400) (hck:chk r=(0,0)) (w:World) (h:OneR w u r):Calls Tryz.prog 55 #[.agg #[u]] w fun e w'=>e=.returned (.agg #[.int .i64 0,.int .i64 0])∧Kp w w':=by
 have HS:=Lib.hid (fun w' (k:Kp w w')=>rsize_one u r hr w' (h.kp k))
 obtain ⟨b,off,cap,up,cp,rfl,hc,h1,h2⟩:=h
 have HC:=Lib.hid (fun w' (k:Kp w w')=>by have h:=check_any _ r w' (h2.kp k) (by omega);rw [hck] at h;exact h)
 generalize r.length=n at *
 have lb:=cell_lt h1
 have hcp:(1:Int)≤(cap:Int):=by omega
 clear h2 hck
 go_enter Tryz.func55,Tryz.ntmps55
 go_upto_region 1 with fail
 obtain ⟨W1,hW1⟩:∃ W,w.alloc (.cells #[.slice (some ⟨b,off,none⟩) 1 cap] 36)=W:=⟨_,rfl⟩
 obtain ⟨W,hW⟩:∃ W,W1.alloc (.cells #[.int .i64 0,.int .i64 0] 88)=W:=⟨_,rfl⟩
 obtain ⟨t,ht⟩:∃ t,w.heap.size=t:=⟨_,rfl⟩
 have K1:Kp w W1:=by rw [← hW1];exact kp_alloc (kp_refl _) _
 have K2:Kp W1 W:=by rw [← hW];exact kp_alloc (kp_refl _) _
 have s1:W1.heap.size=t+1:=by rw [← hW1,← ht];simp
 have q0:W.heap[t]? = some (.cells #[.slice (some ⟨b,off,none⟩) 1 cap] 36 (0,0)):=(K2.block t (by omega)).trans (by rw [← hW1,← ht];exact heap_alloc_new _ _)
 have q1:W.heap[t+1]? = some (.cells #[.int .i64 0,.int .i64 0] 88 (0,0)):=by rw [← hW,← s1];exact heap_alloc_new _ _
 have KW:=kp_trans K1 K2
 have htl:w.heap.size≤t:=by omega
 simp only [hW1,hW,ht,s1]
 clear hW1 hW ht s1 K1 K2
 have x0:W.cell? ⟨t,0,none⟩=some (.slice (some ⟨b,off,none⟩) 1 cap):=by rw [cell_of_row W t _ _ _ _ q0];rfl
 have lx:=cell_lt x0
 have Q1:=Lib.hid q1
 clear q0 q1
 go_wp2_with (go_at_call 132;refine (HS.out _ KW).mono ?_;rintro e w1 ⟨rfl,hk1⟩;have y0:=kp_cell hk1 x0;have ly:=cell_lt y0;have KA:=kp_trans KW hk1)
 go_loopw [18] (fun i wr=>∃ k:Nat,k≤1∧i=.int .i64 k∧Kp w1 wr) (fun i _=>1 - (intOf i).toNat)
 case atStart=>exact ⟨0,by omega,rfl,kp_refl _⟩
 case round =>
  obtain ⟨k,hk,rfl,hkp⟩:=hrel
  have KB:=kp_trans KA hkp
  have e1:=kp_cell KB h1
  have le:=cell_lt e1
  have z0:=kp_cell hkp y0
  have lz:=cell_lt z0
  have hk':k=0∨k=1:=by omega
  rcases hk' with rfl | rfl
  ·go_wp2_with (go_at_call 133;refine (HC.out _ KB).mono ?_;rintro e w2 ⟨rfl,hk2⟩)
   exact ⟨⟨1,by omega,rfl,kp_trans hkp (kp_trans hk2 (by (repeat (first | exact kp_refl _ | apply kp_alloc | apply kp_drew | apply kp_drewN))))⟩,by simp [intOf]⟩
  ·go_wp2_with fail
   go_loopw [36] (fun i wr2=>∃ k:Nat,k≤1∧i=.int .i64 k∧Kp wr wr2) (fun i _=>1 - (intOf i).toNat)
   case atStart=>exact ⟨0,by omega,rfl,kp_refl _⟩
   case round =>
    obtain ⟨q,hq,rfl,hkp2⟩:=hrel
    have KD:=kp_trans KB hkp2
    have e2:=kp_cell hkp2 e1
    have le2:=cell_lt e2
    have z2:=kp_cell hkp2 z0
    have lz2:=cell_lt z2
    have hq':q=0∨q=1:=by omega
    rcases hq' with rfl | rfl
    ·go_wp2_with (go_at_call 134;refine (cfn_none _ _ _ _).mono ?_;rintro e w3 ⟨rfl,hk3⟩)
     exact ⟨⟨1,by omega,rfl,kp_trans hkp2 (kp_trans (by (repeat (first | exact kp_refl _ | apply kp_alloc | apply kp_drew | apply kp_drewN))) hk3)⟩,by simp [intOf]⟩
    ·have r2:=((kp_trans hk1 (kp_trans hkp hkp2)).block (t+1) (Array.getElem?_eq_some_iff.1 Q1.out).1).trans Q1.out
     have t0:wr.cell? ⟨t+1,0,none⟩=some (.int .i64 0):=by rw [cell_of_row wr (t+1) _ _ _ _ r2];rfl
     have t1:wr.cell? ⟨t+1,1,none⟩=some (.int .i64 0):=by rw [cell_of_row wr (t+1) _ _ _ _ r2];rfl
     have fr:=fun o=>frozen_of_row wr (t+1) o _ _ r2
     have lt1:=cell_lt t0
     have R1:=Lib.hid r2
     clear r2
     go_wp2_with fail
     have R2:((wr.setCell ⟨t+1,0,none⟩ (.int .i64 0)).setCell ⟨t+1,1,none⟩ (.int .i64 0)).heap[t+1]? = some (.cells #[.int .i64 0,.int .i64 0] 88 (0,0)):=by
      rw [heap_setCell_same _ (t+1) _ _ _ _ (heap_setCell_same _ (t+1) _ _ _ _ R1.out)];rfl
     refine bodyPost_ret (v:=.agg #[.int .i64 0,.int .i64 0]) ?_ rfl ?_
     ·simp [results,Tryz.results55,go_sem,cell_of_row _ (t+1) _ _ _ _ R2]
     ·refine ⟨rfl,kp_set (kp_set KD ?_ _) ?_ _⟩ <;> (show w.heap.size≤t+1;omega)
end Go.Proofs.YtgliljnbajohhaaGreatDoor
