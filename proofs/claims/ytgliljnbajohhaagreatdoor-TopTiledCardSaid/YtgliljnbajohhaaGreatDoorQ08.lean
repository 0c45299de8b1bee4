import Derived.Test.YtgliljnbajohhaaGreatDoorQ02
import Derived.Test.YtgliljnbajohhaaGreatDoorQ03
import Derived.Test.YtgliljnbajohhaaGreatDoorQ07
import Derived.Test.YtgliljnbajohhaaGreatDoorQ00
import Derived.IntWalk
import Derived.Maps.AppendAt
import Derived.Laws.OwnMore
import Derived.Laws.AppendOwnNone
import Derived.Laws.Rows
import Derived.Laws.Bits64b
import Derived.Laws.BitsLemmas
set_option linter.unusedVariables false
set_option linter.unusedSimpArgs false
namespace Go.Proofs.YtgliljnbajohhaaGreatDoor
open Go.RowKit Go.Proofs.Geo
def Passed (l:List Pt) (k:Nat):Prop:=(1≤k→(szS l).2.2=false)∧(2≤k→(vdS l).2.2=false)∧(3≤k→(twS l).2.2=false)∧(4≤k→(bkS l).2.2=false)∧(5≤k→(mtS l).2.2=false)
set_option maxHeartbeats 8000000 in
set_option maxRecDepth 100000 in
theorem check_out (a:Option Addr) (len cap:Nat) (l:List Pt) (w:World) (hlen:len=l.length) (hl:len≤100000) (ho:len<3∨200<len):Calls Tryz.prog 133 #[.slice a len cap] w fun e w'=>e=.returned (.agg #[.int .i64 (chk l).1,.int .i64 (chk l).2])∧Kp w w':=by
 have hc:=fun w=>szS_any a len cap l w hlen (by omega)
 have ht:(szS l).2.2=true:=by
  unfold szS;rw [← hlen]
  by_cases h:200<len
  ·rw [if_pos h]
  ·rw [if_neg h,if_pos (by omega)]
 obtain ⟨e,he⟩:∃ e,(szS l).1=e:=⟨_,rfl⟩
 obtain ⟨q,ha⟩:∃ e,(szS l).2.1=e:=⟨_,rfl⟩
 rw [he,ha,ht] at hc
 have hv:chk l=(e,q):=by unfold chk;rw [if_pos ht,he,ha]
 have HV:=Lib.hid hv
 have HC:=Lib.hid hc
 clear hc ht he ha hv hlen
 go_enter Tryz.func133,Tryz.ntmps133
 go_wp2_with fail
 obtain ⟨W1,hW1⟩:∃ W,(w.alloc (.cells #[.int .i64 0,.int .i64 0] 88)).alloc (.cells #[.func (.func 209) #[] #[],.func (.func 210) #[] #[],.func (.func 211) #[] #[],.func (.func 212) #[] #[],.func (.func 213) #[] #[]] 367)=W:=⟨_,rfl⟩
 have e0:W1.cell? ⟨w.heap.size+1,0,none⟩=some (.func (.func 209) #[] #[]):=by rw [← hW1];simp [go_sem]
 have e1:W1.cell? ⟨w.heap.size+1,1,none⟩=some (.func (.func 210) #[] #[]):=by rw [← hW1];simp [go_sem]
 have e2:W1.cell? ⟨w.heap.size+1,2,none⟩=some (.func (.func 211) #[] #[]):=by rw [← hW1];simp [go_sem]
 have e3:W1.cell? ⟨w.heap.size+1,3,none⟩=some (.func (.func 212) #[] #[]):=by rw [← hW1];simp [go_sem]
 have e4:W1.cell? ⟨w.heap.size+1,4,none⟩=some (.func (.func 213) #[] #[]):=by rw [← hW1];simp [go_sem]
 have hB1:FltB w W1:=by rw [← hW1];exact FltB.new (kp_alloc (kp_refl _) _)
 rw [hW1]
 clear hW1
 have HS:=Lib.hid hB1
 have HK1:=Lib.hid (kp_refl W1)
 clear hB1
 go_loopw [9] (fun i wr=>i=.int .i64 0∧W1=wr) (fun i _=>0)
 case atStart=>exact ⟨rfl,rfl⟩
 case round =>
  obtain ⟨rfl,rfl⟩:=hrel
  go_wp2_with (go_at_call 209;refine (HC.out _).mono ?_;rintro e wz ⟨rfl,hk⟩;have HB:=Lib.hid (HS.out.kp hk);have HK:=Lib.hid (kp_trans HK1.out hk);have z0:=HB.out.z0;have z1:=HB.out.z1;have f0:=HB.out.f0;have f1:=HB.out.f1;have lz:=HB.out.lt;clear hk)
  refine bodyPost_ret (v:=(.agg #[.int .i64 e,.int .i64 q])) (by simp [results,Tryz.results133,go_sem, *]) rfl ⟨by rw [HV.out],?_⟩
  ((repeat (first | exact HB.out.k | exact kp_refl _ | apply kp_alloc | apply kp_drew | apply kp_drewN | refine kp_set ?_ ?_ _));all_goals (first | exact Nat.le_refl _ | (simp;done) | omega))
set_option maxHeartbeats 8000000 in
set_option maxRecDepth 100000 in
theorem check_in (b off len cap:Nat) (l:List Pt) (w:World) (hp:PtsAt w b off l) (hlen:len=l.length) (h3:3≤len) (h200:len≤200):Calls Tryz.prog 133 #[.slice (some ⟨b,off,none⟩) len cap] w fun e w'=>e=.returned (.agg #[.int .i64 (chk l).1,.int .i64 (chk l).2])∧Kp w w':=by
 have HC0:=Lib.hid (fun w=>szS_any (some ⟨b,off,none⟩) len cap l w hlen (by omega))
 have HC1:=Lib.hid (fun w hp=>vdS_any b off len cap l w hp hlen (by omega))
 have HC2:=Lib.hid (fun w hp hok=>twS_any b off len cap l w hp hlen (by omega) hok)
 have HC3:=Lib.hid (fun w hp=>bkS_any b off len cap l w hp hlen (by omega) (by omega))
 have HC4:=Lib.hid (fun w hp=>mtS_any b off len cap l w hp hlen (by omega) (by omega))
 have HP:=Lib.hid hp
 have HL:=Lib.hid hlen
 clear hp hlen
 go_enter Tryz.func133,Tryz.ntmps133
 go_wp2_with fail
 obtain ⟨W1,hW1⟩:∃ W,(w.alloc (.cells #[.int .i64 0,.int .i64 0] 88)).alloc (.cells #[.func (.func 209) #[] #[],.func (.func 210) #[] #[],.func (.func 211) #[] #[],.func (.func 212) #[] #[],.func (.func 213) #[] #[]] 367)=W:=⟨_,rfl⟩
 have e0:W1.cell? ⟨w.heap.size+1,0,none⟩=some (.func (.func 209) #[] #[]):=by rw [← hW1];simp [go_sem]
 have e1:W1.cell? ⟨w.heap.size+1,1,none⟩=some (.func (.func 210) #[] #[]):=by rw [← hW1];simp [go_sem]
 have e2:W1.cell? ⟨w.heap.size+1,2,none⟩=some (.func (.func 211) #[] #[]):=by rw [← hW1];simp [go_sem]
 have e3:W1.cell? ⟨w.heap.size+1,3,none⟩=some (.func (.func 212) #[] #[]):=by rw [← hW1];simp [go_sem]
 have e4:W1.cell? ⟨w.heap.size+1,4,none⟩=some (.func (.func 213) #[] #[]):=by rw [← hW1];simp [go_sem]
 have hB1:FltB w W1:=by rw [← hW1];exact FltB.new (kp_alloc (kp_refl _) _)
 rw [hW1]
 clear hW1
 have HB1:=Lib.hid hB1
 clear hB1
 go_loopw [9] (fun i wr=>∃ k:Nat,k≤5∧i=.int .i64 k∧FltB w wr∧Kp W1 wr∧Passed l k) (fun i _=>5 - (intOf i).toNat)
 case atStart=>exact ⟨0,by omega,rfl,HB1.out,kp_refl _,fun h=>by omega,fun h=>by omega,fun h=>by omega,fun h=>by omega,fun h=>by omega⟩
 case round =>
  obtain ⟨k,hk,rfl,hs,hk1,hps⟩:=hrel
  have HS:=Lib.hid hs
  have HK1:=Lib.hid hk1
  have HPS:=Lib.hid hps
  replace e0:=kp_cell hk1 e0;replace e1:=kp_cell hk1 e1;replace e2:=kp_cell hk1 e2;replace e3:=kp_cell hk1 e3;replace e4:=kp_cell hk1 e4
  have le:w.heap.size+1<wr.heap.size:=cell_lt e0
  clear hs hk1 hps
  have hk':k=0∨k=1∨k=2∨k=3∨k=4∨k=5:=by omega
  rcases hk' with rfl | rfl | rfl | rfl | rfl | rfl
  ·obtain ⟨e,he⟩:∃ e,(szS l).1=e:=⟨_,rfl⟩
   obtain ⟨a,ha⟩:∃ e,(szS l).2.1=e:=⟨_,rfl⟩
   have hc:=HC0.out
   rw [he,ha] at hc
   cases ht:(szS l).2.2
   ·rw [ht] at hc
    have HT:=Lib.hid ht
    replace hc:=Lib.hid hc
    clear ht he ha
    go_wp2_with (go_at_call 209;refine (hc.out _).mono ?_;rintro e wz ⟨rfl,hk⟩;have HB:=Lib.hid (HS.out.kp hk);have HK:=Lib.hid (kp_trans HK1.out hk);have z0:=HB.out.z0;have z1:=HB.out.z1;have f0:=HB.out.f0;have f1:=HB.out.f1;have lz:=HB.out.lt;clear hk)
    exact ⟨⟨1,by omega,rfl,HB.out.kp (kp_alloc (kp_refl _) _),kp_trans HK.out (kp_alloc (kp_refl _) _),⟨fun _=>HT.out,fun h=>by omega,fun h=>by omega,fun h=>by omega,fun h=>by omega⟩⟩,by simp [intOf]⟩
   ·rw [ht] at hc
    have hv:chk l=(e,a):=by unfold chk;rw [if_pos ht,he,ha]
    have HV:=Lib.hid hv
    replace hc:=Lib.hid hc
    clear ht he ha hv
    go_wp2_with (go_at_call 209;refine (hc.out _).mono ?_;rintro e wz ⟨rfl,hk⟩;have HB:=Lib.hid (HS.out.kp hk);have HK:=Lib.hid (kp_trans HK1.out hk);have z0:=HB.out.z0;have z1:=HB.out.z1;have f0:=HB.out.f0;have f1:=HB.out.f1;have lz:=HB.out.lt;clear hk)
    refine bodyPost_ret (v:=(.agg #[.int .i64 e,.int .i64 a])) (by simp [results,Tryz.results133,go_sem, *]) rfl ⟨by rw [HV.out],?_⟩
    ((repeat (first | exact HB.out.k | exact kp_refl _ | apply kp_alloc | apply kp_drew | apply kp_drewN | refine kp_set ?_ ?_ _));all_goals (first | exact Nat.le_refl _ | (simp;done) | omega))
  ·obtain ⟨e,he⟩:∃ e,(vdS l).1=e:=⟨_,rfl⟩
   obtain ⟨a,ha⟩:∃ e,(vdS l).2.1=e:=⟨_,rfl⟩
   have hc:=HC1.out
   rw [he,ha] at hc
   cases ht:(vdS l).2.2
   ·rw [ht] at hc
    have HT:=Lib.hid ht
    replace hc:=Lib.hid hc
    clear ht he ha
    go_wp2_with (go_at_call 210;refine (hc.out _ (HP.out.kp HS.out.k)).mono ?_;rintro e wz ⟨rfl,hk⟩;have HB:=Lib.hid (HS.out.kp hk);have HK:=Lib.hid (kp_trans HK1.out hk);have z0:=HB.out.z0;have z1:=HB.out.z1;have f0:=HB.out.f0;have f1:=HB.out.f1;have lz:=HB.out.lt;clear hk)
    exact ⟨⟨2,by omega,rfl,HB.out.kp (kp_alloc (kp_refl _) _),kp_trans HK.out (kp_alloc (kp_refl _) _),⟨fun _=>HPS.out.1 (by omega),fun _=>HT.out,fun h=>by omega,fun h=>by omega,fun h=>by omega⟩⟩,by simp [intOf]⟩
   ·rw [ht] at hc
    have hv:chk l=(e,a):=by unfold chk;rw [if_neg (by rw [HPS.out.1 (by omega)];decide)];rw [if_pos ht,he,ha]
    have HV:=Lib.hid hv
    replace hc:=Lib.hid hc
    clear ht he ha hv
    go_wp2_with (go_at_call 210;refine (hc.out _ (HP.out.kp HS.out.k)).mono ?_;rintro e wz ⟨rfl,hk⟩;have HB:=Lib.hid (HS.out.kp hk);have HK:=Lib.hid (kp_trans HK1.out hk);have z0:=HB.out.z0;have z1:=HB.out.z1;have f0:=HB.out.f0;have f1:=HB.out.f1;have lz:=HB.out.lt;clear hk)
    refine bodyPost_ret (v:=(.agg #[.int .i64 e,.int .i64 a])) (by simp [results,Tryz.results133,go_sem, *]) rfl ⟨by rw [HV.out],?_⟩
    ((repeat (first | exact HB.out.k | exact kp_refl _ | apply kp_alloc | apply kp_drew | apply kp_drewN | refine kp_set ?_ ?_ _));all_goals (first | exact Nat.le_refl _ | (simp;done) | omega))
  ·obtain ⟨e,he⟩:∃ e,(twS l).1=e:=⟨_,rfl⟩
   obtain ⟨a,ha⟩:∃ e,(twS l).2.1=e:=⟨_,rfl⟩
   have hc:=HC2.out
   rw [he,ha] at hc
   cases ht:(twS l).2.2
   ·rw [ht] at hc
    have HT:=Lib.hid ht
    replace hc:=Lib.hid hc
    clear ht he ha
    go_wp2_with (go_at_call 211;refine (hc.out _ (HP.out.kp HS.out.k) (vdS_false (HPS.out.2.1 (by omega)))).mono ?_;rintro e wz ⟨rfl,hk⟩;have HB:=Lib.hid (HS.out.kp hk);have HK:=Lib.hid (kp_trans HK1.out hk);have z0:=HB.out.z0;have z1:=HB.out.z1;have f0:=HB.out.f0;have f1:=HB.out.f1;have lz:=HB.out.lt;clear hk)
    exact ⟨⟨3,by omega,rfl,HB.out.kp (kp_alloc (kp_refl _) _),kp_trans HK.out (kp_alloc (kp_refl _) _),⟨fun _=>HPS.out.1 (by omega),fun _=>HPS.out.2.1 (by omega),fun _=>HT.out,fun h=>by omega,fun h=>by omega⟩⟩,by simp [intOf]⟩
   ·rw [ht] at hc
    have hv:chk l=(e,a):=by unfold chk;rw [if_neg (by rw [HPS.out.1 (by omega)];decide)];rw [if_neg (by rw [HPS.out.2.1 (by omega)];decide)];rw [if_pos ht,he,ha]
    have HV:=Lib.hid hv
    replace hc:=Lib.hid hc
    clear ht he ha hv
    go_wp2_with (go_at_call 211;refine (hc.out _ (HP.out.kp HS.out.k) (vdS_false (HPS.out.2.1 (by omega)))).mono ?_;rintro e wz ⟨rfl,hk⟩;have HB:=Lib.hid (HS.out.kp hk);have HK:=Lib.hid (kp_trans HK1.out hk);have z0:=HB.out.z0;have z1:=HB.out.z1;have f0:=HB.out.f0;have f1:=HB.out.f1;have lz:=HB.out.lt;clear hk)
    refine bodyPost_ret (v:=(.agg #[.int .i64 e,.int .i64 a])) (by simp [results,Tryz.results133,go_sem, *]) rfl ⟨by rw [HV.out],?_⟩
    ((repeat (first | exact HB.out.k | exact kp_refl _ | apply kp_alloc | apply kp_drew | apply kp_drewN | refine kp_set ?_ ?_ _));all_goals (first | exact Nat.le_refl _ | (simp;done) | omega))
  ·obtain ⟨e,he⟩:∃ e,(bkS l).1=e:=⟨_,rfl⟩
   obtain ⟨a,ha⟩:∃ e,(bkS l).2.1=e:=⟨_,rfl⟩
   have hc:=HC3.out
   rw [he,ha] at hc
   cases ht:(bkS l).2.2
   ·rw [ht] at hc
    have HT:=Lib.hid ht
    replace hc:=Lib.hid hc
    clear ht he ha
    go_wp2_with (go_at_call 212;refine (hc.out _ (HP.out.kp HS.out.k)).mono ?_;rintro e wz ⟨rfl,hk⟩;have HB:=Lib.hid (HS.out.kp hk);have HK:=Lib.hid (kp_trans HK1.out hk);have z0:=HB.out.z0;have z1:=HB.out.z1;have f0:=HB.out.f0;have f1:=HB.out.f1;have lz:=HB.out.lt;clear hk)
    exact ⟨⟨4,by omega,rfl,HB.out.kp (kp_alloc (kp_refl _) _),kp_trans HK.out (kp_alloc (kp_refl _) _),⟨fun _=>HPS.out.1 (by omega),fun _=>HPS.out.2.1 (by omega),fun _=>HPS.out.2.2.1 (by omega),fun _=>HT.out,fun h=>by omega⟩⟩,by simp [intOf]⟩
   ·rw [ht] at hc
    have hv:chk l=(e,a):=by unfold chk;rw [if_neg (by rw [HPS.out.1 (by omega)];decide)];rw [if_neg (by rw [HPS.out.2.1 (by omega)];decide)];rw [if_neg (by rw [HPS.out.2.2.1 (by omega)];decide)];rw [if_pos ht,he,ha]
    have HV:=Lib.hid hv
    replace hc:=Lib.hid hc
    clear ht he ha hv
    go_wp2_with (go_at_call 212;refine (hc.out _ (HP.out.kp HS.out.k)).mono ?_;rintro e wz ⟨rfl,hk⟩;have HB:=Lib.hid (HS.out.kp hk);have HK:=Lib.hid (kp_trans HK1.out hk);have z0:=HB.out.z0;have z1:=HB.out.z1;have f0:=HB.out.f0;have f1:=HB.out.f1;have lz:=HB.out.lt;clear hk)
    refine bodyPost_ret (v:=(.agg #[.int .i64 e,.int .i64 a])) (by simp [results,Tryz.results133,go_sem, *]) rfl ⟨by rw [HV.out],?_⟩
    ((repeat (first | exact HB.out.k | exact kp_refl _ | apply kp_alloc | apply kp_drew | apply kp_drewN | refine kp_set ?_ ?_ _));all_goals (first | exact Nat.le_refl _ | (simp;done) | omega))
  ·obtain ⟨e,he⟩:∃ e,(mtS l).1=e:=⟨_,rfl⟩
   obtain ⟨a,ha⟩:∃ e,(mtS l).2.1=e:=⟨_,rfl⟩
   have hc:=HC4.out
   rw [he,ha] at hc
   cases ht:(mtS l).2.2
   ·rw [ht] at hc
    have HT:=Lib.hid ht
    replace hc:=Lib.hid hc
    clear ht he ha
    go_wp2_with (go_at_call 213;refine (hc.out _ (HP.out.kp HS.out.k)).mono ?_;rintro e wz ⟨rfl,hk⟩;have HB:=Lib.hid (HS.out.kp hk);have HK:=Lib.hid (kp_trans HK1.out hk);have z0:=HB.out.z0;have z1:=HB.out.z1;have f0:=HB.out.f0;have f1:=HB.out.f1;have lz:=HB.out.lt;clear hk)
    exact ⟨⟨5,by omega,rfl,HB.out.kp (kp_alloc (kp_refl _) _),kp_trans HK.out (kp_alloc (kp_refl _) _),⟨fun _=>HPS.out.1 (by omega),fun _=>HPS.out.2.1 (by omega),fun _=>HPS.out.2.2.1 (by omega),fun _=>HPS.out.2.2.2.1 (by omega),fun _=>HT.out⟩⟩,by simp [intOf]⟩
   ·rw [ht] at hc
    have hv:chk l=(e,a):=by unfold chk;rw [if_neg (by rw [HPS.out.1 (by omega)];decide)];rw [if_neg (by rw [HPS.out.2.1 (by omega)];decide)];rw [if_neg (by rw [HPS.out.2.2.1 (by omega)];decide)];rw [if_neg (by rw [HPS.out.2.2.2.1 (by omega)];decide)];rw [if_pos ht,he,ha]
    have HV:=Lib.hid hv
    replace hc:=Lib.hid hc
    clear ht he ha hv
    go_wp2_with (go_at_call 213;refine (hc.out _ (HP.out.kp HS.out.k)).mono ?_;rintro e wz ⟨rfl,hk⟩;have HB:=Lib.hid (HS.out.kp hk);have HK:=Lib.hid (kp_trans HK1.out hk);have z0:=HB.out.z0;have z1:=HB.out.z1;have f0:=HB.out.f0;have f1:=HB.out.f1;have lz:=HB.out.lt;clear hk)
    refine bodyPost_ret (v:=(.agg #[.int .i64 e,.int .i64 a])) (by simp [results,Tryz.results133,go_sem, *]) rfl ⟨by rw [HV.out],?_⟩
    ((repeat (first | exact HB.out.k | exact kp_refl _ | apply kp_alloc | apply kp_drew | apply kp_drewN | refine kp_set ?_ ?_ _));all_goals (first | exact Nat.le_refl _ | (simp;done) | omega))
  ·have hv:chk l=(0,0):=by unfold chk;rw [if_neg (by rw [HPS.out.1 (by omega)];decide),if_neg (by rw [HPS.out.2.1 (by omega)];decide),if_neg (by rw [HPS.out.2.2.1 (by omega)];decide),if_neg (by rw [HPS.out.2.2.2.1 (by omega)];decide),if_neg (by rw [HPS.out.2.2.2.2 (by omega)];decide)]
   have HV:=Lib.hid hv
   have HB:=HS
   have z0:=HB.out.z0;have z1:=HB.out.z1;have f0:=HB.out.f0;have f1:=HB.out.f1;have lz:=HB.out.lt
   clear hv
   go_wp2_with fail
   refine bodyPost_ret (v:=(.agg #[.int .i64 0,.int .i64 0])) (by simp [results,Tryz.results133,go_sem, *]) rfl ⟨by rw [HV.out],?_⟩
   ((repeat (first | exact HB.out.k | exact kp_refl _ | apply kp_alloc | apply kp_drew | apply kp_drewN | refine kp_set ?_ ?_ _));all_goals (first | exact Nat.le_refl _ | (simp;done) | omega))
theorem check_any (v:Value) (l:List Pt) (w:World) (h:RdC w v l) (hl:l.length≤100000):Calls Tryz.prog 133 #[v] w fun e w'=>e=.returned (.agg #[.int .i64 (chk l).1,.int .i64 (chk l).2])∧Kp w w':=by
 by_cases ho:l.length<3∨200<l.length
 ·obtain ⟨_,⟨rfl,hn⟩ | ⟨ad,cap,rfl,_⟩⟩:=h
  ·exact check_out none 0 0 l w (by rw [hn];rfl) (by omega) (by omega)
  ·exact check_out (some ad) l.length cap l w rfl hl ho
 ·obtain ⟨_,⟨_,hn⟩ | ⟨b,off,cap,rfl,hp⟩⟩:=h.rd (by rintro rfl;simp at ho)
  ·rw [hn] at ho;simp at ho
  ·exact check_in b off l.length cap l w hp rfl (by omega) (by omega)
end Go.Proofs.YtgliljnbajohhaaGreatDoor
namespace Go.Proofs.YtgliljnbajohhaaGreatDoor
open Go.RowKit
structure KX (S:List Nat) (w w':World):Prop where
 os:w'.os=w.os
 tape:w'.tape=w.tape
 output:w'.output=w.output
 size:w.heap.size≤w'.heap.size
 block:∀ k,k<w.heap.size→k∉S→w'.heap[k]? = w.heap[k]?
section
variable {S S':List Nat} {w w1 w' W:World}
theorem KX.of (h:Kp w w'):KX S w w':=⟨h.os,h.tape,h.output,h.size,fun k hk _=>h.block k hk⟩
theorem KX.refl (w:World):KX S w w:=.of (kp_refl w)
theorem KX.mono (h:KX S w w') (hs:∀ k∈S,k∈S'):KX S' w w':=⟨h.os,h.tape,h.output,h.size,fun k hk hn=>h.block k hk fun m=>hn (hs k m)⟩
theorem KX.mono' (h:KX S w w') (hs:∀ k∈S,k∈S'∨w.heap.size≤k):KX S' w w':=⟨h.os,h.tape,h.output,h.size,fun k hk hn=>h.block k hk fun m=>by rcases hs k m with g | g;exact hn g;omega⟩
theorem KX.trans (h:KX S w w1) (k:KX S' w1 w') (hs:∀ b∈S',b∈S∨w.heap.size≤b):KX S w w' :=
 ⟨k.os.trans h.os,k.tape.trans h.tape,k.output.trans h.output,Nat.le_trans h.size k.size,fun b hb hn=>(k.block b (Nat.lt_of_lt_of_le hb h.size) fun m=>by rcases hs b m with g | g;exact hn g;omega).trans (h.block b hb hn)⟩
theorem KX.then (h:KX S w w1) (k:KX S w1 w'):KX S w w':=h.trans k fun _ m=>.inl m
theorem KX.kp (h:KX S w w1) (k:Kp w1 w'):KX S w w':=h.then (.of k)
theorem KX.after (h:Kp W w) (k:KX S w w') (hs:∀ b∈S,W.heap.size≤b):Kp W w' :=
 ⟨k.os.trans h.os,k.tape.trans h.tape,k.output.trans h.output,Nat.le_trans h.size k.size,fun b hb=>(k.block b (Nat.lt_of_lt_of_le hb h.size) fun m=>by have:=hs b m;omega).trans (h.block b hb)⟩
theorem KX.cell (h:KX S w w') {b o:Nat} {v:Value} (hc:w.cell? ⟨b,o,none⟩=some v) (hn:b∉S):w'.cell? ⟨b,o,none⟩=some v :=
 (World.cell?_of_block (a:=⟨b,o,none⟩) (h.block b (cell_lt hc) hn)).trans hc
theorem KX.row (h:KX S w w') {b:Nat} {o:Obj} (hc:w.heap[b]? = some o) (hn:b∉S):w'.heap[b]? = some o:=(h.block b (Array.getElem?_eq_some_iff.1 hc).1 hn).trans hc
theorem KX.froz (h:KX S w w') {b o:Nat} {f:Bool} (hb:b<w.heap.size) (hc:w.frozen? ⟨b,o,none⟩=f) (hn:b∉S):w'.frozen? ⟨b,o,none⟩=f :=
 (World.frozen?_of_block (a:=⟨b,o,none⟩) (h.block b hb hn)).trans hc
theorem KX.alloc (h:KX S w w') (o:Obj):KX S w (w'.alloc o):=h.kp (kp_alloc (kp_refl _) o)
theorem KX.drew (h:KX S w w'):KX S w w'.drew:=h.kp (kp_drew (kp_refl _))
theorem KX.set (h:KX S w w') {a:Addr} (ha:a.block∈S∨w.heap.size≤a.block) (u:Value):KX S w (w'.setCell a u) :=
 h.trans (S':=[a.block]) ⟨by simp [World.setCell],by simp [World.setCell],by simp [World.setCell],by simp [World.setCell],fun k hk hn=>Below.heap_setCell w' a u k (by simpa using hn)⟩ (fun b m=>by simp at m;subst m;exact ha)
theorem KX.grown (h:KX S w w1) {b:Option Nat} (hg:w1.grownBy w' b) (hb:∀ g,b=some g→g∈S∨w.heap.size≤g):KX S w w' :=
 ⟨hg.os.trans h.os,hg.tape.trans h.tape,hg.output.trans h.output,Nat.le_trans h.size hg.size,fun k hk hn=>(hg.block k (Nat.lt_of_lt_of_le hk h.size) fun e=>by rcases hb k e.symm with g | g;exact hn g;omega).trans (h.block k hk hn)⟩
end
end Go.Proofs.YtgliljnbajohhaaGreatDoor
namespace Go.Proofs.Top
def vz (r:Nat):List Int:=if r<128 then [(r:Int)] else ((r % 128+128:Nat):Int) :: vz (r / 128)
termination_by r
decreasing_by omega
theorem vz_one {r:Nat} (h:r<128):vz r=[(r:Int)]:=by rw [vz,if_pos h]
theorem vz_more {r:Nat} (h:¬ r<128):vz r=((r % 128+128:Nat):Int) :: vz (r / 128):=by rw [vz,if_neg h]
def enc (n:Nat):List Int:=vz (2 * n)
theorem vz_len {r:Nat} (h:r<2097152):1≤(vz r).length∧(vz r).length≤3:=by
 by_cases h1:r<128
 ·rw [vz_one h1];simp
 ·rw [vz_more h1]
  by_cases h2:r / 128<128
  ·rw [vz_one h2];simp
  ·rw [vz_more h2]
   rw [vz_one (show r / 128 / 128<128 by omega)];simp
theorem vz_shape {r:Nat} (h:r<2097152):(r<128∧vz r=[(r:Int)])∨(128≤r∧r<16384∧vz r=[((r % 128+128:Nat):Int),((r / 128:Nat):Int)]) ∨
  (16384≤r∧vz r=[((r % 128+128:Nat):Int),((r / 128 % 128+128:Nat):Int),((r / 16384:Nat):Int)]):=by
 by_cases h1:r<128
 ·exact .inl ⟨h1,vz_one h1⟩
 ·by_cases h2:r / 128<128
  ·exact .inr (.inl ⟨by omega,by omega,by rw [vz_more h1,vz_one h2]⟩)
  ·refine .inr (.inr ⟨by omega,?_⟩)
   rw [vz_more h1,vz_more h2,vz_one (show r / 128 / 128<128 by omega),Nat.div_div_eq_div_mul]
end Go.Proofs.Top
namespace Go.Proofs.YtgliljnbajohhaaGreatDoor
open Go.RowKit Go.Proofs.Top
theorem infoU8:(Tryz.prog.info? 5).map (fun i=>(i.zero,i.size,i.bytes))=some (some (.int .u8 0),1,1):=by kernel_rfl
def u8V (l:List Int):List Value:=l.map (Value.int .u8)
theorem u8V_len (l:List Int):(u8V l).length=l.length:=by simp [u8V]
theorem u8V_one (l:List Int):∀ u∈u8V l,u.oneCell'=true:=by
 intro u hu;obtain ⟨x,_,rfl⟩:=List.mem_map.1 hu;rfl
def OwnU (w:World) (B:Nat) (v:Value) (l:List Int):Prop:=w.ownsRow B 5 1 v l.length (u8V l)
theorem OwnU.nil (w:World) (B:Nat):OwnU w B (.slice none 0 0) []:=World.ownsRow_nil _ _ _ _
theorem OwnU.kx {S:List Nat} {w w':World} {B:Nat} {v:Value} {l:List Int} (h:OwnU w B v l) (k:KX S w w') (hne:∀ g,v.ownBlock=some g→g∉S):OwnU w' B v l:=by
 obtain ⟨h1,⟨hv,hn⟩ | ⟨g,cap,cur,hv,hb,hg,rest⟩⟩:=h
 ·exact ⟨h1,.inl ⟨hv,hn⟩⟩
 ·exact ⟨h1,.inr ⟨g,cap,cur,hv,hb,k.row hg (hne g (by rw [hv];rfl)),rest⟩⟩
theorem OwnU.kp {w w':World} {B:Nat} {v:Value} {l:List Int} (h:OwnU w B v l) (k:Kp w w'):OwnU w' B v l:=h.kx (S:=[]) (.of k) (by simp)
theorem OwnU.low {w:World} {B B':Nat} {v:Value} {l:List Int} (h:OwnU w B v l) (hb:B'≤B):OwnU w B' v l:=by
 obtain ⟨h1,⟨hv,hn⟩ | ⟨g,cap,cur,hv,hb',hg,rest⟩⟩:=h
 ·exact ⟨h1,.inl ⟨hv,hn⟩⟩
 ·exact ⟨h1,.inr ⟨g,cap,cur,hv,Nat.le_trans hb hb',hg,rest⟩⟩
theorem OwnU.snoc {w:World} {B:Nat} {v:Value} {l m:List Int} (h:w.ownsRow B 5 1 v (l.length+m.length) (u8V l++u8V m)):OwnU w B v (l++m):=by
 unfold OwnU;rw [List.length_append];simpa [u8V] using h
theorem OwnU.lt {w:World} {B:Nat} {v:Value} {l:List Int} (h:OwnU w B v l) {g:Nat} (hg:v.ownBlock=some g):B≤g∧g<w.heap.size:=World.ownsRow.lt h g hg
theorem kp_of_grownU {W w w':World} {B:Nat} {v:Value} {l:List Int} (h:Kp W w) (hg:w.grownBy w' v.ownBlock) (ho:OwnU w B v l) (hB:W.heap.size≤B):Kp W w' :=
 Below.grown h hg (Below.size h) fun k hk=>Nat.le_trans hB (World.ownsRow.lt ho k hk).1
theorem or128 (c:Nat) (h:c<256):bits .or .u8 (c:Int) 128=((c % 128+128:Nat):Int):=by
 have h1:=(bits_nat .u8 8 (by decide) wraps_u8 c 128 (by omega) (by decide)).2
 have e:(((128:Nat):Int))=128:=rfl
 rw [e] at h1
 rw [h1]
 have:∀ c:Fin 256,c.val ||| 128=c.val % 128+128:=by decide +kernel
 rw [this ⟨c,h⟩]
theorem xor_zero_u64 (r:Nat) (h:r<18446744073709551616):bits .xor .u64 (r:Int) 0=(r:Int):=by
 have h1:=bits_xor_u64_nat r 0 h (by decide)
 rw [Nat.xor_zero] at h1
 exact h1
set_option maxHeartbeats 4000000 in
set_option maxRecDepth 100000 in
theorem put_any (n:Nat) (hn:n<1048576) (w:World):Calls Tryz.prog 263 #[.int .i64 n] w fun e w'=>∃ v,e=.returned v∧OwnU w' w.heap.size v (enc n)∧Kp w w':=by
 obtain ⟨i0,hi,hz0,hz1,hz2⟩:=info_parts infoU8
 have HI:=Lib.hid hi;have HZ0:=Lib.hid hz0;have HZ1:=Lib.hid hz1;have HZ2:=Lib.hid hz2;clear hi hz0 hz1 hz2
 have e1:IntKind.i64.wrap ((n:Int) * 2)=((2 * n:Nat):Int):=by rw [IntWalk.i64_in _ (by omega)];omega
 have e2:IntKind.u64.wrap ((2 * n:Nat):Int)=((2 * n:Nat):Int):=IntWalk.u64_in _ (by omega)
 have e3:(n:Int) / 9223372036854775808=0:=by omega
 have e4:=xor_zero_u64 (2 * n) (by omega)
 have hx:Hid (enc n=vz (2 * n)):=Lib.hid rfl
 obtain ⟨r0,hr0⟩:∃ r,2 * n=r:=⟨_,rfl⟩
 rw [hr0] at e1 e2 e4 hx
 have hr1:r0<2097152:=by omega
 clear hr0
 go_enter Tryz.func263,Tryz.ntmps263
 go_wp2_with fail
 clear e1 e2 e3 e4
 go_loopw [3,4] (fun rk out wr=>∃ (r:Nat) (done:List Int),rk=.int .u64 r∧r<2097152∧done.length≤20∧done.length+(if r<128 then 0 else if r<16384 then 1 else 2)≤2∧enc n=done++vz r∧OwnU wr w.heap.size out done∧Kp w wr) (fun rk _ _=>(intOf rk).toNat)
 case atStart=>exact ⟨r0,[],rfl,hr1,by simp,by split <;> (try split) <;> simp,by rw [hx.out];rfl,OwnU.nil _ _,kp_refl _⟩
 case round =>
  obtain ⟨r,done,rfl,hr,hd,hd2,hen,hown,hkp⟩:=hrel
  have HO:=Lib.hid hown;have HK:=Lib.hid hkp;have HE:=Lib.hid hen;have HD:=Lib.hid hd
  clear hown hkp hen hd
  by_cases h1:r<128
  ·have z1:¬ (128:Int)≤(r:Int):=by omega
   have w8:IntKind.u8.wrap (r:Int)=(r:Int):=by rw [IntKind.wrap_u8];omega
   have HE2:=Lib.hid (show enc n=done++[(r:Int)] by rw [HE.out,vz_one h1])
   go_wp2_with ((at_builtin;refine wpList_append_own_at _ rfl _ _ 74 rfl w.heap.size 5 i0 (.int .u8 0) 1 1 Tryz.underlying74 HI.out HZ0.out HZ1.out HZ2.out rfl (by decide) _ _ _ rfl (HO.out.kp (kp_alloc (kp_refl _) _)) ⟨wr.heap.size,0,none⟩ 1 1 [.int .u8 (r:Int)] rfl rfl (cell_one_new _ _ _) (by simp [Value.oneCell']) (by have:=HD.out;unfold maxLen;omega) (by have:=HD.out;omega) (Below.size (kp_alloc HK.out _)) ?_;intro v' w3 hown hgrow hnil hat;have HO3:=Lib.hid (OwnU.snoc (l:=done) (m:=[(r:Int)]) hown);have HK3:=Lib.hid (kp_of_grownU (kp_alloc HK.out _) hgrow (HO.out.kp (kp_alloc (kp_refl _) _)) (Nat.le_refl _));clear hown hgrow hnil hat))
   go_ret
   exact ⟨_,rfl,by rw [HE2.out];exact HO3.out,HK3.out⟩
  ·have z1:(128:Int)≤(r:Int):=by omega
   have w8:IntKind.u8.wrap (r:Int)=(r:Int) % 256:=by rw [IntKind.wrap_u8]
   have o8:=or128 (r % 256) (by omega)
   rw [show r % 256 % 128+128=r % 128+128 by omega,show ((r % 256:Nat):Int)=(r:Int) % 256 by omega] at o8
   obtain ⟨q,hq⟩:∃ q,r / 128=q:=⟨_,rfl⟩
   have s8:(r:Int) / 128=(q:Int):=by omega
   have HE2:=Lib.hid (show enc n=(done++[((r % 128+128:Nat):Int)])++vz q by rw [HE.out,vz_more h1,List.append_assoc,hq];rfl)
   have hq1:q≤r / 128:=by omega
   clear hq
   generalize r % 128+128=c at *
   go_wp2_with ((at_builtin;refine wpList_append_own_at _ rfl _ _ 74 rfl w.heap.size 5 i0 (.int .u8 0) 1 1 Tryz.underlying74 HI.out HZ0.out HZ1.out HZ2.out rfl (by decide) _ _ _ rfl (HO.out.kp (kp_alloc (kp_refl _) _)) ⟨wr.heap.size,0,none⟩ 1 1 [.int .u8 (c:Int)] rfl rfl (cell_one_new _ _ _) (by simp [Value.oneCell']) (by have:=HD.out;unfold maxLen;omega) (by have:=HD.out;omega) (Below.size (kp_alloc HK.out _)) ?_;intro v' w3 hown hgrow hnil hat;have HO3:=Lib.hid (OwnU.snoc (l:=done) (m:=[(c:Int)]) hown);have HK3:=Lib.hid (kp_of_grownU (kp_alloc HK.out _) hgrow (HO.out.kp (kp_alloc (kp_refl _) _)) (Nat.le_refl _));clear hown hgrow hnil hat))
   exact ⟨⟨q,done++[(c:Int)],by go_num,by omega,by simp;omega,by simp only [List.length_append,List.length_cons,List.length_nil];split <;> (try split) <;> split at hd2 <;> (try split at hd2) <;> omega,HE2.out,HO3.out,HK3.out⟩,by simp [intOf];omega⟩
def RdU (w:World) (v:Value) (bs:List Int):Prop:=∃ b off cap,v=.slice (some ⟨b,off,none⟩) bs.length cap∧bs.length≤cap∧∀ i,i<bs.length→w.cell? ⟨b,off+i,none⟩=some (.int .u8 (bs.getD i 0))
theorem RdU.kx {S:List Nat} {w w':World} {v:Value} {bs:List Int} (h:RdU w v bs) (k:KX S w w') (hn:∀ b off n cap,v=.slice (some ⟨b,off,none⟩) n cap→b∉S):RdU w' v bs:=by
 obtain ⟨b,off,cap,hv,hc,h⟩:=h
 exact ⟨b,off,cap,hv,hc,fun i hi=>k.cell (h i hi) (hn b off _ cap hv)⟩
theorem RdU.kp {w w':World} {v:Value} {bs:List Int} (h:RdU w v bs) (k:Kp w w'):RdU w' v bs:=h.kx (S:=[]) (.of k) (by simp)
theorem andNot128 (c:Nat) (h:c<256):bits .andNot .u8 (c:Int) 128=((c % 128:Nat):Int):=by
 have:∀ c:Fin 256,bits .andNot .u8 (c.val:Int) 128=((c.val % 128:Nat):Int):=by decide +kernel
 exact this ⟨c,h⟩
theorem or_add (a b i:Nat) (ha:a<2 ^ i) (hb:b % 2 ^ i=0) (hb1:b<18446744073709551616) (ha1:a<18446744073709551616):bits .or .u64 (a:Int) (b:Int)=((a+b:Nat):Int):=by
 rw [bits_or_u64_nat a b ha1 hb1]
 congr 1
 have hq:b=2 ^ i * (b / 2 ^ i):=by have:=Nat.div_add_mod b (2 ^ i);omega
 rw [Nat.or_comm,hq,← Nat.two_pow_add_eq_or_of_lt ha (b / 2 ^ i)]
 omega
theorem and1 (r:Nat) (h:r<18446744073709551616):bits .and .u64 (r:Int) 1=((r % 2:Nat):Int):=by
 have h1:=bits_and_u64_nat r 1 h (by decide)
 have e:r &&& 1=r % 2:=Nat.and_one_is_mod r
 rw [e] at h1
 exact h1
theorem xor_zero_i64 (n:Nat) (h:n<1048576):bits .xor .i64 (n:Int) 0=(n:Int):=by
 show IntKind.i64.wrap ((BitVec.ofInt 64 (n:Int) ^^^ BitVec.ofInt 64 0).toNat:Int)=_
 have h1:(BitVec.ofInt 64 (n:Int)).toNat=n:=by
  rw [BitVec.ofInt_natCast,BitVec.toNat_ofNat];exact Nat.mod_eq_of_lt (by omega)
 have h2:(BitVec.ofInt 64 (0:Int)).toNat=0:=by decide
 rw [BitVec.toNat_xor,h1,h2,Nat.xor_zero]
 exact IntWalk.i64_in _ (by omega)
set_option maxHeartbeats 8000000 in
set_option maxRecDepth 100000 in
theorem get_1 (b off M cap at0 n:Nat) (c0:Nat) (k0:c0<128) (hn:n<1048576) (hr:c0=2 * n) (hcap:at0+M≤cap) (hL:at0+M≤100000) (hat:1≤M) (w:World) (h0:w.cell? ⟨b,off+at0,none⟩=some (.int .u8 (c0:Int))) :
  Calls Tryz.prog 379 #[.slice (some ⟨b,off,none⟩) (at0+M) cap,.int .i64 at0] w fun e w'=>e=.returned (.tuple #[.int .i64 n,.int .i64 (at0+1:Nat),.agg #[.int .i64 0,.int .i64 0]])∧Kp w w':=by
 have e0:¬ ((at0:Int)<0):=by omega
 have e1:¬ ((at0:Int)+(M:Int)<(at0:Int)):=by omega
 have e2:¬ ((M:Int)<0):=by omega
 have lb:b<w.heap.size:=cell_lt h0
 have i0:(0:Int)<(M:Int):=by omega
 obtain ⟨d0,hd0⟩:∃ d,c0 % 128=d:=⟨_,rfl⟩
 have n0:bits .andNot .u8 (c0:Int) 128=(d0:Int):=by rw [← hd0];exact andNot128 c0 (by omega)
 have u0:IntKind.u64.wrap (d0:Int)=(d0:Int):=IntWalk.u64_in _ (by omega)
 obtain ⟨A0,hA0⟩:∃ A,d0=A:=⟨_,rfl⟩
 have o0:bits .or .u64 0 (d0:Int)=(A0:Int):=by rw [← hA0];have h:=or_add 0 d0 0 (by decide) (by omega) (by omega) (by decide);rw [Nat.zero_add] at h;exact h
 have t0:(c0:Int)<128:=by omega
 have q1:(A0:Int) / 2=(n:Int):=by omega
 have q2:bits .and .u64 (A0:Int) 1=0:=by rw [and1 _ (by omega)];omega
 have q3:=xor_zero_i64 n hn
 have q4:IntKind.i64.wrap (n:Int)=(n:Int):=IntWalk.i64_in _ (by omega)
 have q6:IntKind.i64.wrap ((at0:Int)+1)=(at0:Int)+1:=IntWalk.i64_in _ (by omega)
 have K:Kp w w:=kp_refl _
 clear hr hn hd0 hA0 k0
 go_enter Tryz.func379,Tryz.ntmps379
 go_wp2_with fail
 refine wp_loop_rounds 1 ?_
 rw [rounds_succ]
 go_wp2_with fail
 refine bodyPost_ret (v:=.tuple #[.int .i64 n,.int .i64 ((at0:Int)+1),.agg #[.int .i64 0,.int .i64 0]]) (by (simp [results,Tryz.results379,go_sem]) <;> omega) rfl ⟨by rw [show ((at0+1:Nat):Int)=(at0:Int)+1 by omega],kp_alloc K _⟩
set_option maxHeartbeats 8000000 in
set_option maxRecDepth 100000 in
theorem get_2 (b off M cap at0 n:Nat) (c0 c1:Nat) (k0:128≤c0∧c0<256) (k1:c1<128) (z:c1≠0) (hn:n<1048576) (hr:c0 % 128+c1 * 128=2 * n) (hcap:at0+M≤cap) (hL:at0+M≤100000) (hat:2≤M) (w:World) (h0:w.cell? ⟨b,off+at0,none⟩=some (.int .u8 (c0:Int))) (h1:w.cell? ⟨b,off+at0+1,none⟩=some (.int .u8 (c1:Int))) :
  Calls Tryz.prog 379 #[.slice (some ⟨b,off,none⟩) (at0+M) cap,.int .i64 at0] w fun e w'=>e=.returned (.tuple #[.int .i64 n,.int .i64 (at0+2:Nat),.agg #[.int .i64 0,.int .i64 0]])∧Kp w w':=by
 have e0:¬ ((at0:Int)<0):=by omega
 have e1:¬ ((at0:Int)+(M:Int)<(at0:Int)):=by omega
 have e2:¬ ((M:Int)<0):=by omega
 have lb:b<w.heap.size:=cell_lt h0
 have i0:(0:Int)<(M:Int):=by omega
 obtain ⟨d0,hd0⟩:∃ d,c0 % 128=d:=⟨_,rfl⟩
 have n0:bits .andNot .u8 (c0:Int) 128=(d0:Int):=by rw [← hd0];exact andNot128 c0 (by omega)
 have u0:IntKind.u64.wrap (d0:Int)=(d0:Int):=IntWalk.u64_in _ (by omega)
 obtain ⟨A0,hA0⟩:∃ A,d0=A:=⟨_,rfl⟩
 have o0:bits .or .u64 0 (d0:Int)=(A0:Int):=by rw [← hA0];have h:=or_add 0 d0 0 (by decide) (by omega) (by omega) (by decide);rw [Nat.zero_add] at h;exact h
 have t0:¬ (c0:Int)<128:=by omega
 have i1:(1:Int)<(M:Int):=by omega
 obtain ⟨d1,hd1⟩:∃ d,c1 % 128=d:=⟨_,rfl⟩
 have n1:bits .andNot .u8 (c1:Int) 128=(d1:Int):=by rw [← hd1];exact andNot128 c1 (by omega)
 have u1:IntKind.u64.wrap (d1:Int)=(d1:Int):=IntWalk.u64_in _ (by omega)
 obtain ⟨D1,hD1⟩:∃ D,d1 * 128=D:=⟨_,rfl⟩
 have m1:(d1:Int) * 128=(D1:Int):=by omega
 have v1:IntKind.u64.wrap (D1:Int)=(D1:Int):=IntWalk.u64_in _ (by omega)
 obtain ⟨A1,hA1⟩:∃ A,A0+D1=A:=⟨_,rfl⟩
 have o1:bits .or .u64 (A0:Int) (D1:Int)=(A1:Int):=by rw [← hA1];exact or_add _ _ 7 (by omega) (by omega) (by omega) (by omega)
 have x1:((c1:Int) == 0)=false:=by simp;omega
 have t1:(c1:Int)<128:=by omega
 have q1:(A1:Int) / 2=(n:Int):=by omega
 have q2:bits .and .u64 (A1:Int) 1=0:=by rw [and1 _ (by omega)];omega
 have q3:=xor_zero_i64 n hn
 have q4:IntKind.i64.wrap (n:Int)=(n:Int):=IntWalk.i64_in _ (by omega)
 have q5:IntKind.i64.wrap ((at0:Int)+1)=(at0:Int)+1:=IntWalk.i64_in _ (by omega)
 have q6:IntKind.i64.wrap ((at0:Int)+1+1)=(at0:Int)+1+1:=IntWalk.i64_in _ (by omega)
 have K:Kp w w:=kp_refl _
 clear hr hn hd0 hd1 hA0 hA1 hD1 k0 k1
 go_enter Tryz.func379,Tryz.ntmps379
 go_wp2_with fail
 refine wp_loop_rounds 2 ?_
 rw [rounds_succ]
 go_wp2_with fail
 rw [rounds_succ]
 go_wp2_with fail
 refine bodyPost_ret (v:=.tuple #[.int .i64 n,.int .i64 ((at0:Int)+2),.agg #[.int .i64 0,.int .i64 0]]) (by (simp [results,Tryz.results379,go_sem]) <;> omega) rfl ⟨by rw [show ((at0+2:Nat):Int)=(at0:Int)+2 by omega],kp_alloc K _⟩
set_option maxHeartbeats 8000000 in
set_option maxRecDepth 100000 in
theorem get_3 (b off M cap at0 n:Nat) (c0 c1 c2:Nat) (k0:128≤c0∧c0<256) (k1:128≤c1∧c1<256) (k2:c2<128) (z:c2≠0) (hn:n<1048576) (hr:c0 % 128+c1 % 128 * 128+c2 * 16384=2 * n) (hcap:at0+M≤cap) (hL:at0+M≤100000) (hat:3≤M) (w:World) (h0:w.cell? ⟨b,off+at0,none⟩=some (.int .u8 (c0:Int))) (h1:w.cell? ⟨b,off+at0+1,none⟩=some (.int .u8 (c1:Int))) (h2:w.cell? ⟨b,off+at0+2,none⟩=some (.int .u8 (c2:Int))) :
  Calls Tryz.prog 379 #[.slice (some ⟨b,off,none⟩) (at0+M) cap,.int .i64 at0] w fun e w'=>e=.returned (.tuple #[.int .i64 n,.int .i64 (at0+3:Nat),.agg #[.int .i64 0,.int .i64 0]])∧Kp w w':=by
 have e0:¬ ((at0:Int)<0):=by omega
 have e1:¬ ((at0:Int)+(M:Int)<(at0:Int)):=by omega
 have e2:¬ ((M:Int)<0):=by omega
 have lb:b<w.heap.size:=cell_lt h0
 have i0:(0:Int)<(M:Int):=by omega
 obtain ⟨d0,hd0⟩:∃ d,c0 % 128=d:=⟨_,rfl⟩
 have n0:bits .andNot .u8 (c0:Int) 128=(d0:Int):=by rw [← hd0];exact andNot128 c0 (by omega)
 have u0:IntKind.u64.wrap (d0:Int)=(d0:Int):=IntWalk.u64_in _ (by omega)
 obtain ⟨A0,hA0⟩:∃ A,d0=A:=⟨_,rfl⟩
 have o0:bits .or .u64 0 (d0:Int)=(A0:Int):=by rw [← hA0];have h:=or_add 0 d0 0 (by decide) (by omega) (by omega) (by decide);rw [Nat.zero_add] at h;exact h
 have t0:¬ (c0:Int)<128:=by omega
 have i1:(1:Int)<(M:Int):=by omega
 obtain ⟨d1,hd1⟩:∃ d,c1 % 128=d:=⟨_,rfl⟩
 have n1:bits .andNot .u8 (c1:Int) 128=(d1:Int):=by rw [← hd1];exact andNot128 c1 (by omega)
 have u1:IntKind.u64.wrap (d1:Int)=(d1:Int):=IntWalk.u64_in _ (by omega)
 obtain ⟨D1,hD1⟩:∃ D,d1 * 128=D:=⟨_,rfl⟩
 have m1:(d1:Int) * 128=(D1:Int):=by omega
 have v1:IntKind.u64.wrap (D1:Int)=(D1:Int):=IntWalk.u64_in _ (by omega)
 obtain ⟨A1,hA1⟩:∃ A,A0+D1=A:=⟨_,rfl⟩
 have o1:bits .or .u64 (A0:Int) (D1:Int)=(A1:Int):=by rw [← hA1];exact or_add _ _ 7 (by omega) (by omega) (by omega) (by omega)
 have x1:((c1:Int) == 0)=false:=by simp;omega
 have t1:¬ (c1:Int)<128:=by omega
 have i2:(2:Int)<(M:Int):=by omega
 obtain ⟨d2,hd2⟩:∃ d,c2 % 128=d:=⟨_,rfl⟩
 have n2:bits .andNot .u8 (c2:Int) 128=(d2:Int):=by rw [← hd2];exact andNot128 c2 (by omega)
 have u2:IntKind.u64.wrap (d2:Int)=(d2:Int):=IntWalk.u64_in _ (by omega)
 obtain ⟨D2,hD2⟩:∃ D,d2 * 16384=D:=⟨_,rfl⟩
 have m2:(d2:Int) * 16384=(D2:Int):=by omega
 have v2:IntKind.u64.wrap (D2:Int)=(D2:Int):=IntWalk.u64_in _ (by omega)
 obtain ⟨A2,hA2⟩:∃ A,A1+D2=A:=⟨_,rfl⟩
 have o2:bits .or .u64 (A1:Int) (D2:Int)=(A2:Int):=by rw [← hA2];exact or_add _ _ 14 (by omega) (by omega) (by omega) (by omega)
 have x2:((c2:Int) == 0)=false:=by simp;omega
 have t2:(c2:Int)<128:=by omega
 have q1:(A2:Int) / 2=(n:Int):=by omega
 have q2:bits .and .u64 (A2:Int) 1=0:=by rw [and1 _ (by omega)];omega
 have q3:=xor_zero_i64 n hn
 have q4:IntKind.i64.wrap (n:Int)=(n:Int):=IntWalk.i64_in _ (by omega)
 have q5:IntKind.i64.wrap ((at0:Int)+2)=(at0:Int)+2:=IntWalk.i64_in _ (by omega)
 have q6:IntKind.i64.wrap ((at0:Int)+2+1)=(at0:Int)+2+1:=IntWalk.i64_in _ (by omega)
 have K:Kp w w:=kp_refl _
 clear hr hn hd0 hd1 hd2 hA0 hA1 hA2 hD1 hD2 k0 k1 k2
 go_enter Tryz.func379,Tryz.ntmps379
 go_wp2_with fail
 refine wp_loop_rounds 3 ?_
 rw [rounds_succ]
 go_wp2_with fail
 rw [rounds_succ]
 go_wp2_with fail
 rw [rounds_succ]
 go_wp2_with fail
 refine bodyPost_ret (v:=.tuple #[.int .i64 n,.int .i64 ((at0:Int)+3),.agg #[.int .i64 0,.int .i64 0]]) (by (simp [results,Tryz.results379,go_sem]) <;> omega) rfl ⟨by rw [show ((at0+3:Nat):Int)=(at0:Int)+3 by omega],kp_alloc K _⟩
theorem get_any (v:Value) (bs pre post:List Int) (n:Nat) (hn:n<1048576) (w:World) (hR:RdU w v bs) (hb:bs=pre++(enc n++post)) (hl:bs.length≤100000) :
  Calls Tryz.prog 379 #[v,.int .i64 pre.length] w fun e w'=>e=.returned (.tuple #[.int .i64 n,.int .i64 ((pre++enc n).length:Nat),.agg #[.int .i64 0,.int .i64 0]])∧Kp w w':=by
 obtain ⟨b,off,cap,rfl,hc,hR⟩:=hR
 have hlen:bs.length=pre.length+((enc n).length+post.length):=by rw [hb,List.length_append,List.length_append]
 have hg:∀ i,i<(enc n).length→w.cell? ⟨b,off+pre.length+i,none⟩=some (.int .u8 ((enc n).getD i 0)):=fun i hi=>by
  have h:=hR (pre.length+i) (by omega)
  rw [Nat.add_assoc,h,hb]
  congr 2
  rw [List.getD_eq_getElem?_getD,List.getElem?_append_right (by omega),Nat.add_sub_cancel_left,List.getElem?_append_left hi,List.getD_eq_getElem?_getD]
 rw [hlen] at hc ⊢
 rw [List.length_append]
 have hs:=vz_shape (r:=2 * n) (by omega)
 unfold enc at hg hlen hc ⊢
 rcases hs with ⟨h1,h2⟩ | ⟨h1,h2,h3⟩ | ⟨h1,h2⟩
 ·rw [h2] at hg hlen hc ⊢
  have g0:=hg 0 (by simp)
  exact get_1 b off _ cap pre.length n (2 * n) h1 hn rfl hc (by omega) (by simp only [List.length_cons,List.length_nil];omega) w g0
 ·rw [h3] at hg hlen hc ⊢
  have g0:=hg 0 (by simp)
  have g1:=hg 1 (by simp)
  exact get_2 b off _ cap pre.length n (2 * n % 128+128) (2 * n / 128) (by omega) (by omega) (by omega) hn (by omega) hc (by omega) (by simp only [List.length_cons,List.length_nil];omega) w g0 g1
 ·rw [h2] at hg hlen hc ⊢
  have g0:=hg 0 (by simp)
  have g1:=hg 1 (by simp)
  have g2:=hg 2 (by simp)
  exact get_3 b off _ cap pre.length n (2 * n % 128+128) (2 * n / 128 % 128+128) (2 * n / 16384) (by omega) (by omega) (by omega) (by omega) hn (by omega) hc (by omega) (by simp only [List.length_cons,List.length_nil];omega) w g0 g1 g2
end Go.Proofs.YtgliljnbajohhaaGreatDoor
