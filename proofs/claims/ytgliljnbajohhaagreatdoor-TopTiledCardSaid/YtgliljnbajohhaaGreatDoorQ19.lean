import Derived.Test.YtgliljnbajohhaaGreatDoorQ17
import Derived.Test.YtgliljnbajohhaaGreatDoorQ18
import Derived.RegionTactic
import Derived.BigRegion
import Derived.Test.YtgliljnbajohhaaGreatDoorQ10
import Derived.Shelf.Small.Bits
import Derived.Shelf.Spec.BitsCarry
import Derived.Test.YtgliljnbajohhaaGreatDoorQ00
set_option linter.unusedVariables false
set_option linter.unusedSimpArgs false
namespace Go.Proofs.YtgliljnbajohhaaGreatDoor
open Go.RowKit Go.Proofs.Top Go.Proofs.Geo
set_option maxHeartbeats 4000000 in
set_option maxRecDepth 20000 in
theorem ck1 (js:List JU) (rs:List RT) (hok:CfgIs js rs) (uj ur:Value) (t:Nat) (w:World) (hj:SlR J_jur 5 w uj js) (hr:SlR J_rat 2 w ur rs) (hc:w.heap[t]? = some (.cells #[uj,ur,.slice none 0 0,.slice none 0 0,.slice none 0 0,.slice none 0 0] 31 (0,0))) :
  Calls Tryz.prog 31 #[.pointer (some ⟨t,0,none⟩)] w fun e w'=>e=.returned (.tuple #[.int .i64 0,.int .i64 0])∧Kp w w':=by
 obtain ⟨bj,oj,cj,hju,_⟩:=id hj
 obtain ⟨bq,oq,cq,hqu,_⟩:=id hr
 subst hju hqu
 have HC:=Lib.hid (fun w' (k:Kp w w')=>jcheck_ok js hok.jok _ w' (hj.kp stays_jur k))
 generalize js.length=nj at *
 generalize rs.length=nr at *
 have x0:w.cell? ⟨t,0,none⟩=some (.slice (some ⟨bj,oj,none⟩) nj cj):=by rw [cell_of_row w t _ _ _ _ hc];rfl
 have x1:w.cell? ⟨t,1,none⟩=some (.slice (some ⟨bq,oq,none⟩) nr cq):=by rw [cell_of_row w t _ _ _ _ hc];rfl
 have x2:w.cell? ⟨t,2,none⟩=some (.slice none 0 0):=by rw [cell_of_row w t _ _ _ _ hc];rfl
 have x3:w.cell? ⟨t,3,none⟩=some (.slice none 0 0):=by rw [cell_of_row w t _ _ _ _ hc];rfl
 have x4:w.cell? ⟨t,4,none⟩=some (.slice none 0 0):=by rw [cell_of_row w t _ _ _ _ hc];rfl
 have x5:w.cell? ⟨t,5,none⟩=some (.slice none 0 0):=by rw [cell_of_row w t _ _ _ _ hc];rfl
 have lx:=cell_lt x0
 clear hc hj hr
 go_enter Tryz.func31,Tryz.ntmps31
 go_wp2_with (go_at_call 32;refine (HC.out _ (by (repeat (first | exact kp_refl _ | apply kp_alloc | apply kp_drew | apply kp_drewN)))).mono ?_;rintro e w1 ⟨rfl,hk⟩)
 go_ret2
 exact ⟨rfl,hk⟩
set_option maxHeartbeats 4000000 in
set_option maxRecDepth 20000 in
theorem ck2 (js:List JU) (rs:List RT) (hok:CfgIs js rs) (uj ur:Value) (t:Nat) (w:World) (hj:SlR J_jur 5 w uj js) (hr:SlR J_rat 2 w ur rs) (hc:w.heap[t]? = some (.cells #[uj,ur,.slice none 0 0,.slice none 0 0,.slice none 0 0,.slice none 0 0] 31 (0,0))) :
  Calls Tryz.prog 33 #[.pointer (some ⟨t,0,none⟩)] w fun e w'=>e=.returned (.tuple #[.int .i64 0,.int .i64 0])∧Kp w w':=by
 obtain ⟨bj,oj,cj,hju,_⟩:=id hj
 obtain ⟨bq,oq,cq,hqu,_⟩:=id hr
 subst hju hqu
 have HC:=Lib.hid (fun w' (k:Kp w w')=>regions_ok js rs hok _ _ w' (hj.kp stays_jur k) (hr.kp stays_rat k))
 generalize js.length=nj at *
 generalize rs.length=nr at *
 have x0:w.cell? ⟨t,0,none⟩=some (.slice (some ⟨bj,oj,none⟩) nj cj):=by rw [cell_of_row w t _ _ _ _ hc];rfl
 have x1:w.cell? ⟨t,1,none⟩=some (.slice (some ⟨bq,oq,none⟩) nr cq):=by rw [cell_of_row w t _ _ _ _ hc];rfl
 have x2:w.cell? ⟨t,2,none⟩=some (.slice none 0 0):=by rw [cell_of_row w t _ _ _ _ hc];rfl
 have x3:w.cell? ⟨t,3,none⟩=some (.slice none 0 0):=by rw [cell_of_row w t _ _ _ _ hc];rfl
 have x4:w.cell? ⟨t,4,none⟩=some (.slice none 0 0):=by rw [cell_of_row w t _ _ _ _ hc];rfl
 have x5:w.cell? ⟨t,5,none⟩=some (.slice none 0 0):=by rw [cell_of_row w t _ _ _ _ hc];rfl
 have lx:=cell_lt x0
 clear hc hj hr
 go_enter Tryz.func33,Tryz.ntmps33
 go_wp2_with (go_at_call 34;refine (HC.out _ (by (repeat (first | exact kp_refl _ | apply kp_alloc | apply kp_drew | apply kp_drewN)))).mono ?_;rintro e w1 ⟨rfl,hk⟩)
 go_ret2
 exact ⟨rfl,hk⟩
set_option maxHeartbeats 4000000 in
set_option maxRecDepth 20000 in
theorem ck3 (js:List JU) (rs:List RT) (hok:CfgIs js rs) (uj ur:Value) (t:Nat) (w:World) (hj:SlR J_jur 5 w uj js) (hr:SlR J_rat 2 w ur rs) (hc:w.heap[t]? = some (.cells #[uj,ur,.slice none 0 0,.slice none 0 0,.slice none 0 0,.slice none 0 0] 31 (0,0))) :
  Calls Tryz.prog 35 #[.pointer (some ⟨t,0,none⟩)] w fun e w'=>e=.returned (.tuple #[.int .i64 0,.int .i64 0])∧Kp w w':=by
 obtain ⟨bj,oj,cj,hju,_⟩:=id hj
 obtain ⟨bq,oq,cq,hqu,_⟩:=id hr
 subst hju hqu
 have HC:=Lib.hid (fun w' (k:Kp w w')=>rates_ok js rs hok _ _ w' (hj.kp stays_jur k) (hr.kp stays_rat k))
 generalize js.length=nj at *
 generalize rs.length=nr at *
 have x0:w.cell? ⟨t,0,none⟩=some (.slice (some ⟨bj,oj,none⟩) nj cj):=by rw [cell_of_row w t _ _ _ _ hc];rfl
 have x1:w.cell? ⟨t,1,none⟩=some (.slice (some ⟨bq,oq,none⟩) nr cq):=by rw [cell_of_row w t _ _ _ _ hc];rfl
 have x2:w.cell? ⟨t,2,none⟩=some (.slice none 0 0):=by rw [cell_of_row w t _ _ _ _ hc];rfl
 have x3:w.cell? ⟨t,3,none⟩=some (.slice none 0 0):=by rw [cell_of_row w t _ _ _ _ hc];rfl
 have x4:w.cell? ⟨t,4,none⟩=some (.slice none 0 0):=by rw [cell_of_row w t _ _ _ _ hc];rfl
 have x5:w.cell? ⟨t,5,none⟩=some (.slice none 0 0):=by rw [cell_of_row w t _ _ _ _ hc];rfl
 have lx:=cell_lt x0
 clear hc hj hr
 go_enter Tryz.func35,Tryz.ntmps35
 go_wp2_with (go_at_call 36;refine (HC.out _ (by (repeat (first | exact kp_refl _ | apply kp_alloc | apply kp_drew | apply kp_drewN)))).mono ?_;rintro e w1 ⟨rfl,hk⟩)
 go_ret2
 exact ⟨rfl,hk⟩
set_option maxHeartbeats 4000000 in
set_option maxRecDepth 20000 in
theorem ck4 (js:List JU) (rs:List RT) (hok:CfgIs js rs) (uj ur:Value) (t:Nat) (w:World) (hj:SlR J_jur 5 w uj js) (hr:SlR J_rat 2 w ur rs) (hc:w.heap[t]? = some (.cells #[uj,ur,.slice none 0 0,.slice none 0 0,.slice none 0 0,.slice none 0 0] 31 (0,0))) :
  Calls Tryz.prog 37 #[.pointer (some ⟨t,0,none⟩)] w fun e w'=>e=.returned (.tuple #[.int .i64 0,.int .i64 0])∧Kp w w':=by
 obtain ⟨bj,oj,cj,hju,_⟩:=id hj
 obtain ⟨bq,oq,cq,hqu,_⟩:=id hr
 subst hju hqu
 generalize js.length=nj at *
 generalize rs.length=nr at *
 have x0:w.cell? ⟨t,0,none⟩=some (.slice (some ⟨bj,oj,none⟩) nj cj):=by rw [cell_of_row w t _ _ _ _ hc];rfl
 have x1:w.cell? ⟨t,1,none⟩=some (.slice (some ⟨bq,oq,none⟩) nr cq):=by rw [cell_of_row w t _ _ _ _ hc];rfl
 have x2:w.cell? ⟨t,2,none⟩=some (.slice none 0 0):=by rw [cell_of_row w t _ _ _ _ hc];rfl
 have x3:w.cell? ⟨t,3,none⟩=some (.slice none 0 0):=by rw [cell_of_row w t _ _ _ _ hc];rfl
 have x4:w.cell? ⟨t,4,none⟩=some (.slice none 0 0):=by rw [cell_of_row w t _ _ _ _ hc];rfl
 have x5:w.cell? ⟨t,5,none⟩=some (.slice none 0 0):=by rw [cell_of_row w t _ _ _ _ hc];rfl
 have lx:=cell_lt x0
 clear hc hj hr
 go_enter Tryz.func37,Tryz.ntmps37
 go_wp2_with (first | (go_at_call 38;refine (mx_none _).mono ?_;rintro e w1 ⟨rfl,hk⟩;have y0:=kp_cell hk x0;have y1:=kp_cell hk x1;have y2:=kp_cell hk x2;have y3:=kp_cell hk x3;have y4:=kp_cell hk x4;have y5:=kp_cell hk x5;have ly:=cell_lt y0) | (go_at_call 39;refine (known_mx _ _ _ _ _ _ _ _).mono ?_;rintro e w2 ⟨rfl,hk2⟩;have K2:=kp_trans hk hk2))
 go_ret2
 exact ⟨rfl,K2⟩
set_option maxHeartbeats 4000000 in
set_option maxRecDepth 20000 in
theorem ck5 (js:List JU) (rs:List RT) (hok:CfgIs js rs) (uj ur:Value) (t:Nat) (w:World) (hj:SlR J_jur 5 w uj js) (hr:SlR J_rat 2 w ur rs) (hc:w.heap[t]? = some (.cells #[uj,ur,.slice none 0 0,.slice none 0 0,.slice none 0 0,.slice none 0 0] 31 (0,0))) :
  Calls Tryz.prog 41 #[.pointer (some ⟨t,0,none⟩)] w fun e w'=>e=.returned (.tuple #[.int .i64 0,.int .i64 0])∧Kp w w':=by
 obtain ⟨bj,oj,cj,hju,_⟩:=id hj
 obtain ⟨bq,oq,cq,hqu,_⟩:=id hr
 subst hju hqu
 generalize js.length=nj at *
 generalize rs.length=nr at *
 have x0:w.cell? ⟨t,0,none⟩=some (.slice (some ⟨bj,oj,none⟩) nj cj):=by rw [cell_of_row w t _ _ _ _ hc];rfl
 have x1:w.cell? ⟨t,1,none⟩=some (.slice (some ⟨bq,oq,none⟩) nr cq):=by rw [cell_of_row w t _ _ _ _ hc];rfl
 have x2:w.cell? ⟨t,2,none⟩=some (.slice none 0 0):=by rw [cell_of_row w t _ _ _ _ hc];rfl
 have x3:w.cell? ⟨t,3,none⟩=some (.slice none 0 0):=by rw [cell_of_row w t _ _ _ _ hc];rfl
 have x4:w.cell? ⟨t,4,none⟩=some (.slice none 0 0):=by rw [cell_of_row w t _ _ _ _ hc];rfl
 have x5:w.cell? ⟨t,5,none⟩=some (.slice none 0 0):=by rw [cell_of_row w t _ _ _ _ hc];rfl
 have lx:=cell_lt x0
 clear hc hj hr
 go_enter Tryz.func41,Tryz.ntmps41
 go_wp2_with (first | (go_at_call 42;refine (ct_none _).mono ?_;rintro e w1 ⟨rfl,hk⟩;have y0:=kp_cell hk x0;have y1:=kp_cell hk x1;have y2:=kp_cell hk x2;have y3:=kp_cell hk x3;have y4:=kp_cell hk x4;have y5:=kp_cell hk x5;have ly:=cell_lt y0) | (go_at_call 43;refine (known_ct _ _ _ _ _ _ _ _).mono ?_;rintro e w2 ⟨rfl,hk2⟩;have K2:=kp_trans hk hk2))
 go_ret2
 exact ⟨rfl,K2⟩
set_option maxHeartbeats 4000000 in
set_option maxRecDepth 20000 in
theorem ck6 (js:List JU) (rs:List RT) (hok:CfgIs js rs) (uj ur:Value) (t:Nat) (w:World) (hj:SlR J_jur 5 w uj js) (hr:SlR J_rat 2 w ur rs) (hc:w.heap[t]? = some (.cells #[uj,ur,.slice none 0 0,.slice none 0 0,.slice none 0 0,.slice none 0 0] 31 (0,0))) :
  Calls Tryz.prog 45 #[.pointer (some ⟨t,0,none⟩)] w fun e w'=>e=.returned (.tuple #[.int .i64 0,.int .i64 0])∧Kp w w':=by
 obtain ⟨bj,oj,cj,hju,_⟩:=id hj
 obtain ⟨bq,oq,cq,hqu,_⟩:=id hr
 subst hju hqu
 generalize js.length=nj at *
 generalize rs.length=nr at *
 have x0:w.cell? ⟨t,0,none⟩=some (.slice (some ⟨bj,oj,none⟩) nj cj):=by rw [cell_of_row w t _ _ _ _ hc];rfl
 have x1:w.cell? ⟨t,1,none⟩=some (.slice (some ⟨bq,oq,none⟩) nr cq):=by rw [cell_of_row w t _ _ _ _ hc];rfl
 have x2:w.cell? ⟨t,2,none⟩=some (.slice none 0 0):=by rw [cell_of_row w t _ _ _ _ hc];rfl
 have x3:w.cell? ⟨t,3,none⟩=some (.slice none 0 0):=by rw [cell_of_row w t _ _ _ _ hc];rfl
 have x4:w.cell? ⟨t,4,none⟩=some (.slice none 0 0):=by rw [cell_of_row w t _ _ _ _ hc];rfl
 have x5:w.cell? ⟨t,5,none⟩=some (.slice none 0 0):=by rw [cell_of_row w t _ _ _ _ hc];rfl
 have lx:=cell_lt x0
 clear hc hj hr
 go_enter Tryz.func45,Tryz.ntmps45
 go_wp2_with (first | (go_at_call 46;refine (hd_none _).mono ?_;rintro e w1 ⟨rfl,hk⟩;have y0:=kp_cell hk x0;have y1:=kp_cell hk x1;have y2:=kp_cell hk x2;have y3:=kp_cell hk x3;have y4:=kp_cell hk x4;have y5:=kp_cell hk x5;have ly:=cell_lt y0) | (go_at_call 47;refine (known_hd _ _ _ _ _ _ _ _).mono ?_;rintro e w2 ⟨rfl,hk2⟩;have K2:=kp_trans hk hk2))
 go_ret2
 exact ⟨rfl,K2⟩
set_option maxHeartbeats 4000000 in
set_option maxRecDepth 20000 in
theorem ck7 (js:List JU) (rs:List RT) (hok:CfgIs js rs) (uj ur:Value) (t:Nat) (w:World) (hj:SlR J_jur 5 w uj js) (hr:SlR J_rat 2 w ur rs) (hc:w.heap[t]? = some (.cells #[uj,ur,.slice none 0 0,.slice none 0 0,.slice none 0 0,.slice none 0 0] 31 (0,0))) :
  Calls Tryz.prog 49 #[.pointer (some ⟨t,0,none⟩)] w fun e w'=>e=.returned (.tuple #[.int .i64 0,.int .i64 0])∧Kp w w':=by
 obtain ⟨bj,oj,cj,hju,_⟩:=id hj
 obtain ⟨bq,oq,cq,hqu,_⟩:=id hr
 subst hju hqu
 generalize js.length=nj at *
 generalize rs.length=nr at *
 have x0:w.cell? ⟨t,0,none⟩=some (.slice (some ⟨bj,oj,none⟩) nj cj):=by rw [cell_of_row w t _ _ _ _ hc];rfl
 have x1:w.cell? ⟨t,1,none⟩=some (.slice (some ⟨bq,oq,none⟩) nr cq):=by rw [cell_of_row w t _ _ _ _ hc];rfl
 have x2:w.cell? ⟨t,2,none⟩=some (.slice none 0 0):=by rw [cell_of_row w t _ _ _ _ hc];rfl
 have x3:w.cell? ⟨t,3,none⟩=some (.slice none 0 0):=by rw [cell_of_row w t _ _ _ _ hc];rfl
 have x4:w.cell? ⟨t,4,none⟩=some (.slice none 0 0):=by rw [cell_of_row w t _ _ _ _ hc];rfl
 have x5:w.cell? ⟨t,5,none⟩=some (.slice none 0 0):=by rw [cell_of_row w t _ _ _ _ hc];rfl
 have lx:=cell_lt x0
 clear hc hj hr
 go_enter Tryz.func49,Tryz.ntmps49
 go_upto_region 2 with (go_at_call 50;refine (st_none _).mono ?_;rintro e w1 ⟨p,rfl,hk⟩)
 go_region
 go_wp2_with fail
 go_ret2
 exact ⟨rfl,(by (repeat (first | exact hk | apply kp_alloc | apply kp_drew | apply kp_drewN)))⟩
set_option maxHeartbeats 4000000 in
set_option maxRecDepth 20000 in
theorem ck8 (js:List JU) (rs:List RT) (hok:CfgIs js rs) (uj ur:Value) (t:Nat) (w:World) (hj:SlR J_jur 5 w uj js) (hr:SlR J_rat 2 w ur rs) (hc:w.heap[t]? = some (.cells #[uj,ur,.slice none 0 0,.slice none 0 0,.slice none 0 0,.slice none 0 0] 31 (0,0))) :
  Calls Tryz.prog 51 #[.pointer (some ⟨t,0,none⟩)] w fun e w'=>e=.returned (.tuple #[.int .i64 0,.int .i64 0])∧Kp w w':=by
 obtain ⟨bj,oj,cj,hju,_⟩:=id hj
 obtain ⟨bq,oq,cq,hqu,_⟩:=id hr
 subst hju hqu
 have HC:=Lib.hid (fun w' (k:Kp w w')=>bytes_any js rs hok.cfg _ _ w' (hj.kp stays_jur k) (hr.kp stays_rat k))
 generalize js.length=nj at *
 generalize rs.length=nr at *
 have x0:w.cell? ⟨t,0,none⟩=some (.slice (some ⟨bj,oj,none⟩) nj cj):=by rw [cell_of_row w t _ _ _ _ hc];rfl
 have x1:w.cell? ⟨t,1,none⟩=some (.slice (some ⟨bq,oq,none⟩) nr cq):=by rw [cell_of_row w t _ _ _ _ hc];rfl
 have x2:w.cell? ⟨t,2,none⟩=some (.slice none 0 0):=by rw [cell_of_row w t _ _ _ _ hc];rfl
 have x3:w.cell? ⟨t,3,none⟩=some (.slice none 0 0):=by rw [cell_of_row w t _ _ _ _ hc];rfl
 have x4:w.cell? ⟨t,4,none⟩=some (.slice none 0 0):=by rw [cell_of_row w t _ _ _ _ hc];rfl
 have x5:w.cell? ⟨t,5,none⟩=some (.slice none 0 0):=by rw [cell_of_row w t _ _ _ _ hc];rfl
 have lx:=cell_lt x0
 clear hc hj hr
 go_enter Tryz.func51,Tryz.ntmps51
 go_wp2_with (go_at_call 16;refine (HC.out _ (by (repeat (first | exact kp_refl _ | apply kp_alloc | apply kp_drew | apply kp_drewN)))).mono ?_;rintro e w1 ⟨v,rfl,ho,hk⟩;clear ho)
 go_ret2
 exact ⟨rfl,hk⟩
set_option maxHeartbeats 16000000 in
set_option maxRecDepth 20000 in
theorem ccheck_ok (js:List JU) (rs:List RT) (hok:CfgIs js rs) (uj ur:Value) (w:World) (hj:SlR J_jur 5 w uj js) (hr:SlR J_rat 2 w ur rs) :
  Calls Tryz.prog 15 #[.agg #[uj,ur,.slice none 0 0,.slice none 0 0,.slice none 0 0,.slice none 0 0]] w fun e w'=>e=.returned (.tuple #[.int .i64 0,.int .i64 0,.int .i64 0])∧Kp w w':=by
 have HJ:=Lib.hid (fun w' (k:Kp w w')=>hj.kp stays_jur k)
 have HR:=Lib.hid (fun w' (k:Kp w w')=>hr.kp stays_rat k)
 obtain ⟨bj,oj,cj,rfl,_⟩:=hj
 obtain ⟨bq,oq,cq,rfl,_⟩:=hr
 go_enter Tryz.func15,Tryz.ntmps15
 go_upto_region 1 with fail
 obtain ⟨W,hW⟩:∃ W,w.alloc (.cells #[.slice (some ⟨bj,oj,none⟩) js.length cj,.slice (some ⟨bq,oq,none⟩) rs.length cq,.slice none 0 0,.slice none 0 0,.slice none 0 0,.slice none 0 0] 31)=W:=⟨_,rfl⟩
 obtain ⟨t,ht⟩:∃ t,w.heap.size=t:=⟨_,rfl⟩
 have KW:Kp w W:=by rw [← hW];exact kp_alloc (kp_refl _) _
 have q0:W.heap[t]? = some (.cells #[.slice (some ⟨bj,oj,none⟩) js.length cj,.slice (some ⟨bq,oq,none⟩) rs.length cq,.slice none 0 0,.slice none 0 0,.slice none 0 0,.slice none 0 0] 31 (0,0)):=by rw [← hW,← ht];exact heap_alloc_new _ _
 simp only [hW,ht]
 clear hW ht
 go_upto_region 2 with fail
 obtain ⟨s,hs⟩:∃ t,W.heap.size=t:=⟨_,rfl⟩
 obtain ⟨W0,hW0⟩:∃ X,W.alloc (.cells #[.int .i64 1,.func (.func 31) #[] #[.pointer (some ⟨t,0,none⟩)],.int .i64 2,.func (.func 33) #[] #[.pointer (some ⟨t,0,none⟩)],.int .i64 3,.func (.func 35) #[] #[.pointer (some ⟨t,0,none⟩)],.int .i64 4,.func (.func 37) #[] #[.pointer (some ⟨t,0,none⟩)],.int .i64 5,.func (.func 41) #[] #[.pointer (some ⟨t,0,none⟩)],.int .i64 6,.func (.func 45) #[] #[.pointer (some ⟨t,0,none⟩)],.int .i64 7,.func (.func 49) #[] #[.pointer (some ⟨t,0,none⟩)],.int .i64 0,.func (.func 51) #[] #[.pointer (some ⟨t,0,none⟩)]] 120)=X:=⟨_,rfl⟩
 have KW1:Kp W W0:=by rw [← hW0];exact kp_alloc (kp_refl _) _
 have qs:W0.heap[s]? = some (.cells #[.int .i64 1,.func (.func 31) #[] #[.pointer (some ⟨t,0,none⟩)],.int .i64 2,.func (.func 33) #[] #[.pointer (some ⟨t,0,none⟩)],.int .i64 3,.func (.func 35) #[] #[.pointer (some ⟨t,0,none⟩)],.int .i64 4,.func (.func 37) #[] #[.pointer (some ⟨t,0,none⟩)],.int .i64 5,.func (.func 41) #[] #[.pointer (some ⟨t,0,none⟩)],.int .i64 6,.func (.func 45) #[] #[.pointer (some ⟨t,0,none⟩)],.int .i64 7,.func (.func 49) #[] #[.pointer (some ⟨t,0,none⟩)],.int .i64 0,.func (.func 51) #[] #[.pointer (some ⟨t,0,none⟩)]] 120 (0,0)):=by rw [← hW0,← hs];exact heap_alloc_new _ _
 have HCL:Hid (∀ j v,(#[.int .i64 1,.func (.func 31) #[] #[.pointer (some ⟨t,0,none⟩)],.int .i64 2,.func (.func 33) #[] #[.pointer (some ⟨t,0,none⟩)],.int .i64 3,.func (.func 35) #[] #[.pointer (some ⟨t,0,none⟩)],.int .i64 4,.func (.func 37) #[] #[.pointer (some ⟨t,0,none⟩)],.int .i64 5,.func (.func 41) #[] #[.pointer (some ⟨t,0,none⟩)],.int .i64 6,.func (.func 45) #[] #[.pointer (some ⟨t,0,none⟩)],.int .i64 7,.func (.func 49) #[] #[.pointer (some ⟨t,0,none⟩)],.int .i64 0,.func (.func 51) #[] #[.pointer (some ⟨t,0,none⟩)]]:Array Value)[j]? = some v→W0.cell? ⟨s,j,none⟩=some v):=Lib.hid (fun j v h=>by rw [cell_of_row W0 s _ _ _ _ qs];exact h)
 have HB:Hid (∀ w',Kp W0 w'→w'.heap[t]? = some (.cells #[.slice (some ⟨bj,oj,none⟩) js.length cj,.slice (some ⟨bq,oq,none⟩) rs.length cq,.slice none 0 0,.slice none 0 0,.slice none 0 0,.slice none 0 0] 31 (0,0))):=Lib.hid (fun w' k=>((kp_trans KW1 k).block t (Array.getElem?_eq_some_iff.1 q0).1).trans q0)
 have KW0:=kp_trans KW KW1
 simp only [hW0,hs]
 clear hW0 hs qs q0 KW1 KW
 have hst:=fun (F:Nat) (a:Addr) (m:Mode) (w:World)=>run_store Tryz.prog w a (.func (.func F) #[] #[.pointer (some ⟨t,0,none⟩)]) m rfl
 go_wp2_with fail
 go_loopw [29] (fun i wr=>∃ k:Nat,k≤8∧i=.int .i64 k∧Kp W0 wr) (fun i _=>8 - (intOf i).toNat)
 case atStart=>exact ⟨0,by omega,rfl,kp_refl _⟩
 case round =>
  obtain ⟨k,hk,rfl,hkp⟩:=hrel
  have hk':k=0∨k=1∨k=2∨k=3∨k=4∨k=5∨k=6∨k=7∨k=8:=by omega
  rcases hk' with rfl | rfl | rfl | rfl | rfl | rfl | rfl | rfl | rfl
  ·have e0:=kp_cell hkp (HCL.out 0 _ rfl)
   have e1:=kp_cell hkp (HCL.out 1 _ rfl)
   have le:=cell_lt e0
   go_wp2_with (go_at_call 31;refine (ck1 js rs hok _ _ t _ (HJ.out _ (kp_trans (kp_trans KW0 hkp) (by (repeat (first | exact kp_refl _ | apply kp_alloc | apply kp_drew | apply kp_drewN))))) (HR.out _ (kp_trans (kp_trans KW0 hkp) (by (repeat (first | exact kp_refl _ | apply kp_alloc | apply kp_drew | apply kp_drewN))))) (HB.out _ (kp_trans hkp (by (repeat (first | exact kp_refl _ | apply kp_alloc | apply kp_drew | apply kp_drewN)))))).mono ?_;rintro e w2 ⟨rfl,hk2⟩)
   exact ⟨⟨1,by omega,rfl,kp_trans hkp (kp_trans (by (repeat (first | exact kp_refl _ | apply kp_alloc | apply kp_drew | apply kp_drewN))) hk2)⟩,by simp [intOf]⟩
  ·have e0:=kp_cell hkp (HCL.out 2 _ rfl)
   have e1:=kp_cell hkp (HCL.out 3 _ rfl)
   have le:=cell_lt e0
   go_wp2_with (go_at_call 33;refine (ck2 js rs hok _ _ t _ (HJ.out _ (kp_trans (kp_trans KW0 hkp) (by (repeat (first | exact kp_refl _ | apply kp_alloc | apply kp_drew | apply kp_drewN))))) (HR.out _ (kp_trans (kp_trans KW0 hkp) (by (repeat (first | exact kp_refl _ | apply kp_alloc | apply kp_drew | apply kp_drewN))))) (HB.out _ (kp_trans hkp (by (repeat (first | exact kp_refl _ | apply kp_alloc | apply kp_drew | apply kp_drewN)))))).mono ?_;rintro e w2 ⟨rfl,hk2⟩)
   exact ⟨⟨2,by omega,rfl,kp_trans hkp (kp_trans (by (repeat (first | exact kp_refl _ | apply kp_alloc | apply kp_drew | apply kp_drewN))) hk2)⟩,by simp [intOf]⟩
  ·have e0:=kp_cell hkp (HCL.out 4 _ rfl)
   have e1:=kp_cell hkp (HCL.out 5 _ rfl)
   have le:=cell_lt e0
   go_wp2_with (go_at_call 35;refine (ck3 js rs hok _ _ t _ (HJ.out _ (kp_trans (kp_trans KW0 hkp) (by (repeat (first | exact kp_refl _ | apply kp_alloc | apply kp_drew | apply kp_drewN))))) (HR.out _ (kp_trans (kp_trans KW0 hkp) (by (repeat (first | exact kp_refl _ | apply kp_alloc | apply kp_drew | apply kp_drewN))))) (HB.out _ (kp_trans hkp (by (repeat (first | exact kp_refl _ | apply kp_alloc | apply kp_drew | apply kp_drewN)))))).mono ?_;rintro e w2 ⟨rfl,hk2⟩)
   exact ⟨⟨3,by omega,rfl,kp_trans hkp (kp_trans (by (repeat (first | exact kp_refl _ | apply kp_alloc | apply kp_drew | apply kp_drewN))) hk2)⟩,by simp [intOf]⟩
  ·have e0:=kp_cell hkp (HCL.out 6 _ rfl)
   have e1:=kp_cell hkp (HCL.out 7 _ rfl)
   have le:=cell_lt e0
   go_wp2_with (go_at_call 37;refine (ck4 js rs hok _ _ t _ (HJ.out _ (kp_trans (kp_trans KW0 hkp) (by (repeat (first | exact kp_refl _ | apply kp_alloc | apply kp_drew | apply kp_drewN))))) (HR.out _ (kp_trans (kp_trans KW0 hkp) (by (repeat (first | exact kp_refl _ | apply kp_alloc | apply kp_drew | apply kp_drewN))))) (HB.out _ (kp_trans hkp (by (repeat (first | exact kp_refl _ | apply kp_alloc | apply kp_drew | apply kp_drewN)))))).mono ?_;rintro e w2 ⟨rfl,hk2⟩)
   exact ⟨⟨4,by omega,rfl,kp_trans hkp (kp_trans (by (repeat (first | exact kp_refl _ | apply kp_alloc | apply kp_drew | apply kp_drewN))) hk2)⟩,by simp [intOf]⟩
  ·have e0:=kp_cell hkp (HCL.out 8 _ rfl)
   have e1:=kp_cell hkp (HCL.out 9 _ rfl)
   have le:=cell_lt e0
   go_wp2_with (go_at_call 41;refine (ck5 js rs hok _ _ t _ (HJ.out _ (kp_trans (kp_trans KW0 hkp) (by (repeat (first | exact kp_refl _ | apply kp_alloc | apply kp_drew | apply kp_drewN))))) (HR.out _ (kp_trans (kp_trans KW0 hkp) (by (repeat (first | exact kp_refl _ | apply kp_alloc | apply kp_drew | apply kp_drewN))))) (HB.out _ (kp_trans hkp (by (repeat (first | exact kp_refl _ | apply kp_alloc | apply kp_drew | apply kp_drewN)))))).mono ?_;rintro e w2 ⟨rfl,hk2⟩)
   exact ⟨⟨5,by omega,rfl,kp_trans hkp (kp_trans (by (repeat (first | exact kp_refl _ | apply kp_alloc | apply kp_drew | apply kp_drewN))) hk2)⟩,by simp [intOf]⟩
  ·have e0:=kp_cell hkp (HCL.out 10 _ rfl)
   have e1:=kp_cell hkp (HCL.out 11 _ rfl)
   have le:=cell_lt e0
   go_wp2_with (go_at_call 45;refine (ck6 js rs hok _ _ t _ (HJ.out _ (kp_trans (kp_trans KW0 hkp) (by (repeat (first | exact kp_refl _ | apply kp_alloc | apply kp_drew | apply kp_drewN))))) (HR.out _ (kp_trans (kp_trans KW0 hkp) (by (repeat (first | exact kp_refl _ | apply kp_alloc | apply kp_drew | apply kp_drewN))))) (HB.out _ (kp_trans hkp (by (repeat (first | exact kp_refl _ | apply kp_alloc | apply kp_drew | apply kp_drewN)))))).mono ?_;rintro e w2 ⟨rfl,hk2⟩)
   exact ⟨⟨6,by omega,rfl,kp_trans hkp (kp_trans (by (repeat (first | exact kp_refl _ | apply kp_alloc | apply kp_drew | apply kp_drewN))) hk2)⟩,by simp [intOf]⟩
  ·have e0:=kp_cell hkp (HCL.out 12 _ rfl)
   have e1:=kp_cell hkp (HCL.out 13 _ rfl)
   have le:=cell_lt e0
   go_wp2_with (go_at_call 49;refine (ck7 js rs hok _ _ t _ (HJ.out _ (kp_trans (kp_trans KW0 hkp) (by (repeat (first | exact kp_refl _ | apply kp_alloc | apply kp_drew | apply kp_drewN))))) (HR.out _ (kp_trans (kp_trans KW0 hkp) (by (repeat (first | exact kp_refl _ | apply kp_alloc | apply kp_drew | apply kp_drewN))))) (HB.out _ (kp_trans hkp (by (repeat (first | exact kp_refl _ | apply kp_alloc | apply kp_drew | apply kp_drewN)))))).mono ?_;rintro e w2 ⟨rfl,hk2⟩)
   exact ⟨⟨7,by omega,rfl,kp_trans hkp (kp_trans (by (repeat (first | exact kp_refl _ | apply kp_alloc | apply kp_drew | apply kp_drewN))) hk2)⟩,by simp [intOf]⟩
  ·have e0:=kp_cell hkp (HCL.out 14 _ rfl)
   have e1:=kp_cell hkp (HCL.out 15 _ rfl)
   have le:=cell_lt e0
   go_wp2_with (go_at_call 51;refine (ck8 js rs hok _ _ t _ (HJ.out _ (kp_trans (kp_trans KW0 hkp) (by (repeat (first | exact kp_refl _ | apply kp_alloc | apply kp_drew | apply kp_drewN))))) (HR.out _ (kp_trans (kp_trans KW0 hkp) (by (repeat (first | exact kp_refl _ | apply kp_alloc | apply kp_drew | apply kp_drewN))))) (HB.out _ (kp_trans hkp (by (repeat (first | exact kp_refl _ | apply kp_alloc | apply kp_drew | apply kp_drewN)))))).mono ?_;rintro e w2 ⟨rfl,hk2⟩)
   exact ⟨⟨8,by omega,rfl,kp_trans hkp (kp_trans (by (repeat (first | exact kp_refl _ | apply kp_alloc | apply kp_drew | apply kp_drewN))) hk2)⟩,by simp [intOf]⟩
  ·go_wp2_with fail
   go_ret3
   exact ⟨rfl,kp_trans KW0 hkp⟩
theorem cfg_pos (js:List JU) (rs:List RT) (hok:CfgOk js rs):0<(encCfg js rs).length:=by
 unfold encCfg encA
 have:=(enc_len (n:=js.length) (by have:=hok.jle;omega)).1
 simp only [List.length_append];omega
theorem row6_set {w:World} {t:Nat} {T:TypeId} {a0 a1 a2 a3 a4 a5:Value} (h:w.heap[t]? = some (.cells #[a0,a1,a2,a3,a4,a5] T (0,0))) (v0 v1 v2 v3 v4 v5:Value) :
  ((((((w.setCell ⟨t,0,none⟩ v0).setCell ⟨t,1,none⟩ v1).setCell ⟨t,2,none⟩ v2).setCell ⟨t,3,none⟩ v3).setCell ⟨t,4,none⟩ v4).setCell ⟨t,5,none⟩ v5).heap[t]? = some (.cells #[v0,v1,v2,v3,v4,v5] T (0,0)):=by
 rw [heap_setCell_same _ t _ _ _ _ (heap_setCell_same _ t _ _ _ _ (heap_setCell_same _ t _ _ _ _ (heap_setCell_same _ t _ _ _ _ (heap_setCell_same _ t _ _ _ _ (heap_setCell_same _ t _ _ _ _ h)))))]
 rfl
theorem row2_set {w:World} {t:Nat} {T:TypeId} {a0 a1:Value} (h:w.heap[t]? = some (.cells #[a0,a1] T (0,0))) (v0 v1:Value) :
  ((w.setCell ⟨t,0,none⟩ v0).setCell ⟨t,1,none⟩ v1).heap[t]? = some (.cells #[v0,v1] T (0,0)):=by
 rw [heap_setCell_same _ t _ _ _ _ (heap_setCell_same _ t _ _ _ _ h)]
 rfl
theorem IsJ.slice {B:Nat} {w:World} {bl:List Nat} {u:Value} {js:List JU} (h:IsJ B w bl u js):∃ p c,u=.slice p js.length c:=ListIs.slice h
theorem IsR.slice {B:Nat} {w:World} {bl:List Nat} {u:Value} {rs:List RT} (h:IsR B w bl u rs):∃ p c,u=.slice p rs.length c:=ListIs.slice h
set_option maxHeartbeats 8000000 in
set_option maxRecDepth 100000 in
theorem read_any (v:Value) (js:List JU) (rs:List RT) (hok:CfgOk js rs) (w:World) (hR:RdU w v (encCfg js rs)) :
  Calls Tryz.prog 17 #[v] w fun e w'=>∃ uj blj ur blr,e=.returned (.tuple #[.agg #[uj,ur,.slice none 0 0,.slice none 0 0,.slice none 0 0,.slice none 0 0],.agg #[.int .i64 0,.int .i64 0]])∧IsJ w.heap.size w' blj uj js∧IsR w.heap.size w' blr ur rs∧Kp w w':=by
 have h0:=cfg_pos js rs hok
 have hle:=hok.le
 have HN:=Lib.hid (fun w' (k:Kp w w')=>new_any v (encCfg js rs) h0 (by omega) w' (hR.kp k))
 obtain ⟨b,off,cap,rfl,hc,_⟩:=hR
 have HA:=Lib.hid (fun gr g cb u=>all_rd gr g cb u js rs hok)
 have HE:=Lib.hid (fun g u w'=>rend_any g u (encCfg js rs) w')
 generalize encCfg js rs=bs at *
 generalize hL:bs.length=L at *
 have z0:¬ (65536:Int)<(L:Int):=by omega
 have hfl:=fld_err0 0 0
 have h00:0<bs.length:=by omega
 clear hc h0
 go_enter Tryz.func17,Tryz.ntmps17
 go_upto_region 1 with fail
 obtain ⟨t,ht⟩:∃ t,w.heap.size=t:=⟨_,rfl⟩
 obtain ⟨W1,hW1⟩:∃ W,w.alloc (.cells #[.slice none 0 0,.slice none 0 0,.slice none 0 0,.slice none 0 0,.slice none 0 0,.slice none 0 0] 31)=W:=⟨_,rfl⟩
 obtain ⟨W2,hW2⟩:∃ W,W1.alloc (.cells #[.int .i64 0,.int .i64 0] 88)=W:=⟨_,rfl⟩
 have K1:Kp w W1:=by rw [← hW1];exact kp_alloc (kp_refl _) _
 have K2:Kp W1 W2:=by rw [← hW2];exact kp_alloc (kp_refl _) _
 have s1:W1.heap.size=t+1:=by rw [← hW1,← ht];simp
 have s2:W2.heap.size=t+2:=by rw [← hW2];simp [s1]
 have r1:W2.heap[t]? = some (.cells #[.slice none 0 0,.slice none 0 0,.slice none 0 0,.slice none 0 0,.slice none 0 0,.slice none 0 0] 31 (0,0)):=(K2.block t (by omega)).trans (by rw [← hW1,← ht];exact heap_alloc_new _ _)
 have r2:W2.heap[t+1]? = some (.cells #[.int .i64 0,.int .i64 0] 88 (0,0)):=by rw [← hW2,← s1];exact heap_alloc_new _ _
 have KW:=kp_trans K1 K2
 have htl:w.heap.size≤t:=by omega
 have htg:t≤w.heap.size:=by omega
 simp only [hW1,hW2,ht,s1]
 clear hW1 hW2 K1 K2 ht s1
 go_upto_region 5 with (go_at_call 53;refine (HN.out _ KW).mono ?_;rintro e w3 ⟨g,u,q,rfl,hrd,hru,hk3,hg,huq,hq,hqg⟩)
 obtain ⟨gr,hgr⟩:∃ t,w3.heap.size=t:=⟨_,rfl⟩
 obtain ⟨W4,hW4⟩:∃ W,w3.alloc (.cells #[.pointer (some ⟨g,0,none⟩)] 150)=W:=⟨_,rfl⟩
 obtain ⟨W5,hW5⟩:∃ W,W4.alloc (.cells #[.slice none 0 0,.slice none 0 0,.slice none 0 0,.slice none 0 0,.slice none 0 0,.slice none 0 0] 31)=W:=⟨_,rfl⟩
 have K4:Kp w3 W4:=by rw [← hW4];exact kp_alloc (kp_refl _) _
 have K5:Kp W4 W5:=by rw [← hW5];exact kp_alloc (kp_refl _) _
 have s4:W4.heap.size=gr+1:=by rw [← hW4,← hgr];simp
 have s5:W5.heap.size=gr+2:=by rw [← hW5];simp [s4]
 have K35:=kp_trans K4 K5
 have cgr:W5.cell? ⟨gr,0,none⟩=some (.pointer (some ⟨g,0,none⟩)):=by
  rw [cell_of_row W5 gr _ _ _ _ ((K5.block gr (by omega)).trans (by rw [← hW4,← hgr];exact heap_alloc_new _ _))];rfl
 have rcb:W5.heap[gr+1]? = some (.cells #[.slice none 0 0,.slice none 0 0,.slice none 0 0,.slice none 0 0,.slice none 0 0,.slice none 0 0] 31 (0,0)):=by rw [← hW5,← s4];exact heap_alloc_new _ _
 have lg:=hrd.lt
 have lw3:=Below.size hk3
 have lq:q<w3.heap.size:=by
  obtain ⟨b',off',c',hv',_,hcc⟩:=hru
  rw [hv'] at huq
  simp only [Value.ownBlock,Option.some.injEq] at huq
  subst huq
  exact cell_lt (hcc 0 h00)
 have HB:=Lib.hid (HA.out gr g (gr+1) u W5 (hru.kp K35) (hrd.kp K35) (fun b off n c hv=>by rw [hv] at huq;simp only [Value.ownBlock,Option.some.injEq] at huq;omega) cgr rcb (by omega) ⟨by omega,by omega⟩)
 have r1':=(kp_trans hk3 K35).block t (by omega)
 have r2':=(kp_trans hk3 K35).block (t+1) (by omega)
 rw [r1] at r1'
 rw [r2] at r2'
 have KW5:=kp_trans KW (kp_trans hk3 K35)
 have HRU:=Lib.hid (hru.kp K35)
 have hs3:t+2≤gr:=by omega
 have hgt:t+2≤g:=by omega
 have lgg:g<gr:=by omega
 have lqg:q<gr:=by omega
 have hw3:w3.heap.size≤gr:=by omega
 simp only [hW4,hW5,hgr,s4]
 clear hgr s4 hW4 hW5 K4 K5 HN HA hru hrd hk3 r1 r2 lw3 rcb K35 KW
 go_upto_region 6 with (go_at_call 52;refine HB.out.mono ?_;rintro e w6 ⟨rfl,hrd6,⟨uj,blj,ur,blr,p6,hij,hir⟩,hx6⟩)
 obtain ⟨pj,cj,rfl⟩:=hij.slice
 obtain ⟨pr,cr,rfl⟩:=hir.slice
 have hx6g:gr∉[g,gr+1]:=by simp;omega
 have HE6:=Lib.hid (HE.out g u w6 (HRU.out.kx hx6 (fun b off n c hv=>by rw [hv] at huq;simp only [Value.ownBlock,Option.some.injEq] at huq;simp;omega)) hrd6)
 have cg6:=hx6.cell cgr hx6g
 have lg6:=cell_lt cg6
 have r1:=hx6.row r1' (by simp;omega)
 have r2:=hx6.row r2' (by simp;omega)
 have K6:Kp w w6:=KX.after KW5 hx6 (by simp;omega)
 have HIJ:=Lib.hid hij
 have HIR:=Lib.hid hir
 have lw5:w.heap.size≤W5.heap.size:=Below.size KW5
 have lw6:=Below.size K6
 clear hij hir HE HRU hrd6 hx6 r1' r2' KW5 cgr HB lg
 go_upto_region 7 with (go_at_call 54;refine HE6.out.mono ?_;rintro e w7 ⟨rfl,hk7⟩)
 obtain ⟨f,hf⟩:∃ t,w7.heap.size=t:=⟨_,rfl⟩
 obtain ⟨W8,hW8⟩:∃ W,w7.alloc (.cells #[.int .i64 0,.int .i64 0] 88)=W:=⟨_,rfl⟩
 have K8:Kp w7 W8:=by rw [← hW8];exact kp_alloc (kp_refl _) _
 have f8:W8.cell? ⟨f,0,none⟩=some (.int .i64 0):=by rw [← hW8,← hf];exact alloc_c0 _
 have K68:=kp_trans hk7 K8
 have p8:=(K68.block _ (Array.getElem?_eq_some_iff.1 p6).1).trans p6
 have r1:=(K68.block _ (Array.getElem?_eq_some_iff.1 r1).1).trans r1
 have r2:=(K68.block _ (Array.getElem?_eq_some_iff.1 r2).1).trans r2
 have lf8:=cell_lt f8
 have K8':=kp_trans K6 K68
 simp only [hW8,hf]
 clear hf hW8 K8 hk7 p6 K6 HE6
 have cc0:W8.cell? ⟨gr+1,0,none⟩=some (.slice pj js.length cj):=(by rw [cell_of_row W8 (gr+1) _ _ _ _ p8];rfl)
 have cc1:W8.cell? ⟨gr+1,1,none⟩=some (.slice pr rs.length cr):=(by rw [cell_of_row W8 (gr+1) _ _ _ _ p8];rfl)
 have cc2:W8.cell? ⟨gr+1,2,none⟩=some (.slice none 0 0):=(by rw [cell_of_row W8 (gr+1) _ _ _ _ p8];rfl)
 have cc3:W8.cell? ⟨gr+1,3,none⟩=some (.slice none 0 0):=(by rw [cell_of_row W8 (gr+1) _ _ _ _ p8];rfl)
 have cc4:W8.cell? ⟨gr+1,4,none⟩=some (.slice none 0 0):=(by rw [cell_of_row W8 (gr+1) _ _ _ _ p8];rfl)
 have cc5:W8.cell? ⟨gr+1,5,none⟩=some (.slice none 0 0):=(by rw [cell_of_row W8 (gr+1) _ _ _ _ p8];rfl)
 have ccf:=fun o=>frozen_of_row W8 (gr+1) o _ _ p8
 have ct0:W8.cell? ⟨t,0,none⟩=some (.slice none 0 0):=(by rw [cell_of_row W8 (t) _ _ _ _ r1];rfl)
 have ct1:W8.cell? ⟨t,1,none⟩=some (.slice none 0 0):=(by rw [cell_of_row W8 (t) _ _ _ _ r1];rfl)
 have ct2:W8.cell? ⟨t,2,none⟩=some (.slice none 0 0):=(by rw [cell_of_row W8 (t) _ _ _ _ r1];rfl)
 have ct3:W8.cell? ⟨t,3,none⟩=some (.slice none 0 0):=(by rw [cell_of_row W8 (t) _ _ _ _ r1];rfl)
 have ct4:W8.cell? ⟨t,4,none⟩=some (.slice none 0 0):=(by rw [cell_of_row W8 (t) _ _ _ _ r1];rfl)
 have ct5:W8.cell? ⟨t,5,none⟩=some (.slice none 0 0):=(by rw [cell_of_row W8 (t) _ _ _ _ r1];rfl)
 have ctf:=fun o=>frozen_of_row W8 (t) o _ _ r1
 have cf0:W8.cell? ⟨t+1,0,none⟩=some (.int .i64 0):=(by rw [cell_of_row W8 (t+1) _ _ _ _ r2];rfl)
 have cf1:W8.cell? ⟨t+1,1,none⟩=some (.int .i64 0):=(by rw [cell_of_row W8 (t+1) _ _ _ _ r2];rfl)
 have cff:=fun o=>frozen_of_row W8 (t+1) o _ _ r2
 have lt8:=cell_lt ct0
 have lf8:=cell_lt cf0
 have lc8:=cell_lt cc0
 have HR1:=Lib.hid r1;have HR2:=Lib.hid r2
 clear r1 r2 p8
 have HK68:=Lib.hid K68;have HK8:=Lib.hid K8'
 clear K68 K8'
 go_wp2_with fail
 have R6:=row6_set HR1.out (.slice pj js.length cj) (.slice pr rs.length cr) (.slice none 0 0) (.slice none 0 0) (.slice none 0 0) (.slice none 0 0)
 have X6:=(((((((KX.refl (S:=[t]) W8).set (a:=⟨t,0,none⟩) (.inl (by simp)) (.slice pj js.length cj)).set (a:=⟨t,1,none⟩) (.inl (by simp)) (.slice pr rs.length cr)).set (a:=⟨t,2,none⟩) (.inl (by simp)) (.slice none 0 0)).set (a:=⟨t,3,none⟩) (.inl (by simp)) (.slice none 0 0)).set (a:=⟨t,4,none⟩) (.inl (by simp)) (.slice none 0 0)).set (a:=⟨t,5,none⟩) (.inl (by simp)) (.slice none 0 0))
 have R2:=row2_set (X6.row HR2.out (by simp)) (.int .i64 0) (.int .i64 0)
 generalize (((((W8.setCell ⟨t,0,none⟩ (.slice pj js.length cj)).setCell ⟨t,1,none⟩ (.slice pr rs.length cr)).setCell ⟨t,2,none⟩ (.slice none 0 0)).setCell ⟨t,3,none⟩ (.slice none 0 0)).setCell ⟨t,4,none⟩ (.slice none 0 0)).setCell ⟨t,5,none⟩ (.slice none 0 0)=W9 at *
 have X7:=(((KX.refl (S:=[t+1]) W9).set (a:=⟨t+1,0,none⟩) (.inl (by simp)) (.int .i64 0)).set (a:=⟨t+1,1,none⟩) (.inl (by simp)) (.int .i64 0))
 have R7:=X7.row R6 (by simp)
 generalize (W9.setCell ⟨t+1,0,none⟩ (.int .i64 0)).setCell ⟨t+1,1,none⟩ (.int .i64 0)=W10 at *
 have X:KX [t,t+1] W8 W10:=(X6.mono (S':=[t,t+1]) (by simp)).then (X7.mono (by simp))
 refine bodyPost_ret (v:=.tuple #[.agg #[.slice pj js.length cj,.slice pr rs.length cr,.slice none 0 0,.slice none 0 0,.slice none 0 0,.slice none 0 0],.agg #[.int .i64 0,.int .i64 0]]) ?_ rfl ?_
 ·simp [results,Tryz.results17,go_sem,cell_of_row _ t _ _ _ _ R7,cell_of_row _ (t+1) _ _ _ _ R2]
 refine ⟨_,blj,_,rfl,?_,⟨blr,?_⟩,?_⟩
 ·exact ListIs.mono ((HIJ.out.kp law_jur HK68.out).kx law_jur X (by simp;omega)) lw5
 ·exact ListIs.mono ((HIR.out.kp law_rat HK68.out).kx law_rat X (by simp;omega)) lw5
 ·exact KX.after HK8.out X (by simp;omega)
end Go.Proofs.YtgliljnbajohhaaGreatDoor
namespace Go.Proofs.YtgliljnbajohhaaGreatDoor
open Go.Shelf
def lzRen:Go.Shelf.Ren:=⟨fun | 129=>309 | 134=>417 | n=>n,fun | 3=>3 | 4=>4 | 5=>5 | 9=>9 | 46=>336 | 53=>202 | n=>n,fun | n=>n⟩
theorem lzLays:Go.Proofs.Lays.n134 Tryz.prog lzRen:={
 mixed:=by kernel_rfl
 f129:=Tryz.func309.trans (congrArg some (by kernel_rfl))
 f134:=Tryz.func417.trans (congrArg some (by kernel_rfl))
 t3:=Tryz.underlying3
 a3:=Tryz.isAgg3
 z3:=Tryz.sizeOf3
 v3:=Tryz.zeroValue3
 t4:=Tryz.underlying4
 a4:=Tryz.isAgg4
 z4:=Tryz.sizeOf4
 v4:=Tryz.zeroValue4
 t5:=Tryz.underlying5
 a5:=Tryz.isAgg5
 z5:=Tryz.sizeOf5
 v5:=Tryz.zeroValue5
 t9:=Tryz.underlying9
 a9:=Tryz.isAgg9
 z9:=Tryz.sizeOf9
 v9:=Tryz.zeroValue9
 t46:=Tryz.underlying336
 a46:=Tryz.isAgg336
 z46:=Tryz.sizeOf336
 v46:=Tryz.zeroValue336
 t53:=Tryz.underlying202
 a53:=Tryz.isAgg202
 z53:=Tryz.sizeOf202
 v53:=Tryz.zeroValue202 }
open Go.RowKit in
theorem lz64 (x:Nat) (h:x<18446744073709551616) (w:World):Calls Tryz.prog 417 #[.int .u64 x] w fun e w'=>e=.returned (.int .i64 (64 - (Lib.bitLen x:Int)))∧w=w' :=
 (Any.bits_LeadingZeros64 lzLays x w (by omega) (by omega)).mono fun _ _ ⟨h1,h2⟩=>⟨by rw [h1,Int.toNat_natCast],h2.symm⟩
def adRen:Go.Shelf.Ren:=⟨fun | 25=>189 | n=>n,fun | 22=>202 | n=>n,fun | n=>n⟩
theorem adLays:Go.Proofs.Lays7.n25 Tryz.prog adRen:={
 mixed:=by kernel_rfl
 f25:=Tryz.func189.trans (congrArg some (by kernel_rfl))
 t22:=Tryz.underlying202
 a22:=Tryz.isAgg202
 z22:=Tryz.sizeOf202
 v22:=Tryz.zeroValue202
 i22:=by kernel_rfl }
open Go.RowKit in
theorem add64 (x y c:Nat) (hc:c≤1) (w:World):(callFunc 189 #[.int .u64 x,.int .u64 y,.int .u64 c]).run Tryz.prog w=.ok (.value (.tuple #[.int .u64 (((x+y+c) % 18446744073709551616:Nat):Int),.int .u64 (((x+y+c) / 18446744073709551616:Nat):Int)])) w :=
 Any7.bits_Add64 adLays x y c hc w
end Go.Proofs.YtgliljnbajohhaaGreatDoor
