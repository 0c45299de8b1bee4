import Derived.Test.YtgliljnbajohhaaGreatDoorQ02
import Derived.Test.YtgliljnbajohhaaGreatDoorQ00
import Derived.OrdersIn
import Derived.RangeFuncNested
import Derived.RangeFuncBound
import Derived.RangeFuncCalls
import Derived.RangeFuncLeaves
import Derived.Shelf.Abstract
import Derived.Shelf.RegionOpen
import Derived.OwnWalkIn
import Derived.TacticsInMore
import Derived.LoopNIn
import Derived.LoopIn
set_option linter.unusedVariables false
set_option linter.unusedSimpArgs false
namespace Go.Proofs.YtgliljnbajohhaaGreatDoor
open Go.RowKit Go.Proofs.Geo
set_option maxHeartbeats 8000000 in
set_option maxRecDepth 100000 in
theorem bkS_any (b off len cap:Nat) (l:List Pt) (w:World) (hp:PtsAt w b off l) (hlen:len=l.length) (h0:0<len) (hl:len≤100000):Calls Tryz.prog 212 #[.slice (some ⟨b,off,none⟩) len cap] w fun e w'=>e=.returned (.tuple #[.agg #[.int .i64 (bkS l).1,.int .i64 (bkS l).2.1],.bool (bkS l).2.2])∧Kp w w':=by
 have hv:bkS l=stg 192 (firstN (backB l) l.length):=rfl
 rw [hv]
 have ca:=fun (i:Int) (w:World) hp=>rat_any b off len cap l i w hp hlen h0 hl
 have HC:=Lib.hid ca
 have HP:=Lib.hid hp
 have HL:=Lib.hid hlen
 clear hp hlen hv ca
 go_enter Tryz.func212,Tryz.ntmps212
 go_wp2_with fail
 go_loopw [10] (fun i wr=>∃ k:Nat,k≤len∧i=.int .i64 k∧FltB w wr∧∀ j,j<k→backB l j=false) (fun i _=>len - (intOf i).toNat)
 case atStart=>exact ⟨0,by omega,rfl,⟨by simp [go_sem],by simp [go_sem],by simp [go_sem],by simp [go_sem],by simp,(by repeat (first | exact kp_refl _ | apply kp_alloc | apply kp_drew | apply kp_drewN))⟩,fun j h=>by omega⟩
 case round =>
  obtain ⟨k,hk,rfl,hst,hall⟩:=hrel
  have HS:=Lib.hid hst
  have HA:=Lib.hid hall
  by_cases hlt:k<len
  ·have hkl:k<l.length:=by rw [← HL.out];exact hlt
   obtain ⟨y0,y1⟩:=pt_lt (HP.out.kp hst.k) hkl
   have hbk:backB l k=(decide (turn (rat l ((k:Int) - 1)) (pt l k) (rat l ((k:Int)+1))=0) && !onS (pt l k) (rat l ((k:Int) - 1)) (rat l ((k:Int)+1))):=rfl
   have ca:=HC.out ((k:Int) - 1)
   have cb:=HC.out ((k:Int)+1)
   generalize rat l ((k:Int) - 1)=pa at *
   generalize rat l ((k:Int)+1)=pb at *
   generalize pt l k=pp at *
   obtain ⟨ax,ay⟩:=pa
   obtain ⟨bx,bY⟩:=pb
   obtain ⟨x,y⟩:=pp
   dsimp only at y0 y1 ca cb
   have ct:=fun w=>turn_any ax ay x y bx bY w
   have co:=fun w=>on_any x y ax ay bx bY w
   obtain ⟨T,hT⟩:∃ T,turn (ax,ay) (x,y) (bx,bY)=T:=⟨_,rfl⟩
   rw [hT] at ct hbk
   have CA:=Lib.hid ca;have CB:=Lib.hid cb;have CT:=Lib.hid ct
   have lb:b<wr.heap.size:=cell_lt y0
   have lz:=hst.lt
   have c1:(0:Int)≤(k:Int):=by omega
   have c2:(k:Int)<(len:Int):=by omega
   have HPA:Hid (PtsAt (wr.alloc (.cells #[.int .i64 x,.int .i64 y] 53)) b off l):=Lib.hid (HP.out.kp (kp_trans hst.k (kp_alloc (kp_refl _) _)))
   clear ca cb ct hT hst hall
   by_cases h0:T=0
   ·subst h0
    cases ho:onS (x,y) (ax,ay) (bx,bY)
    ·rw [ho] at hbk co
     have hf:firstN (backB l) l.length=some k:=firstN_some hkl hbk HA.out
     have HF:=Lib.hid hf
     have CO:=Lib.hid co
     clear hf hbk co ho
     go_wp2_with (first
      | (go_at_call 283;(with_reducible refine (CA.out _ HPA.out).mono ?_);rintro e w2 ⟨rfl,hk⟩;have p0:w2.cell? ⟨wr.heap.size,0,none⟩=some (.int .i64 x):=kp_cell hk (by simp [go_sem, *]);have p1:w2.cell? ⟨wr.heap.size,1,none⟩=some (.int .i64 y):=kp_cell hk (by simp [go_sem, *]);have lp:wr.heap.size<w2.heap.size:=cell_lt p0;have HB2:=Lib.hid (HS.out.kp (kp_trans (by repeat (first | exact kp_refl _ | apply kp_alloc | apply kp_drew)) hk));clear hk)
      | (go_at_call 283;(with_reducible refine (CB.out _ (HP.out.kp HB2.out.k)).mono ?_);rintro e w3 ⟨rfl,hk⟩;replace p0:w3.cell? ⟨wr.heap.size,0,none⟩=some (.int .i64 x):=kp_cell hk (by first | exact p0 | exact cell_a p0 _ | exact cell_a (cell_a p0 _) _);replace p1:w3.cell? ⟨wr.heap.size,1,none⟩=some (.int .i64 y):=kp_cell hk (by first | exact p1 | exact cell_a p1 _ | exact cell_a (cell_a p1 _) _);replace lp:wr.heap.size<w3.heap.size:=cell_lt p0;have HB3:=Lib.hid (HB2.out.kp hk);clear hk)
      | (go_at_call 284;refine (CT.out _).mono ?_;rintro e w4 ⟨rfl,hk⟩;replace p0:w4.cell? ⟨wr.heap.size,0,none⟩=some (.int .i64 x):=kp_cell hk (by first | exact p0 | exact cell_a p0 _ | exact cell_a (cell_a p0 _) _);replace p1:w4.cell? ⟨wr.heap.size,1,none⟩=some (.int .i64 y):=kp_cell hk (by first | exact p1 | exact cell_a p1 _ | exact cell_a (cell_a p1 _) _);have a0:w4.cell? ⟨w3.heap.size,0,none⟩=some (.int .i64 ax):=kp_cell hk (by simp [go_sem, *]);have a1:w4.cell? ⟨w3.heap.size,1,none⟩=some (.int .i64 ay):=kp_cell hk (by simp [go_sem, *]);have b0:w4.cell? ⟨w3.heap.size+1,0,none⟩=some (.int .i64 bx):=kp_cell hk (by simp [go_sem, *]);have b1:w4.cell? ⟨w3.heap.size+1,1,none⟩=some (.int .i64 bY):=kp_cell hk (by simp [go_sem, *]);have lp4:wr.heap.size<w4.heap.size:=cell_lt p0;have la4:w3.heap.size<w4.heap.size:=cell_lt a0;have lb4:w3.heap.size+1<w4.heap.size:=cell_lt b0;have HB4:=Lib.hid (HB3.out.kp (kp_trans (by repeat (first | exact kp_refl _ | apply kp_alloc | apply kp_drew)) hk));clear hk)
      | (go_at_call 285;refine (CO.out _).mono ?_;rintro e w5 ⟨rfl,hk⟩;have HB5:=Lib.hid (HB4.out.kp hk);clear hk)
      | (go_at_call 280;refine (bad_any _ _ _).mono ?_;rintro e wz ⟨rfl,hk⟩;have HB:=Lib.hid (HB5.out.kp hk);have z0:=HB.out.z0;have z1:=HB.out.z1;have f0:=HB.out.f0;have f1:=HB.out.f1;have lz:=HB.out.lt;clear hk))
     refine bodyPost_ret (v:=(.tuple #[.agg #[.int .i64 192,.int .i64 (k:Int)],.bool true])) (by simp [results,Tryz.results212,go_sem,z0,z1]) rfl ⟨by rw [HF.out];rfl,?_⟩
     ((repeat (first | exact HB.out.k | exact kp_refl _ | apply kp_alloc | apply kp_drew | apply kp_drewN | refine kp_set ?_ ?_ _));all_goals (first | exact Nat.le_refl _ | (simp;done) | omega))
    ·rw [ho] at hbk co
     have HBK:=Lib.hid (show backB l k=false from hbk)
     have CO:=Lib.hid co
     clear hbk co ho
     go_wp2_with (first
      | (go_at_call 283;(with_reducible refine (CA.out _ HPA.out).mono ?_);rintro e w2 ⟨rfl,hk⟩;have p0:w2.cell? ⟨wr.heap.size,0,none⟩=some (.int .i64 x):=kp_cell hk (by simp [go_sem, *]);have p1:w2.cell? ⟨wr.heap.size,1,none⟩=some (.int .i64 y):=kp_cell hk (by simp [go_sem, *]);have lp:wr.heap.size<w2.heap.size:=cell_lt p0;have HB2:=Lib.hid (HS.out.kp (kp_trans (by repeat (first | exact kp_refl _ | apply kp_alloc | apply kp_drew)) hk));clear hk)
      | (go_at_call 283;(with_reducible refine (CB.out _ (HP.out.kp HB2.out.k)).mono ?_);rintro e w3 ⟨rfl,hk⟩;replace p0:w3.cell? ⟨wr.heap.size,0,none⟩=some (.int .i64 x):=kp_cell hk (by first | exact p0 | exact cell_a p0 _ | exact cell_a (cell_a p0 _) _);replace p1:w3.cell? ⟨wr.heap.size,1,none⟩=some (.int .i64 y):=kp_cell hk (by first | exact p1 | exact cell_a p1 _ | exact cell_a (cell_a p1 _) _);replace lp:wr.heap.size<w3.heap.size:=cell_lt p0;have HB3:=Lib.hid (HB2.out.kp hk);clear hk)
      | (go_at_call 284;refine (CT.out _).mono ?_;rintro e w4 ⟨rfl,hk⟩;replace p0:w4.cell? ⟨wr.heap.size,0,none⟩=some (.int .i64 x):=kp_cell hk (by first | exact p0 | exact cell_a p0 _ | exact cell_a (cell_a p0 _) _);replace p1:w4.cell? ⟨wr.heap.size,1,none⟩=some (.int .i64 y):=kp_cell hk (by first | exact p1 | exact cell_a p1 _ | exact cell_a (cell_a p1 _) _);have a0:w4.cell? ⟨w3.heap.size,0,none⟩=some (.int .i64 ax):=kp_cell hk (by simp [go_sem, *]);have a1:w4.cell? ⟨w3.heap.size,1,none⟩=some (.int .i64 ay):=kp_cell hk (by simp [go_sem, *]);have b0:w4.cell? ⟨w3.heap.size+1,0,none⟩=some (.int .i64 bx):=kp_cell hk (by simp [go_sem, *]);have b1:w4.cell? ⟨w3.heap.size+1,1,none⟩=some (.int .i64 bY):=kp_cell hk (by simp [go_sem, *]);have lp4:wr.heap.size<w4.heap.size:=cell_lt p0;have la4:w3.heap.size<w4.heap.size:=cell_lt a0;have lb4:w3.heap.size+1<w4.heap.size:=cell_lt b0;have HB4:=Lib.hid (HB3.out.kp (kp_trans (by repeat (first | exact kp_refl _ | apply kp_alloc | apply kp_drew)) hk));clear hk)
      | (go_at_call 285;refine (CO.out _).mono ?_;rintro e w5 ⟨rfl,hk⟩;have HB5:=Lib.hid (HB4.out.kp hk);clear hk))
     refine ⟨⟨k+1,by omega,by go_num,HB5.out,fun j hj=>?_⟩,by simp [intOf];omega⟩
     by_cases e:j=k
     ·subst e;exact HBK.out
     ·exact HA.out j (by omega)
   ·have t1:(T == 0)=false:=by simpa using h0
    rw [decide_eq_false h0] at hbk
    have HBK:=Lib.hid (show backB l k=false from hbk)
    clear hbk co h0
    go_wp2_with (first
     | (go_at_call 283;(with_reducible refine (CA.out _ HPA.out).mono ?_);rintro e w2 ⟨rfl,hk⟩;have p0:w2.cell? ⟨wr.heap.size,0,none⟩=some (.int .i64 x):=kp_cell hk (by simp [go_sem, *]);have p1:w2.cell? ⟨wr.heap.size,1,none⟩=some (.int .i64 y):=kp_cell hk (by simp [go_sem, *]);have lp:wr.heap.size<w2.heap.size:=cell_lt p0;have HB2:=Lib.hid (HS.out.kp (kp_trans (by repeat (first | exact kp_refl _ | apply kp_alloc | apply kp_drew)) hk));clear hk)
     | (go_at_call 283;(with_reducible refine (CB.out _ (HP.out.kp HB2.out.k)).mono ?_);rintro e w3 ⟨rfl,hk⟩;replace p0:w3.cell? ⟨wr.heap.size,0,none⟩=some (.int .i64 x):=kp_cell hk (by first | exact p0 | exact cell_a p0 _ | exact cell_a (cell_a p0 _) _);replace p1:w3.cell? ⟨wr.heap.size,1,none⟩=some (.int .i64 y):=kp_cell hk (by first | exact p1 | exact cell_a p1 _ | exact cell_a (cell_a p1 _) _);replace lp:wr.heap.size<w3.heap.size:=cell_lt p0;have HB3:=Lib.hid (HB2.out.kp hk);clear hk)
     | (go_at_call 284;refine (CT.out _).mono ?_;rintro e w4 ⟨rfl,hk⟩;replace p0:w4.cell? ⟨wr.heap.size,0,none⟩=some (.int .i64 x):=kp_cell hk (by first | exact p0 | exact cell_a p0 _ | exact cell_a (cell_a p0 _) _);replace p1:w4.cell? ⟨wr.heap.size,1,none⟩=some (.int .i64 y):=kp_cell hk (by first | exact p1 | exact cell_a p1 _ | exact cell_a (cell_a p1 _) _);have a0:w4.cell? ⟨w3.heap.size,0,none⟩=some (.int .i64 ax):=kp_cell hk (by simp [go_sem, *]);have a1:w4.cell? ⟨w3.heap.size,1,none⟩=some (.int .i64 ay):=kp_cell hk (by simp [go_sem, *]);have b0:w4.cell? ⟨w3.heap.size+1,0,none⟩=some (.int .i64 bx):=kp_cell hk (by simp [go_sem, *]);have b1:w4.cell? ⟨w3.heap.size+1,1,none⟩=some (.int .i64 bY):=kp_cell hk (by simp [go_sem, *]);have lp4:wr.heap.size<w4.heap.size:=cell_lt p0;have la4:w3.heap.size<w4.heap.size:=cell_lt a0;have lb4:w3.heap.size+1<w4.heap.size:=cell_lt b0;have HB4:=Lib.hid (HB3.out.kp (kp_trans (by repeat (first | exact kp_refl _ | apply kp_alloc | apply kp_drew)) hk));clear hk))
    refine ⟨⟨k+1,by omega,by go_num,HB4.out,fun j hj=>?_⟩,by simp [intOf];omega⟩
    by_cases e:j=k
    ·subst e;exact HBK.out
    ·exact HA.out j (by omega)
  ·obtain rfl:k=len:=by omega
   have hf:firstN (backB l) l.length=none:=firstN_none (by rw [← HL.out];exact hall)
   have HF:=Lib.hid hf
   have HB:=Lib.hid hst
   have z0:=hst.z0
   have z1:=hst.z1
   have f0:=hst.f0
   have f1:=hst.f1
   have lz:=hst.lt
   clear hf hst hall
   go_wp2_with fail
   refine bodyPost_ret (v:=(.tuple #[.agg #[.int .i64 0,.int .i64 0],.bool false])) (by simp [results,Tryz.results212,go_sem, *]) rfl ⟨by rw [HF.out];rfl,?_⟩
   ((repeat (first | exact HB.out.k | exact kp_refl _ | apply kp_alloc | apply kp_drew | apply kp_drewN | refine kp_set ?_ ?_ _));all_goals (first | exact Nat.le_refl _ | (simp;done) | omega))
end Go.Proofs.YtgliljnbajohhaaGreatDoor
namespace Go.Proofs.YtgliljnbajohhaaGreatDoor
open Go.RowKit
theorem countP_less {α:Type} (p p':α→Bool) (i:α) (hi:p i=true) (hi':p' i=false):∀ (L:List α),(∀ j∈L,p' j=true→p j=true)→i∈L→L.countP p'+1≤L.countP p:=by
 intro L
 induction L with
 | nil=>intro _ h;cases h
 | cons x L ih =>
  intro hle hm
  have hmono:L.countP p'≤L.countP p:=List.countP_mono_left (fun j hj h=>hle j (by simp [hj]) h)
  simp only [List.countP_cons]
  by_cases hx:i∈L
  ·have:=ih (fun j hj=>hle j (by simp [hj])) hx
   have hxx:=hle x (by simp)
   cases h1:p' x <;> cases h2:p x <;> simp_all <;> omega
  ·have e:i=x:=by simpa [hx] using hm
   subst e
   rw [hi,hi'];simp;omega
def unl (n:Nat) (listed:Array Bool):Nat:=(List.range n).countP fun i=>!listed.getD i true
theorem ready_mem {md:Region.Mode} {ops:Array Oper} {listed:Array Bool} {i:Nat} (h:i∈Region.ready md ops listed) :
  i<ops.size∧listed.getD i true=false∧∀ o,ops[i]? = some o→(o.after.all fun e=>!Region.binds md e || listed.getD e.on false)=true:=by
 unfold Region.ready at h
 rw [List.mem_filter,List.mem_range,Bool.and_eq_true] at h
 obtain ⟨h1,h2,h3⟩:=h
 refine ⟨h1,by simpa using h2,fun o ho=>?_⟩
 rw [ho] at h3;simpa using h3
theorem unl_set {n i:Nat} {listed:Array Bool} (hi:i<n) (h:listed.getD i true=false):unl n (listed.setIfInBounds i true)+1≤unl n listed:=by
 unfold unl
 refine countP_less _ _ i (by rw [h];rfl) ?_ _ ?_ (List.mem_range.2 hi)
 ·simp [Array.getElem?_setIfInBounds]
  split <;> rfl
 ·intro j _ hj
  simp only [Array.getD_eq_getD_getElem?,Array.getElem?_setIfInBounds] at hj ⊢
  by_cases e:i=j
  ·subst e
   simp only [Array.getD_eq_getD_getElem?] at h
   rw [h];rfl
  ·simpa [e] using hj
theorem ready_nil {md:Region.Mode} {ops:Array Oper} {listed:Array Bool} (h:unl ops.size listed=0):Region.ready md ops listed=[]:=by
 unfold Region.ready
 rw [List.filter_eq_nil_iff]
 intro i hi hc
 unfold unl at h
 rw [List.countP_eq_zero] at h
 have:=h i hi
 simp only [Bool.and_eq_true] at hc
 exact this hc.1
theorem ready_all {md:Region.Mode} {ops:Array Oper} {listed:Array Bool} (h:Region.ready md ops listed=[]) {i:Nat} {o:Oper} (ho:ops[i]? = some o) (hd:(o.after.all fun e=>!Region.binds md e || listed.getD e.on false)=true):listed.getD i true=true:=by
 cases hc:listed.getD i true with
 | true=>rfl
 | false =>
  have hi:i∈Region.ready md ops listed:=by
   unfold Region.ready
   rw [List.mem_filter,List.mem_range,Bool.and_eq_true]
   exact ⟨(Array.getElem?_eq_some_iff.1 ho).1,by rw [hc];rfl,by rw [ho];simpa using hd⟩
  rw [h] at hi;cases hi
theorem wpOp_mono' {P:Program} {ops:Array Oper} {Q:Exit→Act→World→Prop} {i:Nat} {a:Act} {w:World} {K K':Act→World→Prop} (h:∀ a w,K a w→K' a w) (hh:wpOp P ops Q i K a w):wpOp P ops Q i K' a w:=by
 unfold wpOp at *
 split
 ·exact h _ _ (by simpa [*] using hh)
 ·rename_i o ho
  simp only [ho] at hh
  split
  ·rename_i hw
   simp only [hw,if_true] at hh
   exact hh.imp (Oper.wp_mono h) id
  ·rename_i hw
   simp only [hw] at hh
   exact h _ _ hh
theorem wpAny_inv {P:Program} {md:Region.Mode} {ops:Array Oper} {Q:Exit→Act→World→Prop} (St:Array Bool→Act→World→Prop)
  (hstep:∀ listed a w i,St listed a w→i∈Region.ready md ops listed→wpOp P ops Q i (St (listed.setIfInBounds i true)) a w)
  (hdone:∀ listed a w,St listed a w→Region.ready md ops listed=[]→Q .normal a w) :
  ∀ (fuel:Nat) (listed:Array Bool) (a:Act) (w:World),unl ops.size listed≤fuel→St listed a w→wpAny P md ops Q fuel listed a w
 | 0,listed,a,w,hu,hs=>by
  have hr:=ready_nil (md:=md) (Nat.le_zero.1 hu)
  exact ⟨hr,hdone _ _ _ hs hr⟩
 | fuel+1,listed,a,w,hu,hs=>by
  refine ⟨fun h0=>hdone _ _ _ hs h0,fun i hi=>?_⟩
  have hm:=ready_mem hi
  have hl:=unl_set hm.1 hm.2.1
  exact wpOp_mono' (fun a' w' h'=>wpAny_inv St hstep hdone fuel _ a' w' (by omega) h') (hstep _ _ _ _ hs hi)
theorem wpAnyIn_inv {F:Fence} {n:Nat} {P:Program} {md:Region.Mode} {ops:Array Oper} {Q:Exit→Act→World→Prop} (St:Array Bool→Act→World→Prop)
  (hstep:∀ listed a w i,St listed a w→i∈Region.ready md ops listed→wpOpIn F n P ops Q i (St (listed.setIfInBounds i true)) a w)
  (hdone:∀ listed a w,St listed a w→Region.ready md ops listed=[]→Q .normal a w) :
  ∀ (fuel:Nat) (listed:Array Bool) (a:Act) (w:World),unl ops.size listed≤fuel→St listed a w→wpAnyIn F n P md ops Q fuel listed a w
 | 0,listed,a,w,hu,hs=>by
  have hr:=ready_nil (md:=md) (Nat.le_zero.1 hu)
  exact ⟨hr,hdone _ _ _ hs hr⟩
 | fuel+1,listed,a,w,hu,hs=>by
  refine ⟨fun h0=>hdone _ _ _ hs h0,fun i hi=>?_⟩
  have hm:=ready_mem hi
  have hl:=unl_set hm.1 hm.2.1
  exact wpOpIn_mono (fun a' w' h'=>wpAnyIn_inv St hstep hdone fuel _ a' w' (by omega) h') (hstep _ _ _ _ hs hi)
end Go.Proofs.YtgliljnbajohhaaGreatDoor
namespace Go.Proofs.YtgliljnbajohhaaGreatDoor
open Go.RowKit Go.Proofs.Geo
attribute [local go_sem] Oper.semAt_some
abbrev Edge:={ x:Nat×Pt×Pt // x.1≤100000 }
def edgesOf (l:List Pt):List Edge:=(List.range l.length).map fun k=>⟨(min k 100000,pt l k,rat l ((k:Int)+1)),Nat.min_le_right _ _⟩
theorem edgesOf_len (l:List Pt):(edgesOf l).length=l.length:=by simp [edgesOf]
theorem edgesOf_get {l:List Pt} {k:Nat} (h:k<l.length) (hk:k≤100000):(edgesOf l)[k]'(by rw [edgesOf_len];exact h)=⟨(k,pt l k,rat l ((k:Int)+1)),hk⟩:=by
 apply Subtype.ext
 simp [edgesOf,Nat.min_eq_left hk]
theorem edgesOf_take {l:List Pt} {k:Nat} (h:k<l.length) (hk:k≤100000):(edgesOf l).take (k+1)=(edgesOf l).take k++[⟨(k,pt l k,rat l ((k:Int)+1)),hk⟩]:=by
 rw [List.take_succ_eq_append_getElem (by rw [edgesOf_len];exact h),edgesOf_get h hk]
abbrev encE (x:Edge):Array Value:=#[.int .i64 (x.1.1:Int),.agg #[.int .i64 x.1.2.1.1,.int .i64 x.1.2.1.2,.int .i64 x.1.2.2.1,.int .i64 x.1.2.2.2]]
theorem abides_alloc {β:Type} {B:Nat} {J:β→World→Prop} (h:AbidesFrom B J) {s:β} {W:World} (hs:J s W) (o:Obj):J s (W.alloc o):=h s W _ none hs (World.grownBy_alloc _ _ _) (fun _ e=>by cases e)
theorem abides_drew {β:Type} {B:Nat} {J:β→World→Prop} (h:AbidesFrom B J) {s:β} {W:World} (hs:J s W):J s W.drew:=h s W _ none hs ⟨rfl,rfl,rfl,Nat.le_refl _,fun _ _ _=>rfl⟩ (fun _ e=>by cases e)
theorem PtsAt.below {N:Nat} {A B:World} {b off:Nat} {l:List Pt} (h:PtsAt A b off l) (k:Below N A B) (hb:b<N):PtsAt B b off l :=
 fun i hi=>⟨(k.cell (p:=⟨b,off+i * 2,none⟩) hb).trans (h i hi).1,(k.cell (p:=⟨b,off+i * 2+1,none⟩) hb).trans (h i hi).2⟩
set_option maxRecDepth 100000 in
set_option maxHeartbeats 8000000 in
theorem edges1_in (F:Fence) (n:Nat) (hF:F.fn 352) (hro:F.round=none) (hn:1≤n) (y Bs n₀ N0 b off len cap:Nat) (l:List Pt) (J Jx:List Edge→World→Prop) (hJ:AbidesFrom N0 J)
  (hY:∀ pre x W1,J pre W1→pre.length<(edgesOf l).length→YieldAt F (n - 1) Tryz.prog y (encE x) W1 fun e W' =>
   (e=.returned (.bool true)∧J (pre++[x]) W'∧Below n₀ W1 W')∨(e=.returned (.bool false)∧Jx (pre++[x]) W'))
  (W:World) (hBs:W.cell? ⟨Bs,0,none⟩=some (.slice (some ⟨b,off,none⟩) len cap)) (hBn:Bs<n₀) (hbn:b<n₀) (hnW:n₀≤W.heap.size) (hp:PtsAt W b off l) (hlen:len=l.length) (hpos:0<len) (hl:len≤100000) (h0:J [] W) :
  CallsIn F n Tryz.prog 352 #[.func (.yield y) #[] #[],.pointer (some ⟨Bs,0,none⟩)] W fun e W'=>(∃ v,e=.returned v) ∧
   ((∃ ys,ys=edgesOf l∧J ys W')∨(∃ pre,pre <+: edgesOf l∧Jx pre W')):=by
 have HL:=Lib.hid hlen
 have HJ:=Lib.hid hJ
 have HY:=Lib.hid hY
 clear hlen hJ hY
 refine callsIn_of_wp Tryz.func352 rfl hF ?_ hro
 simp only [Tryz.ntmps352,List.size_toArray,List.length_cons,List.length_nil,Nat.reduceAdd,Nat.reduceSub,Array.replicate_succ,Array.replicate_zero,List.push_toArray,List.append_toArray,List.nil_append,List.cons_append]
 gi_wp2
 gi_loopw [7] (fun i wr=>∃ k:Nat,k≤len∧i=.int .i64 k∧J ((edgesOf l).take k) wr∧PtsAt wr b off l∧n₀≤wr.heap.size∧wr.cell? ⟨Bs,0,none⟩=some (.slice (some ⟨b,off,none⟩) len cap)) (fun i _=>len - (intOf i).toNat)
 case atStart=>exact ⟨0,by omega,rfl,h0,hp,hnW,hBs⟩
 case round =>
  obtain ⟨k,hk,rfl,hJs,hps,hwz,hcB⟩:=hrel
  by_cases hlt:k<len
  ·have hkl:k<l.length:=by rw [← HL.out];exact hlt
   obtain ⟨y0,y1⟩:=pt_lt hps hkl
   have hm:(k+1) % len<l.length:=by rw [← HL.out];exact Nat.mod_lt _ hpos
   obtain ⟨z0,z1⟩:=pt_lt hps hm
   have hk5:k≤100000:=by omega
   have htk:=edgesOf_take hkl hk5
   have hrt:rat l ((k:Int)+1)=pt l ((k+1) % len):=by unfold rat;rw [← HL.out,rix_nat hpos]
   rw [hrt] at htk
   generalize pt l k=p at *
   generalize pt l ((k+1) % len)=q at *
   obtain ⟨px,py⟩:=p
   obtain ⟨qx,qy⟩:=q
   dsimp only at y0 y1 z0 z1
   have hJ1:=abides_drew HJ.out (abides_alloc HJ.out hJs (.cells #[.int .i64 px,.int .i64 py] 53))
   obtain ⟨fn,tmps,assign,body,hy,hR⟩:=HY.out _ ⟨(k,(px,py),(qx,qy)),hk5⟩ _ hJ1 (by rw [List.length_take,edgesOf_len];omega)
   dsimp only [encE] at hy
   obtain ⟨m,hme⟩:∃ m,(k+1) % len=m:=⟨_,rfl⟩
   have hml:m<len:=by rw [← hme];exact Nat.mod_lt _ hpos
   rw [hme] at z0 z1
   have wk:IntKind.i64.wrap ((k:Int)+1)=(k:Int)+1:=IntWalk.i64_in _ (by omega)
   have wt:((k:Int)+1).tmod (len:Int)=(m:Int):=by rw [Int.tmod_eq_emod_of_nonneg (by omega),← hme];exact (Int.natCast_emod (k+1) len).symm ▸ (by simp)
   have c1:(0:Int)≤(k:Int):=by omega
   have c2:(k:Int)<(len:Int):=by omega
   have c3:(0:Int)≤(m:Int):=by omega
   have c4:(m:Int)<(len:Int):=by omega
   have c7:¬ ((len:Int)=0):=by omega
   have c8:¬ (len=0):=by omega
   have lb:b<wr.heap.size:=by omega
   have lB:Bs<wr.heap.size:=by omega
   have HT:=Lib.hid htk
   have HPS:=Lib.hid hps
   have hmx:Tryz.prog.follows .mixedOrders=true:=by kernel_rfl
   have hR2:=hR.mono (R':=fun e W'=>∃ bb:Bool,e=.returned (.bool bb)∧((bb=true∧J ((edgesOf l).take (k+1)) W'∧Below n₀ ((wr.alloc (.cells #[.int .i64 px,.int .i64 py] 53)).drew) W')∨(bb=false∧Jx ((edgesOf l).take (k+1)) W'))) (by
    rintro e W' (⟨rfl,h1,h2⟩ | ⟨rfl,h1⟩)
    ·exact ⟨true,rfl,.inl ⟨rfl,by rw [htk];exact h1,h2⟩⟩
    ·exact ⟨false,rfl,.inr ⟨rfl,by rw [htk];exact h1⟩⟩)
   have HR2:=Lib.hid hR2
   clear hJ1 hme hm hrt htk hps hJs hR hR2
   obtain ⟨A,hA⟩:∃ A,(wr.alloc (.cells #[.int .i64 px,.int .i64 py] 53)).drew=A:=⟨_,rfl⟩
   have p0:A.cell? ⟨wr.heap.size,0,none⟩=some (.int .i64 px):=by rw [← hA];simp [go_sem]
   have p1:A.cell? ⟨wr.heap.size,1,none⟩=some (.int .i64 py):=by rw [← hA];simp [go_sem]
   have aB:A.cell? ⟨Bs,0,none⟩=some (.slice (some ⟨b,off,none⟩) len cap):=by rw [← hA];exact cell_d (cell_a hcB _)
   have az0:A.cell? ⟨b,off+m * 2,none⟩=some (.int .i64 qx):=by rw [← hA];exact cell_d (cell_a z0 _)
   have az1:A.cell? ⟨b,off+m * 2+1,none⟩=some (.int .i64 qy):=by rw [← hA];exact cell_d (cell_a z1 _)
   have HBA:Hid (Below n₀ wr A):=Lib.hid (by rw [← hA];exact Below.drew ((Below.refl n₀ wr).alloc hwz _))
   gi_wp2
   refine wpIn_region_any (by kernel_rfl) ?_
   (try change wpAnyIn _ _ _ _ _ _ _ _ _ (World.drew _))
   rw [hA] at hy HR2 ⊢
   clear y0 y1 z0 z1 hcB
   refine wpAnyIn_inv (fun listed a w'=>∃ (b0 b1 b2 b3 b4 b5 b6 b7 b8 b9 b10 b11 b12 b13:Bool) (c24 c25:Value),listed = #[b0,b1,b2,b3,b4,b5,b6,b7,b8,b9,b10,b11,b12,b13]∧a={ tmps:=#[.func (.yield y) #[] #[],.pointer (some ⟨Bs,0,none⟩),undef,.int .i64 (k:Int),.pointer (some ⟨wr.heap.size,0,none⟩),.slice (some ⟨b,off,none⟩) len cap,.int .i64 (len:Int),.int .i64 (k:Int),.bool true,.int .i64 (k:Int),.pointer (some ⟨b,off+k * 2,none⟩),.agg #[.int .i64 px,.int .i64 py],cond b0 (.func (.yield y) #[] #[]) u12,cond b1 (.int .i64 (k:Int)) u13,cond b2 (.agg #[.int .i64 px,.int .i64 py]) u14,cond b3 (.slice (some ⟨b,off,none⟩) len cap) u15,cond b4 (.int .i64 (k:Int)) u16,cond b5 (.int .i64 ((k:Int)+1)) u17,cond b6 (.slice (some ⟨b,off,none⟩) len cap) u18,cond b7 (.int .i64 (len:Int)) u19,cond b8 (.int .i64 (m:Int)) u20,cond b9 (.pointer (some ⟨b,off+m * 2,none⟩)) u21,cond b10 (.agg #[.int .i64 qx,.int .i64 qy]) u22,cond b11 (.agg #[.int .i64 px,.int .i64 py,.int .i64 qx,.int .i64 qy]) u23,c24,c25,u26],defers:=[] } ∧
    ((b5=true→b4=true)∧(b7=true→b6=true)∧(b8=true→b5=true∧b7=true)∧(b9=true→b3=true∧b8=true)∧(b10=true→b9=true)∧(b11=true→b2=true∧b10=true))∧((b12=false∧b13=false∧w'=A)∨(b0=true∧b1=true∧b2=true∧b3=true∧b4=true∧b5=true∧b6=true∧b7=true∧b8=true∧b9=true∧b10=true∧b11=true∧b12=true∧∃ bb:Bool,c24=.bool bb∧((bb=true∧J ((edgesOf l).take (k+1)) w'∧Below n₀ A w')∨(bb=false∧Jx ((edgesOf l).take (k+1)) w'))∧(b13=true→c25=.bool (!bb))))) ?step ?done _ _ _ _ (by decide +kernel) ⟨false,false,false,false,false,false,false,false,false,false,false,false,false,false,u24,u25,rfl,rfl,by simp,.inl ⟨rfl,rfl,rfl⟩⟩
   case done =>
    rintro listed a w' ⟨b0,b1,b2,b3,b4,b5,b6,b7,b8,b9,b10,b11,b12,b13,c24,c25,rfl,rfl,hcl,hcase⟩ hnil
    have nr:=fun i o h1 h2=>ready_all hnil (i:=i) (o:=o) h1 h2
    have t0:=nr 0 _ rfl (by simp [Region.binds])
    simp at t0
    subst t0
    have t1:=nr 1 _ rfl (by simp [Region.binds])
    simp at t1
    subst t1
    have t2:=nr 2 _ rfl (by simp [Region.binds])
    simp at t2
    subst t2
    have t3:=nr 3 _ rfl (by simp [Region.binds])
    simp at t3
    subst t3
    have t4:=nr 4 _ rfl (by simp [Region.binds])
    simp at t4
    subst t4
    have t5:=nr 5 _ rfl (by simp [Region.binds])
    simp at t5
    subst t5
    have t6:=nr 6 _ rfl (by simp [Region.binds])
    simp at t6
    subst t6
    have t7:=nr 7 _ rfl (by simp [Region.binds])
    simp at t7
    subst t7
    have t8:=nr 8 _ rfl (by simp [Region.binds])
    simp at t8
    subst t8
    have t9:=nr 9 _ rfl (by simp [Region.binds])
    simp at t9
    subst t9
    have t10:=nr 10 _ rfl (by simp [Region.binds])
    simp at t10
    subst t10
    have t11:=nr 11 _ rfl (by simp [Region.binds])
    simp at t11
    subst t11
    have t12:=nr 12 _ rfl (by simp [Region.binds])
    simp at t12
    subst t12
    have t13:=nr 13 _ rfl (by simp [Region.binds])
    simp at t13
    subst t13
    rcases hcase with ⟨e12,_⟩ | ⟨_,_,_,_,_,_,_,_,_,_,_,_,_,bb,rfl,hst,h13⟩
    ·cases e12
    obtain rfl:=h13 rfl
    rcases hst with ⟨hb,hJ2,hk2⟩ | ⟨hb,hx2⟩
    ·subst hb
     gi_wp2
     go_roundw
     case rel=>exact ⟨k+1,by omega,by go_num,hJ2,(HPS.out.below HBA.out hbn).below hk2 hbn,by have h1:=hk2.size;have h2:=HBA.out.size;omega,(hk2.cell (p:=⟨Bs,0,none⟩) hBn).trans aB⟩
     case measure=>simp [intOf];omega
    ·subst hb
     gi_wp2
     refine bodyPost_ret (results_none rfl _ _ _) rfl ?_
     exact ⟨⟨_,rfl⟩,.inr ⟨_,List.take_prefix _ _,hx2⟩⟩
   case step =>
    rintro listed a w' i ⟨b0,b1,b2,b3,b4,b5,b6,b7,b8,b9,b10,b11,b12,b13,c24,c25,rfl,rfl,hcl,hcase⟩ hi
    obtain ⟨hlt,hb,hrd⟩:=ready_mem hi
    have hi14:i=0∨i=1∨i=2∨i=3∨i=4∨i=5∨i=6∨i=7∨i=8∨i=9∨i=10∨i=11∨i=12∨i=13:=by simp at hlt;omega
    rcases hi14 with rfl | rfl | rfl | rfl | rfl | rfl | rfl | rfl | rfl | rfl | rfl | rfl | rfl | rfl
    ·have hr:=hrd _ rfl
     simp [Region.binds] at hb hr
     rcases hcase with ⟨e12,e13,rfl⟩ | ⟨t0,t1,t2,t3,t4,t5,t6,t7,t8,t9,t10,t11,_⟩
     rotate_left
     ·rw [hb] at t0;cases t0
     subst hb
     have HCL:=Lib.hid hcl;clear hcl
     refine wpOpIn_step rfl (fun K hK=>?_)
     go_simp
     refine hK _ _ ?_
     obtain ⟨h5,h7,h8,h9,h10,h11⟩:=HCL.out
     exact ⟨true,b1,b2,b3,b4,b5,b6,b7,b8,b9,b10,b11,b12,b13,c24,c25,rfl,rfl,⟨h5,h7,fun h=>⟨(h8 h).1,(h8 h).2⟩,fun h=>⟨(h9 h).1,(h9 h).2⟩,h10,fun h=>⟨(h11 h).1,(h11 h).2⟩⟩,.inl ⟨e12,e13,rfl⟩⟩
    ·have hr:=hrd _ rfl
     simp [Region.binds] at hb hr
     rcases hcase with ⟨e12,e13,rfl⟩ | ⟨t0,t1,t2,t3,t4,t5,t6,t7,t8,t9,t10,t11,_⟩
     rotate_left
     ·rw [hb] at t1;cases t1
     subst hb
     have HCL:=Lib.hid hcl;clear hcl
     refine wpOpIn_step rfl (fun K hK=>?_)
     go_simp
     refine hK _ _ ?_
     obtain ⟨h5,h7,h8,h9,h10,h11⟩:=HCL.out
     exact ⟨b0,true,b2,b3,b4,b5,b6,b7,b8,b9,b10,b11,b12,b13,c24,c25,rfl,rfl,⟨h5,h7,fun h=>⟨(h8 h).1,(h8 h).2⟩,fun h=>⟨(h9 h).1,(h9 h).2⟩,h10,fun h=>⟨(h11 h).1,(h11 h).2⟩⟩,.inl ⟨e12,e13,rfl⟩⟩
    ·have hr:=hrd _ rfl
     simp [Region.binds] at hb hr
     rcases hcase with ⟨e12,e13,rfl⟩ | ⟨t0,t1,t2,t3,t4,t5,t6,t7,t8,t9,t10,t11,_⟩
     rotate_left
     ·rw [hb] at t2;cases t2
     subst hb
     have HCL:=Lib.hid hcl;clear hcl
     refine wpOpIn_step rfl (fun K hK=>?_)
     go_simp
     refine hK _ _ ?_
     obtain ⟨h5,h7,h8,h9,h10,h11⟩:=HCL.out
     exact ⟨b0,b1,true,b3,b4,b5,b6,b7,b8,b9,b10,b11,b12,b13,c24,c25,rfl,rfl,⟨h5,h7,fun h=>⟨(h8 h).1,(h8 h).2⟩,fun h=>⟨(h9 h).1,(h9 h).2⟩,h10,fun h=>⟨rfl,(h11 h).2⟩⟩,.inl ⟨e12,e13,rfl⟩⟩
    ·have hr:=hrd _ rfl
     simp [Region.binds] at hb hr
     rcases hcase with ⟨e12,e13,rfl⟩ | ⟨t0,t1,t2,t3,t4,t5,t6,t7,t8,t9,t10,t11,_⟩
     rotate_left
     ·rw [hb] at t3;cases t3
     subst hb
     have HCL:=Lib.hid hcl;clear hcl
     refine wpOpIn_step rfl (fun K hK=>?_)
     go_simp
     refine hK _ _ ?_
     obtain ⟨h5,h7,h8,h9,h10,h11⟩:=HCL.out
     exact ⟨b0,b1,b2,true,b4,b5,b6,b7,b8,b9,b10,b11,b12,b13,c24,c25,rfl,rfl,⟨h5,h7,fun h=>⟨(h8 h).1,(h8 h).2⟩,fun h=>⟨rfl,(h9 h).2⟩,h10,fun h=>⟨(h11 h).1,(h11 h).2⟩⟩,.inl ⟨e12,e13,rfl⟩⟩
    ·have hr:=hrd _ rfl
     simp [Region.binds] at hb hr
     rcases hcase with ⟨e12,e13,rfl⟩ | ⟨t0,t1,t2,t3,t4,t5,t6,t7,t8,t9,t10,t11,_⟩
     rotate_left
     ·rw [hb] at t4;cases t4
     subst hb
     have HCL:=Lib.hid hcl;clear hcl
     refine wpOpIn_step rfl (fun K hK=>?_)
     go_simp
     refine hK _ _ ?_
     obtain ⟨h5,h7,h8,h9,h10,h11⟩:=HCL.out
     exact ⟨b0,b1,b2,b3,true,b5,b6,b7,b8,b9,b10,b11,b12,b13,c24,c25,rfl,rfl,⟨fun _=>rfl,h7,fun h=>⟨(h8 h).1,(h8 h).2⟩,fun h=>⟨(h9 h).1,(h9 h).2⟩,h10,fun h=>⟨(h11 h).1,(h11 h).2⟩⟩,.inl ⟨e12,e13,rfl⟩⟩
    ·have hr:=hrd _ rfl
     simp [Region.binds] at hb hr
     rcases hcase with ⟨e12,e13,rfl⟩ | ⟨t0,t1,t2,t3,t4,t5,t6,t7,t8,t9,t10,t11,_⟩
     rotate_left
     ·rw [hb] at t5;cases t5
     subst hb
     subst hr
     have HCL:=Lib.hid hcl;clear hcl
     refine wpOpIn_step rfl (fun K hK=>?_)
     go_simp
     refine hK _ _ ?_
     obtain ⟨h5,h7,h8,h9,h10,h11⟩:=HCL.out
     exact ⟨b0,b1,b2,b3,true,true,b6,b7,b8,b9,b10,b11,b12,b13,c24,c25,rfl,rfl,⟨fun _=>rfl,h7,fun h=>⟨rfl,(h8 h).2⟩,fun h=>⟨(h9 h).1,(h9 h).2⟩,h10,fun h=>⟨(h11 h).1,(h11 h).2⟩⟩,.inl ⟨e12,e13,rfl⟩⟩
    ·have hr:=hrd _ rfl
     simp [Region.binds] at hb hr
     rcases hcase with ⟨e12,e13,rfl⟩ | ⟨t0,t1,t2,t3,t4,t5,t6,t7,t8,t9,t10,t11,_⟩
     rotate_left
     ·rw [hb] at t6;cases t6
     subst hb
     have HCL:=Lib.hid hcl;clear hcl
     refine wpOpIn_step rfl (fun K hK=>?_)
     go_simp
     refine hK _ _ ?_
     obtain ⟨h5,h7,h8,h9,h10,h11⟩:=HCL.out
     exact ⟨b0,b1,b2,b3,b4,b5,true,b7,b8,b9,b10,b11,b12,b13,c24,c25,rfl,rfl,⟨h5,fun _=>rfl,fun h=>⟨(h8 h).1,(h8 h).2⟩,fun h=>⟨(h9 h).1,(h9 h).2⟩,h10,fun h=>⟨(h11 h).1,(h11 h).2⟩⟩,.inl ⟨e12,e13,rfl⟩⟩
    ·have hr:=hrd _ rfl
     simp [Region.binds] at hb hr
     rcases hcase with ⟨e12,e13,rfl⟩ | ⟨t0,t1,t2,t3,t4,t5,t6,t7,t8,t9,t10,t11,_⟩
     rotate_left
     ·rw [hb] at t7;cases t7
     subst hb
     subst hr
     have HCL:=Lib.hid hcl;clear hcl
     refine wpOpIn_step rfl (fun K hK=>?_)
     go_simp
     refine hK _ _ ?_
     obtain ⟨h5,h7,h8,h9,h10,h11⟩:=HCL.out
     exact ⟨b0,b1,b2,b3,b4,b5,true,true,b8,b9,b10,b11,b12,b13,c24,c25,rfl,rfl,⟨h5,fun _=>rfl,fun h=>⟨(h8 h).1,rfl⟩,fun h=>⟨(h9 h).1,(h9 h).2⟩,h10,fun h=>⟨(h11 h).1,(h11 h).2⟩⟩,.inl ⟨e12,e13,rfl⟩⟩
    ·have hr:=hrd _ rfl
     simp [Region.binds] at hb hr
     rcases hcase with ⟨e12,e13,rfl⟩ | ⟨t0,t1,t2,t3,t4,t5,t6,t7,t8,t9,t10,t11,_⟩
     rotate_left
     ·rw [hb] at t8;cases t8
     subst hb
     obtain ⟨rfl,rfl⟩:=hr
     have HCL:=Lib.hid hcl;clear hcl
     refine wpOpIn_step rfl (fun K hK=>?_)
     go_simp
     refine hK _ _ ?_
     obtain ⟨h5,h7,h8,h9,h10,h11⟩:=HCL.out
     exact ⟨b0,b1,b2,b3,b4,true,b6,true,true,b9,b10,b11,b12,b13,c24,c25,rfl,rfl,⟨h5,h7,fun _=>⟨rfl,rfl⟩,fun h=>⟨(h9 h).1,rfl⟩,h10,fun h=>⟨(h11 h).1,(h11 h).2⟩⟩,.inl ⟨e12,e13,rfl⟩⟩
    ·have hr:=hrd _ rfl
     simp [Region.binds] at hb hr
     rcases hcase with ⟨e12,e13,rfl⟩ | ⟨t0,t1,t2,t3,t4,t5,t6,t7,t8,t9,t10,t11,_⟩
     rotate_left
     ·rw [hb] at t9;cases t9
     subst hb
     obtain ⟨rfl,rfl⟩:=hr
     have HCL:=Lib.hid hcl;clear hcl
     refine wpOpIn_step rfl (fun K hK=>?_)
     go_simp
     refine hK _ _ ?_
     obtain ⟨h5,h7,h8,h9,h10,h11⟩:=HCL.out
     exact ⟨b0,b1,b2,true,b4,b5,b6,b7,true,true,b10,b11,b12,b13,c24,c25,rfl,rfl,⟨h5,h7,fun h=>⟨(h8 h).1,(h8 h).2⟩,fun _=>⟨rfl,rfl⟩,fun _=>rfl,fun h=>⟨(h11 h).1,(h11 h).2⟩⟩,.inl ⟨e12,e13,rfl⟩⟩
    ·have hr:=hrd _ rfl
     simp [Region.binds] at hb hr
     rcases hcase with ⟨e12,e13,rfl⟩ | ⟨t0,t1,t2,t3,t4,t5,t6,t7,t8,t9,t10,t11,_⟩
     rotate_left
     ·rw [hb] at t10;cases t10
     subst hb
     subst hr
     have HCL:=Lib.hid hcl;clear hcl
     refine wpOpIn_step rfl (fun K hK=>?_)
     go_simp
     refine hK _ _ ?_
     obtain ⟨h5,h7,h8,h9,h10,h11⟩:=HCL.out
     exact ⟨b0,b1,b2,b3,b4,b5,b6,b7,b8,true,true,b11,b12,b13,c24,c25,rfl,rfl,⟨h5,h7,fun h=>⟨(h8 h).1,(h8 h).2⟩,fun h=>⟨(h9 h).1,(h9 h).2⟩,fun _=>rfl,fun h=>⟨(h11 h).1,rfl⟩⟩,.inl ⟨e12,e13,rfl⟩⟩
    ·have hr:=hrd _ rfl
     simp [Region.binds] at hb hr
     rcases hcase with ⟨e12,e13,rfl⟩ | ⟨t0,t1,t2,t3,t4,t5,t6,t7,t8,t9,t10,t11,_⟩
     rotate_left
     ·rw [hb] at t11;cases t11
     subst hb
     obtain ⟨rfl,rfl⟩:=hr
     have HCL:=Lib.hid hcl;clear hcl
     refine wpOpIn_step rfl (fun K hK=>?_)
     go_simp
     refine hK _ _ ?_
     obtain ⟨h5,h7,h8,h9,h10,h11⟩:=HCL.out
     exact ⟨b0,b1,true,b3,b4,b5,b6,b7,b8,b9,true,true,b12,b13,c24,c25,rfl,rfl,⟨h5,h7,fun h=>⟨(h8 h).1,(h8 h).2⟩,fun h=>⟨(h9 h).1,(h9 h).2⟩,h10,fun _=>⟨rfl,rfl⟩⟩,.inl ⟨e12,e13,rfl⟩⟩
    ·have hr:=hrd _ rfl
     simp [Region.binds] at hb hr
     obtain ⟨rfl,rfl,rfl⟩:=hr
     obtain ⟨h5,h7,h8,h9,h10,h11⟩:=hcl
     obtain ⟨rfl,t10⟩:=h11 rfl
     subst t10
     obtain rfl:=h10 rfl
     obtain ⟨rfl,rfl⟩:=h9 rfl
     obtain ⟨rfl,rfl⟩:=h8 rfl
     obtain rfl:=h5 rfl
     obtain rfl:=h7 rfl
     rcases hcase with ⟨e12,e13,rfl⟩ | ⟨_,_,_,_,_,_,_,_,_,_,_,_,t12,_⟩
     rotate_left
     ·rw [hb] at t12;cases t12
     subst hb e13
     refine wpOpIn_step rfl (fun K hK=>?_)
     go_simp
     refine HR2.out.mono ?_
     rintro e W3 ⟨bb,rfl,hst⟩
     refine hK _ _ ?_
     exact ⟨true,true,true,true,true,true,true,true,true,true,true,true,true,false,.bool bb,c25,rfl,rfl,by simp,.inr ⟨rfl,rfl,rfl,rfl,rfl,rfl,rfl,rfl,rfl,rfl,rfl,rfl,rfl,bb,rfl,hst,fun h=>by cases h⟩⟩
    ·have hr:=hrd _ rfl
     simp [Region.binds] at hb hr
     subst hb hr
     rcases hcase with ⟨e12,_⟩ | ⟨rfl,rfl,rfl,rfl,rfl,rfl,rfl,rfl,rfl,rfl,rfl,rfl,_,bb,rfl,hst,_⟩
     ·cases e12
     refine wpOpIn_step rfl (fun K hK=>?_)
     go_simp
     refine hK _ _ ?_
     exact ⟨true,true,true,true,true,true,true,true,true,true,true,true,true,true,.bool bb,.bool (!bb),rfl,rfl,by simp,.inr ⟨rfl,rfl,rfl,rfl,rfl,rfl,rfl,rfl,rfl,rfl,rfl,rfl,rfl,bb,rfl,hst,fun _=>rfl⟩⟩
  ·have hke:k=len:=by omega
   have HK:Hid (J (edgesOf l) wr):=by show J (edgesOf l) wr;rw [hke,List.take_of_length_le (by rw [edgesOf_len,HL.out];omega)] at hJs;exact hJs
   clear hJs hke
   gi_wp2
   go_end0
   exact ⟨⟨_,rfl⟩,.inl ⟨_,rfl,HK.out⟩⟩
set_option maxHeartbeats 1000000 in
theorem edges_in (F:Fence) (n:Nat) (hF:F.fn 286) (hro:F.round=none) (a:Option Addr) (len cap:Nat) (w:World) :
  CallsIn F n Tryz.prog 286 #[.slice a len cap] w fun e w'=>e=.returned (.func (.func 352) #[] #[.pointer (some ⟨w.heap.size,0,none⟩)])∧w'=w.alloc (.cells #[.slice a len cap] 71):=by
 refine callsIn_of_wp Tryz.func286 rfl hF ?_ hro
 simp only [Tryz.ntmps286,List.size_toArray,List.length_cons,List.length_nil,Nat.reduceAdd,Nat.reduceSub,Array.replicate_succ,Array.replicate_zero,List.push_toArray,List.append_toArray,List.nil_append,List.cons_append]
 gi_wp2
 go_ret
 exact ⟨rfl,rfl⟩
theorem edges_stops (F:Fence) (n:Nat) (hF:F.fn 352) (hro:F.round=none) (hn:1≤n) (Bs n₀ b off len cap:Nat) (l:List Pt) (w:World) (hBs:Bs<n₀) (hb:b<n₀) (hn₀:n₀≤w.heap.size)
  (hc:w.cell? ⟨Bs,0,none⟩=some (.slice (some ⟨b,off,none⟩) len cap)) (hp:PtsAt w b off l) (hlen:len=l.length) (hpos:0<len) (hl:len≤100000) :
  SeqStopsK F n Tryz.prog 352 #[.pointer (some ⟨Bs,0,none⟩)] encE (Below n₀) (fun ys=>ys=edgesOf l) (fun pre=>pre <+: edgesOf l) (edgesOf l).length w:=fun y J Jx W hW hJ _ hY h0 =>
 edges1_in F n hF hro hn y Bs n₀ W.heap.size b off len cap l J Jx hJ hY W ((hW.cell (p:=⟨Bs,0,none⟩) (show Bs<w.heap.size by omega)).trans hc) hBs hb (by have:=hW.size;omega) (hp.below hW (by omega)) hlen hpos hl h0
end Go.Proofs.YtgliljnbajohhaaGreatDoor
