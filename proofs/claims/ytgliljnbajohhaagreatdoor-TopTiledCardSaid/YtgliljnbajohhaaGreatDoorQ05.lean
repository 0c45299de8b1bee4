import Derived.Test.YtgliljnbajohhaaGreatDoorQ04
import Derived.Deep.DeepCutAuto
import Derived.Test.YtgliljnbajohhaaGreatDoorQ02
set_option linter.unusedVariables false
set_option linter.unusedSimpArgs false
namespace Go.Proofs.YtgliljnbajohhaaGreatDoor
open Go.RowKit Go.Proofs.Geo
theorem may_f1 {a b:Pt} (h:okP a=false):may a b=false:=by simp [may,h]
theorem may_f2 {a b:Pt} (h1:okP a=true) (h:okP b=false):may a b=false:=by simp [may,h1,h]
theorem may_t {a b:Pt} (h1:okP a=true) (h:okP b=true):may a b=decide (a≠b):=by simp [may,h1,h]
set_option maxHeartbeats 4000000 in
set_option maxRecDepth 100000 in
theorem may_any (ax ay bx bY:Int) (w:World):Calls Tryz.prog 287 #[pv ax ay,pv bx bY] w fun e w'=>e=.returned (.bool (may (ax,ay) (bx,bY)))∧Kp w w':=by
 cases ha:okP (ax,ay)
 ·have H:=Lib.hid (may_f1 (b:=(bx,bY)) ha)
  go_enter Tryz.func287,Tryz.ntmps287
  go_wp2_with (first
   | (go_at_call_of 196 (Value.agg #[Value.int .i64 ax,Value.int .i64 ay]);refine (valid_any _ _ _).mono ?_;rintro e w1 ⟨rfl,hk⟩;have c0:w1.cell? ⟨w.heap.size,0,none⟩=some (.int .i64 ax):=kp_cell hk (by simp [go_sem]);have c1:w1.cell? ⟨w.heap.size,1,none⟩=some (.int .i64 ay):=kp_cell hk (by simp [go_sem]);have c2:w1.cell? ⟨w.heap.size+1,0,none⟩=some (.int .i64 bx):=kp_cell hk (by simp [go_sem]);have c3:w1.cell? ⟨w.heap.size+1,1,none⟩=some (.int .i64 bY):=kp_cell hk (by simp [go_sem]);have K:Kp w w1:=kp_trans (by repeat (first | exact kp_refl _ | apply kp_alloc | apply kp_drew)) hk;have l0:w.heap.size<w1.heap.size:=cell_lt c0;have l2:w.heap.size+1<w1.heap.size:=cell_lt c2;have HK:=Lib.hid K;clear K hk)
   | (go_at_call 196;refine (valid_any _ _ _).mono ?_;rintro e w2 ⟨rfl,hk⟩;have HK2:=Lib.hid (kp_trans HK.out hk);replace c0:w2.cell? ⟨w.heap.size,0,none⟩=some (.int .i64 ax):=kp_cell hk c0;replace c1:w2.cell? ⟨w.heap.size,1,none⟩=some (.int .i64 ay):=kp_cell hk c1;replace c2:w2.cell? ⟨w.heap.size+1,0,none⟩=some (.int .i64 bx):=kp_cell hk c2;replace c3:w2.cell? ⟨w.heap.size+1,1,none⟩=some (.int .i64 bY):=kp_cell hk c3;replace l0:w.heap.size<w2.heap.size:=cell_lt c0;replace l2:w.heap.size+1<w2.heap.size:=cell_lt c2;clear hk))
  go_ret
  exact ⟨ret_bool (H.out.symm),HK.out⟩
 ·cases hb:okP (bx,bY)
  ·have H:=Lib.hid (may_f2 ha hb)
   go_enter Tryz.func287,Tryz.ntmps287
   go_wp2_with (first
    | (go_at_call_of 196 (Value.agg #[Value.int .i64 ax,Value.int .i64 ay]);refine (valid_any _ _ _).mono ?_;rintro e w1 ⟨rfl,hk⟩;have c0:w1.cell? ⟨w.heap.size,0,none⟩=some (.int .i64 ax):=kp_cell hk (by simp [go_sem]);have c1:w1.cell? ⟨w.heap.size,1,none⟩=some (.int .i64 ay):=kp_cell hk (by simp [go_sem]);have c2:w1.cell? ⟨w.heap.size+1,0,none⟩=some (.int .i64 bx):=kp_cell hk (by simp [go_sem]);have c3:w1.cell? ⟨w.heap.size+1,1,none⟩=some (.int .i64 bY):=kp_cell hk (by simp [go_sem]);have K:Kp w w1:=kp_trans (by repeat (first | exact kp_refl _ | apply kp_alloc | apply kp_drew)) hk;have l0:w.heap.size<w1.heap.size:=cell_lt c0;have l2:w.heap.size+1<w1.heap.size:=cell_lt c2;have HK:=Lib.hid K;clear K hk)
    | (go_at_call 196;refine (valid_any _ _ _).mono ?_;rintro e w2 ⟨rfl,hk⟩;have HK2:=Lib.hid (kp_trans HK.out hk);replace c0:w2.cell? ⟨w.heap.size,0,none⟩=some (.int .i64 ax):=kp_cell hk c0;replace c1:w2.cell? ⟨w.heap.size,1,none⟩=some (.int .i64 ay):=kp_cell hk c1;replace c2:w2.cell? ⟨w.heap.size+1,0,none⟩=some (.int .i64 bx):=kp_cell hk c2;replace c3:w2.cell? ⟨w.heap.size+1,1,none⟩=some (.int .i64 bY):=kp_cell hk c3;replace l0:w.heap.size<w2.heap.size:=cell_lt c0;replace l2:w.heap.size+1<w2.heap.size:=cell_lt c2;clear hk))
   go_ret
   exact ⟨ret_bool (H.out.symm),HK2.out⟩
  ·have H:=Lib.hid (may_t ha hb)
   by_cases ex:ax=bx
   ·subst ex
    by_cases ey:ay=bY
    ·subst ey
     have hv:okP (ax,ay)=true:=ha
     go_enter Tryz.func287,Tryz.ntmps287
     go_wp2_with fail
     refine (valid_any _ _ _).mono ?_;rintro e w1 ⟨rfl,hk⟩;have c0:w1.cell? ⟨w.heap.size,0,none⟩=some (.int .i64 ax):=kp_cell hk (by simp [go_sem]);have c1:w1.cell? ⟨w.heap.size,1,none⟩=some (.int .i64 ay):=kp_cell hk (by simp [go_sem]);have c2:w1.cell? ⟨w.heap.size+1,0,none⟩=some (.int .i64 ax):=kp_cell hk (by simp [go_sem]);have c3:w1.cell? ⟨w.heap.size+1,1,none⟩=some (.int .i64 ay):=kp_cell hk (by simp [go_sem]);have K:Kp w w1:=kp_trans (by repeat (first | exact kp_refl _ | apply kp_alloc | apply kp_drew)) hk;have l0:w.heap.size<w1.heap.size:=cell_lt c0;have l2:w.heap.size+1<w1.heap.size:=cell_lt c2;have HK:=Lib.hid K;clear K hk
     go_wp2_with fail
     refine (valid_any _ _ _).mono ?_;rintro e w2 ⟨rfl,hk⟩;have HK2:=Lib.hid (kp_trans HK.out hk);replace c0:w2.cell? ⟨w.heap.size,0,none⟩=some (.int .i64 ax):=kp_cell hk c0;replace c1:w2.cell? ⟨w.heap.size,1,none⟩=some (.int .i64 ay):=kp_cell hk c1;replace c2:w2.cell? ⟨w.heap.size+1,0,none⟩=some (.int .i64 ax):=kp_cell hk c2;replace c3:w2.cell? ⟨w.heap.size+1,1,none⟩=some (.int .i64 ay):=kp_cell hk c3;replace l0:w.heap.size<w2.heap.size:=cell_lt c0;replace l2:w.heap.size+1<w2.heap.size:=cell_lt c2;clear hk
     go_wp2_with fail
     go_ret
     exact ⟨ret_bool (by rw [H.out];simp),HK2.out⟩
    ·have ey':(ay == bY)=false:=by simp [ey]
     have HY:=Lib.hid ey
     clear ey
     go_enter Tryz.func287,Tryz.ntmps287
     go_wp2_with (first
      | (go_at_call_of 196 (Value.agg #[Value.int .i64 ax,Value.int .i64 ay]);refine (valid_any _ _ _).mono ?_;rintro e w1 ⟨rfl,hk⟩;have c0:w1.cell? ⟨w.heap.size,0,none⟩=some (.int .i64 ax):=kp_cell hk (by simp [go_sem]);have c1:w1.cell? ⟨w.heap.size,1,none⟩=some (.int .i64 ay):=kp_cell hk (by simp [go_sem]);have c2:w1.cell? ⟨w.heap.size+1,0,none⟩=some (.int .i64 ax):=kp_cell hk (by simp [go_sem]);have c3:w1.cell? ⟨w.heap.size+1,1,none⟩=some (.int .i64 bY):=kp_cell hk (by simp [go_sem]);have K:Kp w w1:=kp_trans (by repeat (first | exact kp_refl _ | apply kp_alloc | apply kp_drew)) hk;have l0:w.heap.size<w1.heap.size:=cell_lt c0;have l2:w.heap.size+1<w1.heap.size:=cell_lt c2;have HK:=Lib.hid K;clear K hk)
      | (go_at_call 196;refine (valid_any _ _ _).mono ?_;rintro e w2 ⟨rfl,hk⟩;have HK2:=Lib.hid (kp_trans HK.out hk);replace c0:w2.cell? ⟨w.heap.size,0,none⟩=some (.int .i64 ax):=kp_cell hk c0;replace c1:w2.cell? ⟨w.heap.size,1,none⟩=some (.int .i64 ay):=kp_cell hk c1;replace c2:w2.cell? ⟨w.heap.size+1,0,none⟩=some (.int .i64 ax):=kp_cell hk c2;replace c3:w2.cell? ⟨w.heap.size+1,1,none⟩=some (.int .i64 bY):=kp_cell hk c3;replace l0:w.heap.size<w2.heap.size:=cell_lt c0;replace l2:w.heap.size+1<w2.heap.size:=cell_lt c2;clear hk))
     go_ret
     exact ⟨ret_bool (by rw [H.out];simp [HY.out]),HK2.out⟩
   ·have ex':(ax == bx)=false:=by simp [ex]
    have HX:=Lib.hid ex
    clear ex
    go_enter Tryz.func287,Tryz.ntmps287
    go_wp2_with (first
     | (go_at_call_of 196 (Value.agg #[Value.int .i64 ax,Value.int .i64 ay]);refine (valid_any _ _ _).mono ?_;rintro e w1 ⟨rfl,hk⟩;have c0:w1.cell? ⟨w.heap.size,0,none⟩=some (.int .i64 ax):=kp_cell hk (by simp [go_sem]);have c1:w1.cell? ⟨w.heap.size,1,none⟩=some (.int .i64 ay):=kp_cell hk (by simp [go_sem]);have c2:w1.cell? ⟨w.heap.size+1,0,none⟩=some (.int .i64 bx):=kp_cell hk (by simp [go_sem]);have c3:w1.cell? ⟨w.heap.size+1,1,none⟩=some (.int .i64 bY):=kp_cell hk (by simp [go_sem]);have K:Kp w w1:=kp_trans (by repeat (first | exact kp_refl _ | apply kp_alloc | apply kp_drew)) hk;have l0:w.heap.size<w1.heap.size:=cell_lt c0;have l2:w.heap.size+1<w1.heap.size:=cell_lt c2;have HK:=Lib.hid K;clear K hk)
     | (go_at_call 196;refine (valid_any _ _ _).mono ?_;rintro e w2 ⟨rfl,hk⟩;have HK2:=Lib.hid (kp_trans HK.out hk);replace c0:w2.cell? ⟨w.heap.size,0,none⟩=some (.int .i64 ax):=kp_cell hk c0;replace c1:w2.cell? ⟨w.heap.size,1,none⟩=some (.int .i64 ay):=kp_cell hk c1;replace c2:w2.cell? ⟨w.heap.size+1,0,none⟩=some (.int .i64 bx):=kp_cell hk c2;replace c3:w2.cell? ⟨w.heap.size+1,1,none⟩=some (.int .i64 bY):=kp_cell hk c3;replace l0:w.heap.size<w2.heap.size:=cell_lt c0;replace l2:w.heap.size+1<w2.heap.size:=cell_lt c2;clear hk))
    go_ret
    exact ⟨ret_bool (by rw [H.out];simp [HX.out]),HK2.out⟩
theorem kp_of_grown_none {w w':World} (h:w.grownBy w' none):Kp w w':=⟨h.os,h.tape,h.output,h.size,fun k hk=>h.block k hk (by simp)⟩
theorem gather_none (B:Nat) (v0:Value) (l0:List Pt) (w:World) (h0:OwnP w B v0 l0) :
  Calls Tryz.prog 353 #[v0,.slice none 0 0] w (GatherEnd B w v0 (gather l0 [])):=by
 have H0:=Lib.hid h0
 clear h0
 go_enter Tryz.func353,Tryz.ntmps353
 go_wp2
 go_loop [0,9] (fun v i=>v=v0∧i=.int .i64 0) (fun _ _=>0)
 case atStart=>exact ⟨rfl,rfl⟩
 case round =>
  obtain ⟨rfl,rfl⟩:=hrel
  go_wp2
  go_ret
  exact ⟨_,rfl,H0.out,grown_refl _ _,.inl rfl⟩
theorem gather_rd (B:Nat) (v0 v1:Value) (l0 l:List Pt) (w:World) (hB:B≤w.heap.size) (h0:OwnP w B v0 l0) (hl0:l0.length≤1000000) (hl:l.length≤1000000) (h:Rd w v1 l) (hne:∀ b,v1.ownBlock=some b→some b≠v0.ownBlock) :
  Calls Tryz.prog 353 #[v0,v1] w (GatherEnd B w v0 (gather l0 l)):=by
 obtain ⟨_,⟨rfl,rfl⟩ | ⟨b,off,cap,rfl,h⟩⟩:=h
 ·exact gather_none B v0 l0 w h0
 ·exact gather_list B v0 l0 b off cap l w hB h0 hl0 hl h (hne b rfl)
theorem gather_nil (v1:Value) (l:List Pt) (w:World) (hl:l.length≤1000000) (h:Rd w v1 l) :
  Calls Tryz.prog 353 #[.slice none 0 0,v1] w (OwnEnd w (gather [] l)) :=
 (gather_rd w.heap.size _ v1 [] l w (Nat.le_refl _) (OwnP.nil _ _) (by simp) hl h (fun _ _=>by simp [Value.ownBlock])).mono fun _ _ ⟨v,he,ho,hg,_⟩=>⟨v,he,ho,kp_of_grown_none hg⟩
theorem ptsAt_two (w:World) (x y z u:Int) (t:TypeId) (b:Nat) (hb:b=w.heap.size):PtsAt (w.alloc (.cells #[.int .i64 x,.int .i64 y,.int .i64 z,.int .i64 u] t)) b 0 [(x,y),(z,u)]:=by
 subst hb
 intro i hi
 match i,hi with
 | 0,_=>exact ⟨by simp,by simp⟩
 | 1,_=>exact ⟨by simp,by simp⟩
set_option maxHeartbeats 8000000 in
set_option maxRecDepth 100000 in
theorem ends_any (ax ay bx bY cx cy dx dy:Int) (w:World):Calls Tryz.prog 288 #[pv ax ay,pv bx bY,pv cx cy,pv dx dy] w (OwnEnd w (ends (ax,ay) (bx,bY) (cx,cy) (dx,dy))):=by
 cases hm1:may (ax,ay) (bx,bY)
 ·have H:Hid (ends (ax,ay) (bx,bY) (cx,cy) (dx,dy)=[]):=Lib.hid (by simp [ends,hm1])
  go_enter Tryz.func288,Tryz.ntmps288
  go_wp2_with (go_at_call_of 287 (Value.agg #[Value.int .i64 ax,Value.int .i64 ay]);refine (may_any _ _ _ _ _).mono ?_;rintro e w1 ⟨rfl,hk⟩;have c0:w1.cell? ⟨w.heap.size,0,none⟩=some (.int .i64 ax):=kp_cell hk (by simp [go_sem]);have c1:w1.cell? ⟨w.heap.size,1,none⟩=some (.int .i64 ay):=kp_cell hk (by simp [go_sem]);have c2:w1.cell? ⟨w.heap.size+1,0,none⟩=some (.int .i64 bx):=kp_cell hk (by simp [go_sem]);have c3:w1.cell? ⟨w.heap.size+1,1,none⟩=some (.int .i64 bY):=kp_cell hk (by simp [go_sem]);have c4:w1.cell? ⟨w.heap.size+1+1,0,none⟩=some (.int .i64 cx):=kp_cell hk (by simp [go_sem]);have c5:w1.cell? ⟨w.heap.size+1+1,1,none⟩=some (.int .i64 cy):=kp_cell hk (by simp [go_sem]);have c6:w1.cell? ⟨w.heap.size+1+1+1,0,none⟩=some (.int .i64 dx):=kp_cell hk (by simp [go_sem]);have c7:w1.cell? ⟨w.heap.size+1+1+1,1,none⟩=some (.int .i64 dy):=kp_cell hk (by simp [go_sem]);have K:Kp w w1:=kp_trans (by repeat (first | exact kp_refl _ | apply kp_alloc | apply kp_drew)) hk;have l0:w.heap.size<w1.heap.size:=cell_lt c0;have l2:w.heap.size+1<w1.heap.size:=cell_lt c2;have l4:w.heap.size+1+1<w1.heap.size:=cell_lt c4;have l6:w.heap.size+1+1+1<w1.heap.size:=cell_lt c6;clear hk)
  go_ret
  exact ⟨_,rfl,by rw [H.out];exact OwnP.nil _ _,K⟩
 ·cases hm2:may (cx,cy) (dx,dy)
  ·have H:Hid (ends (ax,ay) (bx,bY) (cx,cy) (dx,dy)=[]):=Lib.hid (by simp [ends,hm2])
   go_enter Tryz.func288,Tryz.ntmps288
   go_wp2_with (first
    | (go_at_call_of 287 (Value.agg #[Value.int .i64 ax,Value.int .i64 ay]);refine (may_any _ _ _ _ _).mono ?_;rintro e w1 ⟨rfl,hk⟩;have c0:w1.cell? ⟨w.heap.size,0,none⟩=some (.int .i64 ax):=kp_cell hk (by simp [go_sem]);have c1:w1.cell? ⟨w.heap.size,1,none⟩=some (.int .i64 ay):=kp_cell hk (by simp [go_sem]);have c2:w1.cell? ⟨w.heap.size+1,0,none⟩=some (.int .i64 bx):=kp_cell hk (by simp [go_sem]);have c3:w1.cell? ⟨w.heap.size+1,1,none⟩=some (.int .i64 bY):=kp_cell hk (by simp [go_sem]);have c4:w1.cell? ⟨w.heap.size+1+1,0,none⟩=some (.int .i64 cx):=kp_cell hk (by simp [go_sem]);have c5:w1.cell? ⟨w.heap.size+1+1,1,none⟩=some (.int .i64 cy):=kp_cell hk (by simp [go_sem]);have c6:w1.cell? ⟨w.heap.size+1+1+1,0,none⟩=some (.int .i64 dx):=kp_cell hk (by simp [go_sem]);have c7:w1.cell? ⟨w.heap.size+1+1+1,1,none⟩=some (.int .i64 dy):=kp_cell hk (by simp [go_sem]);have K:Kp w w1:=kp_trans (by repeat (first | exact kp_refl _ | apply kp_alloc | apply kp_drew)) hk;have l0:w.heap.size<w1.heap.size:=cell_lt c0;have l2:w.heap.size+1<w1.heap.size:=cell_lt c2;have l4:w.heap.size+1+1<w1.heap.size:=cell_lt c4;have l6:w.heap.size+1+1+1<w1.heap.size:=cell_lt c6;clear hk)
    | (go_at_call_of 287 (Value.agg #[Value.int .i64 cx,Value.int .i64 cy]);refine (may_any _ _ _ _ _).mono ?_;rintro e w2 ⟨rfl,hk⟩;replace c0:w2.cell? ⟨w.heap.size,0,none⟩=some (.int .i64 ax):=kp_cell hk (by first | exact c0 | exact cell_a c0 _ | exact cell_a (cell_a c0 _) _);replace c1:w2.cell? ⟨w.heap.size,1,none⟩=some (.int .i64 ay):=kp_cell hk (by first | exact c1 | exact cell_a c1 _ | exact cell_a (cell_a c1 _) _);replace c2:w2.cell? ⟨w.heap.size+1,0,none⟩=some (.int .i64 bx):=kp_cell hk (by first | exact c2 | exact cell_a c2 _ | exact cell_a (cell_a c2 _) _);replace c3:w2.cell? ⟨w.heap.size+1,1,none⟩=some (.int .i64 bY):=kp_cell hk (by first | exact c3 | exact cell_a c3 _ | exact cell_a (cell_a c3 _) _);replace c4:w2.cell? ⟨w.heap.size+1+1,0,none⟩=some (.int .i64 cx):=kp_cell hk (by first | exact c4 | exact cell_a c4 _ | exact cell_a (cell_a c4 _) _);replace c5:w2.cell? ⟨w.heap.size+1+1,1,none⟩=some (.int .i64 cy):=kp_cell hk (by first | exact c5 | exact cell_a c5 _ | exact cell_a (cell_a c5 _) _);replace c6:w2.cell? ⟨w.heap.size+1+1+1,0,none⟩=some (.int .i64 dx):=kp_cell hk (by first | exact c6 | exact cell_a c6 _ | exact cell_a (cell_a c6 _) _);replace c7:w2.cell? ⟨w.heap.size+1+1+1,1,none⟩=some (.int .i64 dy):=kp_cell hk (by first | exact c7 | exact cell_a c7 _ | exact cell_a (cell_a c7 _) _);replace K:Kp w w2:=kp_trans (by first | exact K | exact kp_drew K | exact kp_alloc K _ | exact kp_alloc (kp_drew K) _ | exact kp_alloc (kp_alloc K _) _ | exact kp_alloc (kp_alloc (kp_drew K) _) _) hk;replace l0:w.heap.size<w2.heap.size:=cell_lt c0;replace l2:w.heap.size+1<w2.heap.size:=cell_lt c2;replace l4:w.heap.size+1+1<w2.heap.size:=cell_lt c4;replace l6:w.heap.size+1+1+1<w2.heap.size:=cell_lt c6;clear hk))
   go_ret
   exact ⟨_,rfl,by rw [H.out];exact OwnP.nil _ _,K⟩
  ·have H:Hid (ends (ax,ay) (bx,bY) (cx,cy) (dx,dy)=gather (gather [] (onL (cx,cy) (dx,dy) [(ax,ay),(bx,bY)])) (onL (ax,ay) (bx,bY) [(cx,cy),(dx,dy)])):=Lib.hid (by simp [ends,hm1,hm2])
   have L1:Hid ((onL (cx,cy) (dx,dy) [(ax,ay),(bx,bY)]).length≤2):=Lib.hid (onL_len _ _ _)
   have L2:Hid ((onL (ax,ay) (bx,bY) [(cx,cy),(dx,dy)]).length≤2):=Lib.hid (onL_len _ _ _)
   have L3:Hid ((gather [] (onL (cx,cy) (dx,dy) [(ax,ay),(bx,bY)])).length≤2):=Lib.hid (Nat.le_trans (gather_len _ _) (by have:=L1.out;simpa using this))
   go_enter Tryz.func288,Tryz.ntmps288
   go_upto_region 3 with (first
    | (go_at_call_of 287 (Value.agg #[Value.int .i64 ax,Value.int .i64 ay]);refine (may_any _ _ _ _ _).mono ?_;rintro e w1 ⟨rfl,hk⟩;have c0:w1.cell? ⟨w.heap.size,0,none⟩=some (.int .i64 ax):=kp_cell hk (by simp [go_sem]);have c1:w1.cell? ⟨w.heap.size,1,none⟩=some (.int .i64 ay):=kp_cell hk (by simp [go_sem]);have c2:w1.cell? ⟨w.heap.size+1,0,none⟩=some (.int .i64 bx):=kp_cell hk (by simp [go_sem]);have c3:w1.cell? ⟨w.heap.size+1,1,none⟩=some (.int .i64 bY):=kp_cell hk (by simp [go_sem]);have c4:w1.cell? ⟨w.heap.size+1+1,0,none⟩=some (.int .i64 cx):=kp_cell hk (by simp [go_sem]);have c5:w1.cell? ⟨w.heap.size+1+1,1,none⟩=some (.int .i64 cy):=kp_cell hk (by simp [go_sem]);have c6:w1.cell? ⟨w.heap.size+1+1+1,0,none⟩=some (.int .i64 dx):=kp_cell hk (by simp [go_sem]);have c7:w1.cell? ⟨w.heap.size+1+1+1,1,none⟩=some (.int .i64 dy):=kp_cell hk (by simp [go_sem]);have K:Kp w w1:=kp_trans (by repeat (first | exact kp_refl _ | apply kp_alloc | apply kp_drew)) hk;have l0:w.heap.size<w1.heap.size:=cell_lt c0;have l2:w.heap.size+1<w1.heap.size:=cell_lt c2;have l4:w.heap.size+1+1<w1.heap.size:=cell_lt c4;have l6:w.heap.size+1+1+1<w1.heap.size:=cell_lt c6;clear hk)
    | (go_at_call_of 287 (Value.agg #[Value.int .i64 cx,Value.int .i64 cy]);refine (may_any _ _ _ _ _).mono ?_;rintro e w2 ⟨rfl,hk⟩;replace c0:w2.cell? ⟨w.heap.size,0,none⟩=some (.int .i64 ax):=kp_cell hk (by first | exact c0 | exact cell_a c0 _ | exact cell_a (cell_a c0 _) _);replace c1:w2.cell? ⟨w.heap.size,1,none⟩=some (.int .i64 ay):=kp_cell hk (by first | exact c1 | exact cell_a c1 _ | exact cell_a (cell_a c1 _) _);replace c2:w2.cell? ⟨w.heap.size+1,0,none⟩=some (.int .i64 bx):=kp_cell hk (by first | exact c2 | exact cell_a c2 _ | exact cell_a (cell_a c2 _) _);replace c3:w2.cell? ⟨w.heap.size+1,1,none⟩=some (.int .i64 bY):=kp_cell hk (by first | exact c3 | exact cell_a c3 _ | exact cell_a (cell_a c3 _) _);replace c4:w2.cell? ⟨w.heap.size+1+1,0,none⟩=some (.int .i64 cx):=kp_cell hk (by first | exact c4 | exact cell_a c4 _ | exact cell_a (cell_a c4 _) _);replace c5:w2.cell? ⟨w.heap.size+1+1,1,none⟩=some (.int .i64 cy):=kp_cell hk (by first | exact c5 | exact cell_a c5 _ | exact cell_a (cell_a c5 _) _);replace c6:w2.cell? ⟨w.heap.size+1+1+1,0,none⟩=some (.int .i64 dx):=kp_cell hk (by first | exact c6 | exact cell_a c6 _ | exact cell_a (cell_a c6 _) _);replace c7:w2.cell? ⟨w.heap.size+1+1+1,1,none⟩=some (.int .i64 dy):=kp_cell hk (by first | exact c7 | exact cell_a c7 _ | exact cell_a (cell_a c7 _) _);replace K:Kp w w2:=kp_trans (by first | exact K | exact kp_drew K | exact kp_alloc K _ | exact kp_alloc (kp_drew K) _ | exact kp_alloc (kp_alloc K _) _ | exact kp_alloc (kp_alloc (kp_drew K) _) _) hk;replace l0:w.heap.size<w2.heap.size:=cell_lt c0;replace l2:w.heap.size+1<w2.heap.size:=cell_lt c2;replace l4:w.heap.size+1+1<w2.heap.size:=cell_lt c4;replace l6:w.heap.size+1+1+1<w2.heap.size:=cell_lt c6;clear hk))
   have HK:=Lib.hid K
   go_region_held3 (fun w'=>Kp w w'∧w'.cell? ⟨w.heap.size,0,none⟩=some (.int .i64 ax)∧w'.cell? ⟨w.heap.size,1,none⟩=some (.int .i64 ay)∧w'.cell? ⟨w.heap.size+1,0,none⟩=some (.int .i64 bx)∧w'.cell? ⟨w.heap.size+1,1,none⟩=some (.int .i64 bY)∧w'.cell? ⟨w.heap.size+1+1,0,none⟩=some (.int .i64 cx)∧w'.cell? ⟨w.heap.size+1+1,1,none⟩=some (.int .i64 cy)∧w'.cell? ⟨w.heap.size+1+1+1,0,none⟩=some (.int .i64 dx)∧w'.cell? ⟨w.heap.size+1+1+1,1,none⟩=some (.int .i64 dy)) ((first | exact ⟨K,c0,c1,c2,c3,c4,c5,c6,c7⟩ | exact ⟨kp_drew K,c0,c1,c2,c3,c4,c5,c6,c7⟩ | exact ⟨kp_alloc K _,cell_a c0 _,cell_a c1 _,cell_a c2 _,cell_a c3 _,cell_a c4 _,cell_a c5 _,cell_a c6 _,cell_a c7 _⟩ | exact ⟨kp_alloc (kp_drew K) _,cell_a c0 _,cell_a c1 _,cell_a c2 _,cell_a c3 _,cell_a c4 _,cell_a c5 _,cell_a c6 _,cell_a c7 _⟩ | exact ⟨kp_alloc (kp_alloc K _) _,cell_a (cell_a c0 _) _,cell_a (cell_a c1 _) _,cell_a (cell_a c2 _) _,cell_a (cell_a c3 _) _,cell_a (cell_a c4 _) _,cell_a (cell_a c5 _) _,cell_a (cell_a c6 _) _,cell_a (cell_a c7 _) _⟩ | exact ⟨kp_alloc (kp_alloc (kp_drew K) _) _,cell_a (cell_a c0 _) _,cell_a (cell_a c1 _) _,cell_a (cell_a c2 _) _,cell_a (cell_a c3 _) _,cell_a (cell_a c4 _) _,cell_a (cell_a c5 _) _,cell_a (cell_a c6 _) _,cell_a (cell_a c7 _) _⟩))
    (first
     | (go_at_call_of 354 (Value.agg #[Value.int .i64 cx,Value.int .i64 cy]);refine (on_list cx cy dx dy _ 0 2 [(ax,ay),(bx,bY)] _ (by simp) ?_).mono ?_;(focus (clear K;repeat (first | exact ptsAt_two _ _ _ _ _ _ _ (by simp) | refine PtsAt.kp ?_ (by assumption) | refine PtsAt.kp ?_ (kp_alloc (kp_refl _) _) | refine PtsAt.kp ?_ (kp_drew (kp_refl _)))));rintro e w3 ⟨v24,rfl,ho24,hk⟩;have HO24:=Lib.hid ho24;have hk3:=hk;replace c0:w3.cell? ⟨w.heap.size,0,none⟩=some (.int .i64 ax):=kp_cell hk (by first | exact c0 | exact cell_a c0 _ | exact cell_a (cell_a c0 _) _);replace c1:w3.cell? ⟨w.heap.size,1,none⟩=some (.int .i64 ay):=kp_cell hk (by first | exact c1 | exact cell_a c1 _ | exact cell_a (cell_a c1 _) _);replace c2:w3.cell? ⟨w.heap.size+1,0,none⟩=some (.int .i64 bx):=kp_cell hk (by first | exact c2 | exact cell_a c2 _ | exact cell_a (cell_a c2 _) _);replace c3:w3.cell? ⟨w.heap.size+1,1,none⟩=some (.int .i64 bY):=kp_cell hk (by first | exact c3 | exact cell_a c3 _ | exact cell_a (cell_a c3 _) _);replace c4:w3.cell? ⟨w.heap.size+1+1,0,none⟩=some (.int .i64 cx):=kp_cell hk (by first | exact c4 | exact cell_a c4 _ | exact cell_a (cell_a c4 _) _);replace c5:w3.cell? ⟨w.heap.size+1+1,1,none⟩=some (.int .i64 cy):=kp_cell hk (by first | exact c5 | exact cell_a c5 _ | exact cell_a (cell_a c5 _) _);replace c6:w3.cell? ⟨w.heap.size+1+1+1,0,none⟩=some (.int .i64 dx):=kp_cell hk (by first | exact c6 | exact cell_a c6 _ | exact cell_a (cell_a c6 _) _);replace c7:w3.cell? ⟨w.heap.size+1+1+1,1,none⟩=some (.int .i64 dy):=kp_cell hk (by first | exact c7 | exact cell_a c7 _ | exact cell_a (cell_a c7 _) _);replace K:Kp w w3:=kp_trans (by first | exact K | exact kp_drew K | exact kp_alloc K _ | exact kp_alloc (kp_drew K) _ | exact kp_alloc (kp_alloc K _) _ | exact kp_alloc (kp_alloc (kp_drew K) _) _) hk;replace l0:w.heap.size<w3.heap.size:=cell_lt c0;replace l2:w.heap.size+1<w3.heap.size:=cell_lt c2;replace l4:w.heap.size+1+1<w3.heap.size:=cell_lt c4;replace l6:w.heap.size+1+1+1<w3.heap.size:=cell_lt c6;clear hk ho24)
     | (go_at_call_of 353 (Value.slice none 0 0);refine (gather_nil v24 (onL (cx,cy) (dx,dy) [(ax,ay),(bx,bY)]) _ (by have:=L1.out;omega) ?_).mono ?_;(focus (first | exact HO24.out.rd (by have:=L1.out;omega) | exact (HO24.out.kp (kp_alloc (kp_refl _) _)).rd (by have:=L1.out;omega)));rintro e w4 ⟨v25,rfl,ho25,hk⟩;have HO25:=Lib.hid (ho25.mono (B':=w.heap.size+4) (by first | exact l6 | (simp only [World.size_alloc];omega)));have hk4:=hk;replace c0:w4.cell? ⟨w.heap.size,0,none⟩=some (.int .i64 ax):=kp_cell hk (by first | exact c0 | exact cell_a c0 _ | exact cell_a (cell_a c0 _) _);replace c1:w4.cell? ⟨w.heap.size,1,none⟩=some (.int .i64 ay):=kp_cell hk (by first | exact c1 | exact cell_a c1 _ | exact cell_a (cell_a c1 _) _);replace c2:w4.cell? ⟨w.heap.size+1,0,none⟩=some (.int .i64 bx):=kp_cell hk (by first | exact c2 | exact cell_a c2 _ | exact cell_a (cell_a c2 _) _);replace c3:w4.cell? ⟨w.heap.size+1,1,none⟩=some (.int .i64 bY):=kp_cell hk (by first | exact c3 | exact cell_a c3 _ | exact cell_a (cell_a c3 _) _);replace c4:w4.cell? ⟨w.heap.size+1+1,0,none⟩=some (.int .i64 cx):=kp_cell hk (by first | exact c4 | exact cell_a c4 _ | exact cell_a (cell_a c4 _) _);replace c5:w4.cell? ⟨w.heap.size+1+1,1,none⟩=some (.int .i64 cy):=kp_cell hk (by first | exact c5 | exact cell_a c5 _ | exact cell_a (cell_a c5 _) _);replace c6:w4.cell? ⟨w.heap.size+1+1+1,0,none⟩=some (.int .i64 dx):=kp_cell hk (by first | exact c6 | exact cell_a c6 _ | exact cell_a (cell_a c6 _) _);replace c7:w4.cell? ⟨w.heap.size+1+1+1,1,none⟩=some (.int .i64 dy):=kp_cell hk (by first | exact c7 | exact cell_a c7 _ | exact cell_a (cell_a c7 _) _);replace K:Kp w w4:=kp_trans (by first | exact K | exact kp_drew K | exact kp_alloc K _ | exact kp_alloc (kp_drew K) _ | exact kp_alloc (kp_alloc K _) _ | exact kp_alloc (kp_alloc (kp_drew K) _) _) hk;replace l0:w.heap.size<w4.heap.size:=cell_lt c0;replace l2:w.heap.size+1<w4.heap.size:=cell_lt c2;replace l4:w.heap.size+1+1<w4.heap.size:=cell_lt c4;replace l6:w.heap.size+1+1+1<w4.heap.size:=cell_lt c6;clear hk ho25)
     | (go_at_call_of 354 (Value.agg #[Value.int .i64 ax,Value.int .i64 ay]);refine (on_list ax ay bx bY _ 0 2 [(cx,cy),(dx,dy)] _ (by simp) ?_).mono ?_;(focus (clear K;repeat (first | exact ptsAt_two _ _ _ _ _ _ _ (by simp) | refine PtsAt.kp ?_ (by assumption) | refine PtsAt.kp ?_ (kp_alloc (kp_refl _) _) | refine PtsAt.kp ?_ (kp_drew (kp_refl _)))));rintro e w5 ⟨v31,rfl,ho31,hk⟩;have HO31:=Lib.hid ho31;have hk5:=hk;have HO255:=Lib.hid (show OwnP w5 (w.heap.size+4) v25 _ from (by first | exact HO25.out.kp hk | exact (HO25.out.kp (kp_alloc (kp_refl _) _)).kp hk));have HNE:Hid (∀ b,v31.ownBlock=some b→some b≠v25.ownBlock):=Lib.hid (by intro b hb e;have h1:=(World.ownsRow.lt ho31 b hb).1;have h2:=(World.ownsRow.lt HO25.out b e.symm).2;(try simp only [World.size_alloc] at h1);omega);replace c0:w5.cell? ⟨w.heap.size,0,none⟩=some (.int .i64 ax):=kp_cell hk (by first | exact c0 | exact cell_a c0 _ | exact cell_a (cell_a c0 _) _);replace c1:w5.cell? ⟨w.heap.size,1,none⟩=some (.int .i64 ay):=kp_cell hk (by first | exact c1 | exact cell_a c1 _ | exact cell_a (cell_a c1 _) _);replace c2:w5.cell? ⟨w.heap.size+1,0,none⟩=some (.int .i64 bx):=kp_cell hk (by first | exact c2 | exact cell_a c2 _ | exact cell_a (cell_a c2 _) _);replace c3:w5.cell? ⟨w.heap.size+1,1,none⟩=some (.int .i64 bY):=kp_cell hk (by first | exact c3 | exact cell_a c3 _ | exact cell_a (cell_a c3 _) _);replace c4:w5.cell? ⟨w.heap.size+1+1,0,none⟩=some (.int .i64 cx):=kp_cell hk (by first | exact c4 | exact cell_a c4 _ | exact cell_a (cell_a c4 _) _);replace c5:w5.cell? ⟨w.heap.size+1+1,1,none⟩=some (.int .i64 cy):=kp_cell hk (by first | exact c5 | exact cell_a c5 _ | exact cell_a (cell_a c5 _) _);replace c6:w5.cell? ⟨w.heap.size+1+1+1,0,none⟩=some (.int .i64 dx):=kp_cell hk (by first | exact c6 | exact cell_a c6 _ | exact cell_a (cell_a c6 _) _);replace c7:w5.cell? ⟨w.heap.size+1+1+1,1,none⟩=some (.int .i64 dy):=kp_cell hk (by first | exact c7 | exact cell_a c7 _ | exact cell_a (cell_a c7 _) _);replace K:Kp w w5:=kp_trans (by first | exact K | exact kp_drew K | exact kp_alloc K _ | exact kp_alloc (kp_drew K) _ | exact kp_alloc (kp_alloc K _) _ | exact kp_alloc (kp_alloc (kp_drew K) _) _) hk;replace l0:w.heap.size<w5.heap.size:=cell_lt c0;replace l2:w.heap.size+1<w5.heap.size:=cell_lt c2;replace l4:w.heap.size+1+1<w5.heap.size:=cell_lt c4;replace l6:w.heap.size+1+1+1<w5.heap.size:=cell_lt c6;clear hk ho31)
     | (go_at_call_of 353 v25;refine (gather_rd (w.heap.size+4) v25 v31 _ (onL (ax,ay) (bx,bY) [(cx,cy),(dx,dy)]) _ ?_ HO255.out ?_ ?_ ?_ HNE.out).mono ?_;(focus exact l6);(focus (have:=L3.out;omega));(focus (have:=L2.out;omega));(focus exact HO31.out.rd (by have:=L2.out;omega));rintro e w6 ⟨v32,rfl,ho32,hg,_⟩;have HB6:Below (w.heap.size+4) w5 w6:=Below.grown (Below.refl _ _) hg l6 (fun k hk=>(World.ownsRow.lt HO255.out k hk).1);have HO32:=Lib.hid ho32;replace c0:w6.cell? ⟨w.heap.size,0,none⟩=some (.int .i64 ax):=(Below.cell (p:=⟨w.heap.size,0,none⟩) HB6 (by simp only;omega)).trans c0;replace c1:w6.cell? ⟨w.heap.size,1,none⟩=some (.int .i64 ay):=(Below.cell (p:=⟨w.heap.size,1,none⟩) HB6 (by simp only;omega)).trans c1;replace c2:w6.cell? ⟨w.heap.size+1,0,none⟩=some (.int .i64 bx):=(Below.cell (p:=⟨w.heap.size+1,0,none⟩) HB6 (by simp only;omega)).trans c2;replace c3:w6.cell? ⟨w.heap.size+1,1,none⟩=some (.int .i64 bY):=(Below.cell (p:=⟨w.heap.size+1,1,none⟩) HB6 (by simp only;omega)).trans c3;replace c4:w6.cell? ⟨w.heap.size+1+1,0,none⟩=some (.int .i64 cx):=(Below.cell (p:=⟨w.heap.size+1+1,0,none⟩) HB6 (by simp only;omega)).trans c4;replace c5:w6.cell? ⟨w.heap.size+1+1,1,none⟩=some (.int .i64 cy):=(Below.cell (p:=⟨w.heap.size+1+1,1,none⟩) HB6 (by simp only;omega)).trans c5;replace c6:w6.cell? ⟨w.heap.size+1+1+1,0,none⟩=some (.int .i64 dx):=(Below.cell (p:=⟨w.heap.size+1+1+1,0,none⟩) HB6 (by simp only;omega)).trans c6;replace c7:w6.cell? ⟨w.heap.size+1+1+1,1,none⟩=some (.int .i64 dy):=(Below.cell (p:=⟨w.heap.size+1+1+1,1,none⟩) HB6 (by simp only;omega)).trans c7;replace K:Kp w w6:=Below.trans K (Below.mono HB6 (Nat.le_add_right _ 4));clear ho32 hg))
   all_goals
    go_wp2_with fail
    go_ret
    exact ⟨v32,rfl,by rw [H.out];exact HO32.out.mono (Nat.le_add_right _ 4),K⟩
end Go.Proofs.YtgliljnbajohhaaGreatDoor
namespace Go.Proofs.Geo
theorem mul_neg_iff {x y:Int}:x * y<0↔(x<0∧0<y)∨(0<x∧y<0):=by
 rcases Int.lt_trichotomy x 0 with h | h | h <;> rcases Int.lt_trichotomy y 0 with k | k | k
 ·have:=Int.mul_pos_of_neg_of_neg h k;omega
 ·subst k;simp
 ·have:=Int.mul_neg_of_neg_of_pos h k;omega
 ·subst h;simp
 ·subst h;simp
 ·subst h;simp
 ·have:=Int.mul_neg_of_pos_of_neg h k;omega
 ·subst k;simp
 ·have:=Int.mul_pos h k;omega
theorem sign_mul_neg {x y:Int}:x.sign * y.sign<0↔(x<0∧0<y)∨(0<x∧y<0):=by
 rw [← Int.sign_mul,← mul_neg_iff]
 constructor
 ·intro h
  rcases Int.lt_trichotomy (x * y) 0 with k | k | k
  ·exact k
  ·rw [k] at h;simp at h
  ·rw [Int.sign_eq_one_of_pos k] at h;omega
 ·intro h;rw [Int.sign_eq_neg_one_of_neg h];decide
def Crs (a b c d:Pt):Prop:=((det a b c<0∧0<det a b d)∨(0<det a b c∧det a b d<0))∧((det c d a<0∧0<det c d b)∨(0<det c d a∧det c d b<0))
theorem crossB_iff {a b c d:Pt} (h1:may a b=true) (h2:may c d=true):crossB a b c d=true↔Crs a b c d:=by
 obtain ⟨ha,hb,_⟩:=may_iff.1 h1
 obtain ⟨hc,hd,_⟩:=may_iff.1 h2
 unfold crossB Crs
 rw [Bool.and_eq_true,decide_eq_true_eq,decide_eq_true_eq,turn_ok ha hb hc,turn_ok ha hb hd,turn_ok hc hd ha,turn_ok hc hd hb,sign_mul_neg,sign_mul_neg]
def Mt (a b c d:Pt):Prop:=onS a c d=true∨onS b c d=true∨onS c a b=true∨onS d a b=true∨Crs a b c d
theorem ends_nil {a b c d:Pt} (h1:may a b=true) (h2:may c d=true):(ends a b c d).length=0↔¬ (onS a c d=true∨onS b c d=true∨onS c a b=true∨onS d a b=true):=by
 have k1:=may_iff.1 h1
 have k2:=may_iff.1 h2
 have e1:=onS_left k1.1 k1.2.1
 have e2:=onS_right k1.1 k1.2.1
 have e3:=onS_left k2.1 k2.2.1
 have e4:=onS_right k2.1 k2.2.1
 rw [List.length_eq_zero_iff,List.eq_nil_iff_forall_not_mem]
 constructor
 ·intro h hh
  rcases hh with hh | hh | hh | hh
  ·exact h a ((mem_ends h1 h2).2 ⟨.inl rfl,e1,hh⟩)
  ·exact h b ((mem_ends h1 h2).2 ⟨.inr (.inl rfl),e2,hh⟩)
  ·exact h c ((mem_ends h1 h2).2 ⟨.inr (.inr (.inl rfl)),hh,e3⟩)
  ·exact h d ((mem_ends h1 h2).2 ⟨.inr (.inr (.inr rfl)),hh,e4⟩)
 ·intro h x hx
  obtain ⟨hh,j,k⟩:=(mem_ends h1 h2).1 hx
  apply h
  rcases hh with rfl | rfl | rfl | rfl
  ·exact .inl k
  ·exact .inr (.inl k)
  ·exact .inr (.inr (.inl j))
  ·exact .inr (.inr (.inr j))
theorem meets_ne {a b c d:Pt} (h1:may a b=true) (h2:may c d=true):meets a b c d≠0↔Mt a b c d:=by
 have hn:=ends_nil h1 h2
 have hc:=crossB_iff h1 h2
 unfold meets Mt
 rw [if_pos (by rw [h1,h2];rfl)]
 by_cases h:(ends a b c d).length=0
 ·rw [if_pos h]
  have hn':=hn.1 h
  by_cases hx:crossB a b c d=true
  ·rw [if_pos hx];exact ⟨fun _=>.inr (.inr (.inr (.inr (hc.1 hx)))),fun _=>by decide⟩
  ·rw [if_neg hx]
   constructor
   ·intro k;exact absurd rfl k
   ·rintro (k | k | k | k | k)
    ·exact absurd (.inl k) hn'
    ·exact absurd (.inr (.inl k)) hn'
    ·exact absurd (.inr (.inr (.inl k))) hn'
    ·exact absurd (.inr (.inr (.inr k))) hn'
    ·exact absurd (hc.2 k) hx
 ·rw [if_neg h]
  have hn':onS a c d=true∨onS b c d=true∨onS c a b=true∨onS d a b=true:=by
   rcases Classical.em (onS a c d=true∨onS b c d=true∨onS c a b=true∨onS d a b=true) with k | k
   ·exact k
   ·exact absurd (hn.2 k) h
  constructor
  ·intro _
   rcases hn' with k | k | k | k
   ·exact .inl k
   ·exact .inr (.inl k)
   ·exact .inr (.inr (.inl k))
   ·exact .inr (.inr (.inr (.inl k)))
  ·intro _;split <;> decide
theorem Mt_swap {a b c d:Pt}:Mt c d a b↔Mt a b c d:=by
 unfold Mt Crs;constructor
 ·rintro (k | k | k | k | k)
  ·exact .inr (.inr (.inl k))
  ·exact .inr (.inr (.inr (.inl k)))
  ·exact .inl k
  ·exact .inr (.inl k)
  ·exact .inr (.inr (.inr (.inr ⟨k.2,k.1⟩)))
 ·rintro (k | k | k | k | k)
  ·exact .inr (.inr (.inl k))
  ·exact .inr (.inr (.inr (.inl k)))
  ·exact .inl k
  ·exact .inr (.inl k)
  ·exact .inr (.inr (.inr (.inr ⟨k.2,k.1⟩)))
theorem cross_overlap {F x y z w a b c d:Int} (hx:x<0) (hy:0<y) (hF:F=y - x) (hG:(z<0∧0<w∧F=w - z)∨(0<z∧w<0∧F=z - w))
  (h:y * a - x * b=(if z<0 then w * c - z * d else z * d - w * c)):¬ (a<c∧a<d∧b<c∧b<d):=by
 rintro ⟨k1,k2,k3,k4⟩
 rcases hG with ⟨hz,hw,hG⟩ | ⟨hz,hw,hG⟩
 ·rw [if_pos hz] at h
  have A:∃ m,a≤m∧b≤m∧m<c∧m<d:=⟨max a b,by omega,by omega,by omega,by omega⟩
  obtain ⟨m,m1,m2,m3,m4⟩:=A
  have p1:y * a≤y * m:=Int.mul_le_mul_of_nonneg_left m1 (by omega)
  have p2:(-x) * b≤(-x) * m:=Int.mul_le_mul_of_nonneg_left m2 (by omega)
  have p3:w * m<w * c:=Int.mul_lt_mul_of_pos_left m3 hw
  have p4:(-z) * m<(-z) * d:=Int.mul_lt_mul_of_pos_left m4 (by omega)
  have e:(y - x) * m=(w - z) * m:=by rw [← hF,hG]
  rw [Int.sub_mul,Int.sub_mul] at e
  rw [Int.neg_mul,Int.neg_mul] at p2 p4
  omega
 ·rw [if_neg (by omega)] at h
  have A:∃ m,a≤m∧b≤m∧m<c∧m<d:=⟨max a b,by omega,by omega,by omega,by omega⟩
  obtain ⟨m,m1,m2,m3,m4⟩:=A
  have p1:y * a≤y * m:=Int.mul_le_mul_of_nonneg_left m1 (by omega)
  have p2:(-x) * b≤(-x) * m:=Int.mul_le_mul_of_nonneg_left m2 (by omega)
  have p3:(-w) * m<(-w) * c:=Int.mul_lt_mul_of_pos_left m3 (by omega)
  have p4:z * m<z * d:=Int.mul_lt_mul_of_pos_left m4 hz
  have e:(y - x) * m=(z - w) * m:=by rw [← hF,hG]
  rw [Int.sub_mul,Int.sub_mul] at e
  rw [Int.neg_mul,Int.neg_mul] at p2 p3
  omega
theorem not_Mt_of_left {a b c d:Pt} (k:a.1<c.1∧a.1<d.1∧b.1<c.1∧b.1<d.1):¬ Mt a b c d:=by
 obtain ⟨k1,k2,k3,k4⟩:=k
 rintro (h | h | h | h | h)
 ·have:=btw_iff.1 (onS_iff.1 h).2.2.2.1;omega
 ·have:=btw_iff.1 (onS_iff.1 h).2.2.2.1;omega
 ·have:=btw_iff.1 (onS_iff.1 h).2.2.2.1;omega
 ·have:=btw_iff.1 (onS_iff.1 h).2.2.2.1;omega
 ·have id1:det c d b * a.1 - det c d a * b.1=det a b c * d.1 - det a b d * c.1:=by unfold det;grind
  have id2:det c d b - det c d a=det a b c - det a b d:=by unfold det;grind
  obtain ⟨hg,hf⟩:=h
  rcases hf with ⟨f1,f2⟩ | ⟨f1,f2⟩
  ·refine cross_overlap (F:=det c d b - det c d a) (x:=det c d a) (y:=det c d b) (z:=det a b d) (w:=det a b c) (a:=a.1) (b:=b.1) (c:=d.1) (d:=c.1) f1 f2 rfl ?_ ?_ ⟨k2,k1,k4,k3⟩
   ·rcases hg with ⟨g1,g2⟩ | ⟨g1,g2⟩
    ·exfalso;omega
    ·left;exact ⟨g2,g1,id2⟩
   ·rcases hg with ⟨g1,g2⟩ | ⟨g1,g2⟩
    ·exfalso;omega
    ·rw [if_pos g2];exact id1
  ·refine cross_overlap (F:=det c d a - det c d b) (x:=det c d b) (y:=det c d a) (z:=det a b c) (w:=det a b d) (a:=b.1) (b:=a.1) (c:=c.1) (d:=d.1) f2 f1 rfl ?_ ?_ ⟨k3,k4,k1,k2⟩
   ·rcases hg with ⟨g1,g2⟩ | ⟨g1,g2⟩
    ·left;exact ⟨g1,g2,by omega⟩
    ·exfalso;omega
   ·rcases hg with ⟨g1,g2⟩ | ⟨g1,g2⟩
    ·rw [if_pos g1];omega
    ·exfalso;omega
end Go.Proofs.Geo
namespace Go.Proofs.Geo
def tr (p:Pt):Pt:=(p.2,p.1)
theorem okP_tr (p:Pt):okP (tr p)=okP p:=by simp only [okP,tr];rw [Bool.and_comm]
theorem det_tr (a b c:Pt):det (tr a) (tr b) (tr c) = - det a b c:=by unfold det tr;grind
theorem onS_tr (p a b:Pt):onS (tr p) (tr a) (tr b)=onS p a b:=by
 rw [Bool.eq_iff_iff,onS_iff,onS_iff,okP_tr,okP_tr,okP_tr,det_tr]
 constructor
 ·rintro ⟨h1,h2,h3,h4,h5,h6⟩;exact ⟨h1,h2,h3,h5,h4,by omega⟩
 ·rintro ⟨h1,h2,h3,h4,h5,h6⟩;exact ⟨h1,h2,h3,h5,h4,by omega⟩
theorem Mt_tr {a b c d:Pt}:Mt (tr a) (tr b) (tr c) (tr d)↔Mt a b c d:=by
 unfold Mt Crs
 rw [onS_tr,onS_tr,onS_tr,onS_tr,det_tr,det_tr,det_tr,det_tr]
 constructor <;> rintro (h | h | h | h | h) <;> first | exact .inl h | exact .inr (.inl h) | exact .inr (.inr (.inl h)) | exact .inr (.inr (.inr (.inl h))) | exact .inr (.inr (.inr (.inr (by omega))))
theorem apart_one {a b c d:Int} (h:¬ max (min a b) (min c d)≤min (max a b) (max c d)):(a<c∧a<d∧b<c∧b<d)∨(c<a∧c<b∧d<a∧d<b):=by
 have h1:¬ (min a b≤max c d∧min c d≤max a b):=by
  intro ⟨k1,k2⟩;apply h
  rw [Int.max_le,Int.le_min,Int.le_min]
  exact ⟨⟨by omega,k1⟩,k2,by omega⟩
 by_cases k1:min a b≤max c d
 ·left
  have k2:¬ min c d≤max a b:=fun k=>h1 ⟨k1,k⟩
  omega
 ·right;omega
theorem not_Mt_of_boxes {a b c d:Pt} (h:¬ (max (min a.1 b.1) (min c.1 d.1)≤min (max a.1 b.1) (max c.1 d.1)∧max (min a.2 b.2) (min c.2 d.2)≤min (max a.2 b.2) (max c.2 d.2))):¬ Mt a b c d:=by
 have h':(a.1<c.1∧a.1<d.1∧b.1<c.1∧b.1<d.1)∨(c.1<a.1∧c.1<b.1∧d.1<a.1∧d.1<b.1)∨(a.2<c.2∧a.2<d.2∧b.2<c.2∧b.2<d.2)∨(c.2<a.2∧c.2<b.2∧d.2<a.2∧d.2<b.2):=by
  rw [Classical.not_and_iff_not_or_not] at h
  rcases h with h | h
  ·rcases apart_one h with k | k
   ·exact .inl k
   ·exact .inr (.inl k)
  ·rcases apart_one h with k | k
   ·exact .inr (.inr (.inl k))
   ·exact .inr (.inr (.inr k))
 rcases h' with k | k | k | k
 ·exact not_Mt_of_left k
 ·rw [← Mt_swap];exact not_Mt_of_left k
 ·rw [← Mt_tr];exact not_Mt_of_left k
 ·rw [← Mt_swap,← Mt_tr];exact not_Mt_of_left k
theorem meets_of_len {a b c d:Pt} (h1:may a b=true) (h2:may c d=true) (n:Nat) (h:(ends a b c d).length=n):meets a b c d=if n=0 then (if crossB a b c d then 2 else 0) else if n=1 then 1 else 3:=by
 subst h;unfold meets;rw [if_pos (by rw [h1,h2];rfl)]
end Go.Proofs.Geo
