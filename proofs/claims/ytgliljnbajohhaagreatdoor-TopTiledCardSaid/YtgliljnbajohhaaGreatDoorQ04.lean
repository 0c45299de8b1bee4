import Derived.Test.YtgliljnbajohhaaGreatDoorQ02
import Derived.Test.YtgliljnbajohhaaGreatDoorQ00
import Derived.RegionTactic
import Derived.WalkSmall
import Derived.Maps.AppendAt
import Derived.Laws.OwnMore
set_option linter.unusedVariables false
set_option linter.unusedSimpArgs false
namespace Go.Proofs.YtgliljnbajohhaaGreatDoor
open Go.RowKit Go.Proofs.Geo
def IdxEnd (p:Pt) (l:List Pt) (w:World) (e:Ending) (w':World):Prop:=∃ r:Int,(0≤r↔p∈l)∧e=.returned (.int .i64 r)∧Kp w w'
theorem take_notmem {p:Pt} {l:List Pt} {k:Nat} (h:k<l.length) (hn:p∉l.take k) (hk:p≠l[k]):p∉l.take (k+1):=by
 rw [List.take_succ_eq_append_getElem h,List.mem_append,List.mem_singleton];rintro (h1 | h1)
 ·exact hn h1
 ·exact hk h1
set_option maxHeartbeats 2000000 in
theorem index_any (b off cap:Nat) (l:List Pt) (px py:Int) (w:World) (hl:l.length≤10000000000000) (h:PtsAt w b off l) :
  Calls Tryz.prog 428 #[.slice (some ⟨b,off,none⟩) l.length cap,pv px py] w (IdxEnd (px,py) l w):=by
 go_enter Tryz.func428,Tryz.ntmps428
 go_wp2
 have h':PtsAt (w.alloc (.cells #[.int .i64 px,.int .i64 py] 53)) b off l:=h.kp (kp_alloc (kp_refl w) _)
 have hp0:(w.alloc (.cells #[.int .i64 px,.int .i64 py] 53)).cell? ⟨w.heap.size,0,none⟩=some (.int .i64 px):=by simp [go_sem]
 have hp1:(w.alloc (.cells #[.int .i64 px,.int .i64 py] 53)).cell? ⟨w.heap.size,1,none⟩=some (.int .i64 py):=by simp [go_sem]
 have K0:Kp w (w.alloc (.cells #[.int .i64 px,.int .i64 py] 53)):=kp_alloc (kp_refl w) _
 go_loopw [8] (fun i wr=>∃ k:Nat,k≤l.length∧i=.int .i64 k∧(px,py)∉l.take k∧Kp (w.alloc (.cells #[.int .i64 px,.int .i64 py] 53)) wr) (fun i _=>l.length - (intOf i).toNat)
 case atStart=>exact ⟨0,Nat.zero_le _,rfl,by simp,kp_refl _⟩
 case round =>
  obtain ⟨k,hk,rfl,hn,hkp⟩:=hrel
  by_cases hlt:k<l.length
  ·obtain ⟨x,y,hxy⟩:∃ x y,l[k]=(x,y):=⟨_,_,rfl⟩
   have hc:=(h'.kp hkp) k hlt
   rw [hxy] at hc
   obtain ⟨hc1,hc2⟩:=hc
   have p0:=kp_cell hkp hp0
   have p1:=kp_cell hkp hp1
   have hs:=take_notmem hlt hn
   have hb:(px,py)=(x,y)→(px,py)∈l:=fun e=>by rw [e,← hxy];exact List.getElem_mem hlt
   rw [hxy] at hs
   have hs':=Lib.hid hs
   have hb':=Lib.hid hb
   have hh3:=Lib.hid (kp_trans K0 hkp)
   have hh5:=Lib.hid hkp
   clear hxy hn hkp h h' hp0 hp1 K0 hs hb
   by_cases ex:px=x
   ·subst ex
    by_cases ey:py=y
    ·subst ey
     have hb2:=Lib.hid (hb'.out rfl)
     clear hb'
     go_wp2
     go_quiet (fail)
     go_wp2
     go_ret
     exact ⟨_,⟨fun _=>hb2.out,fun _=>by omega⟩,rfl,kp_drewN hh3.out _⟩
    ·have ey':(py == y)=false:=by simp [ey]
     have ey2:=Lib.hid ey
     clear ey
     go_wp2
     go_quiet (fail)
     go_wp2
     go_roundw
     case rel=>exact ⟨k+1,by omega,by go_num,hs'.out (by simp [ey2.out]),kp_drewN hh5.out _⟩
     case measure=>simp [intOf];omega
   ·have ex':(px == x)=false:=by simp [ex]
    have ex2:=Lib.hid ex
    clear ex
    go_wp2
    go_quiet (fail)
    go_wp2
    go_roundw
    case rel=>exact ⟨k+1,by omega,by go_num,hs'.out (by simp [ex2.out]),kp_drewN hh5.out _⟩
    case measure=>simp [intOf];omega
  ·have hke:k=l.length:=by omega
   have hn':(px,py)∉l:=by rw [hke,List.take_length] at hn;exact hn
   have hh2:=Lib.hid hn'
   have hh3:=Lib.hid (kp_trans K0 hkp)
   clear hn hkp hke hn' h h' hp0 hp1 K0
   go_wp2
   go_ret
   exact ⟨-1,⟨fun q=>absurd q (by omega),fun q=>absurd q hh2.out⟩,rfl,hh3.out⟩
set_option maxHeartbeats 2000000 in
theorem index_nil (px py:Int) (w:World):Calls Tryz.prog 428 #[.slice none 0 0,pv px py] w (IdxEnd (px,py) [] w):=by
 go_enter Tryz.func428,Tryz.ntmps428
 go_wp2
 go_loop [8] (fun i=>i=.int .i64 0) (fun _=>0)
 case atStart=>rfl
 case round =>
  subst hrel
  go_wp2
  go_ret
  exact ⟨-1,⟨fun q=>absurd q (by omega),fun q=>absurd q (by simp)⟩,rfl,kp_alloc (kp_refl w) _⟩
theorem index_rd (v:Value) (l:List Pt) (px py:Int) (w:World) (h:Rd w v l) :
  Calls Tryz.prog 428 #[v,pv px py] w (IdxEnd (px,py) l w):=by
 obtain ⟨hl,⟨rfl,rfl⟩ | ⟨b,off,cap,rfl,h⟩⟩:=h
 ·exact index_nil px py w
 ·exact index_any b off cap l px py w hl h
theorem contains_rd (v:Value) (l:List Pt) (px py:Int) (w:World) (h:Rd w v l) :
  Calls Tryz.prog 401 #[v,pv px py] w fun e w'=>e=.returned (.bool (decide ((px,py)∈l)))∧Kp w w':=by
 have H:=fun W (k:Kp w W)=>index_rd v l px py W (h.kp k)
 have H':=Lib.hid H
 clear H h
 go_enter Tryz.func401,Tryz.ntmps401
 go_wp2_with (go_at_call 428;refine (H'.out _ (kp_alloc (kp_refl _) _)).mono ?_;rintro e w' ⟨r,hr,rfl,hk⟩;have hr':=Lib.hid hr;clear hr)
 all_goals
  go_ret
  exact ⟨ret_bool (by have:=hr'.out;rw [← decide_eq_decide.2 this]),kp_trans (kp_alloc (kp_refl _) _) hk⟩
theorem onL_take (a b:Pt) (l:List Pt) (k:Nat) (h:k<l.length):onL a b (l.take (k+1))=if onS l[k] a b then onL a b (l.take k)++[l[k]] else onL a b (l.take k):=by
 unfold onL
 rw [List.take_succ_eq_append_getElem h,List.filter_append]
 cases hh:onS l[k] a b <;> simp [List.filter,hh]
theorem onL_len (a b:Pt) (l:List Pt):(onL a b l).length≤l.length:=List.length_filter_le _ _
set_option maxHeartbeats 4000000 in
set_option maxRecDepth 100000 in
theorem on_list (ax ay bx bY:Int) (b off cap:Nat) (l:List Pt) (w:World) (hl:l.length≤1000000) (h:PtsAt w b off l) :
  Calls Tryz.prog 354 #[pv ax ay,pv bx bY,.slice (some ⟨b,off,none⟩) l.length cap] w (OwnEnd w (onL (ax,ay) (bx,bY) l)):=by
 obtain ⟨i0,hi,hz0,hz1,hz2⟩:=info_parts infoPt
 have HI:=Lib.hid hi
 have HZ0:=Lib.hid hz0
 have HZ1:=Lib.hid hz1
 have HZ2:=Lib.hid hz2
 clear hi hz0 hz1 hz2
 go_enter Tryz.func354,Tryz.ntmps354
 go_wp2
 obtain ⟨W0,hW0⟩:∃ W0,(w.alloc (.cells #[.int .i64 ax,.int .i64 ay] 53)).alloc (.cells #[.int .i64 bx,.int .i64 bY] 53)=W0:=⟨_,rfl⟩
 have c0:W0.cell? ⟨w.heap.size,0,none⟩=some (.int .i64 ax):=by rw [← hW0];simp [go_sem]
 have c1:W0.cell? ⟨w.heap.size,1,none⟩=some (.int .i64 ay):=by rw [← hW0];simp [go_sem]
 have c2:W0.cell? ⟨w.heap.size+1,0,none⟩=some (.int .i64 bx):=by rw [← hW0];simp [go_sem]
 have c3:W0.cell? ⟨w.heap.size+1,1,none⟩=some (.int .i64 bY):=by rw [← hW0];simp [go_sem]
 have K0:Kp w W0:=by rw [← hW0];exact kp_alloc (kp_alloc (kp_refl _) _) _
 rw [hW0]
 clear hW0
 have h':PtsAt W0 b off l:=h.kp K0
 go_loopw [7,12] (fun v i wr=>∃ k:Nat,k≤l.length∧i=.int .i64 k∧OwnP wr W0.heap.size v (onL (ax,ay) (bx,bY) (l.take k))∧Kp W0 wr) (fun _ i _=>l.length - (intOf i).toNat)
 case atStart=>exact ⟨0,Nat.zero_le _,rfl,OwnP.nil _ _,kp_refl _⟩
 case round =>
  obtain ⟨k,hk,rfl,ho,hkp⟩:=hrel
  by_cases hlt:k<l.length
  ·obtain ⟨x,y,hxy⟩:∃ x y,l[k]=(x,y):=⟨_,_,rfl⟩
   have hc:=(h'.kp hkp) k hlt
   rw [hxy] at hc
   obtain ⟨hc1,hc2⟩:=hc
   have d0:=kp_cell hkp c0
   have d1:=kp_cell hkp c1
   have d2:=kp_cell hkp c2
   have d3:=kp_cell hkp c3
   have l0:w.heap.size<wr.heap.size:=cell_lt d0
   have l1:w.heap.size+1<wr.heap.size:=cell_lt d2
   have hs:=onL_take (ax,ay) (bx,bY) l k hlt
   rw [hxy] at hs
   have hn:(onL (ax,ay) (bx,bY) (l.take k)).length≤k:=Nat.le_trans (onL_len _ _ _) (List.length_take_le _ _)
   have HS:=Lib.hid hs
   have HO:=Lib.hid ho
   have HK:=Lib.hid hkp
   have HN:=Lib.hid hn
   clear hxy hs ho hkp hn h h' c0 c1 c2 c3
   cases hv:onS (x,y) (ax,ay) (bx,bY)
   ·have HV:=Lib.hid hv
    go_wp2_with (go_at_call 285;refine (on_any _ _ _ _ _ _ _).mono ?_;rintro e w2 ⟨rfl,hk2⟩;have HK2:=Lib.hid hk2;clear hk2)
    go_roundw
    case rel=>exact ⟨k+1,by omega,by go_num,by rw [HS.out,HV.out];exact (HO.out.kp (kp_alloc (kp_refl _) _)).kp HK2.out,kp_trans (kp_alloc HK.out _) HK2.out⟩
    case measure=>simp [intOf];omega
   ·have HV:=Lib.hid hv
    go_wp2_with (first
     | (go_at_call 285;refine (on_any _ _ _ _ _ _ _).mono ?_;rintro e w2 ⟨rfl,hk2⟩;have p0:w2.cell? ⟨wr.heap.size,0,none⟩=some (.int .i64 x):=kp_cell hk2 (by simp [go_sem]);have p1:w2.cell? ⟨wr.heap.size,1,none⟩=some (.int .i64 y):=kp_cell hk2 (by simp [go_sem]);have HK2:=Lib.hid hk2;clear hk2;have HO2:=Lib.hid ((HO.out.kp (kp_alloc (kp_refl _) _)).kp HK2.out);have HB:=Lib.hid (kp_trans (kp_alloc HK.out _) HK2.out))
     | (at_builtin;refine wpList_append_own_at _ rfl _ _ 71 rfl W0.heap.size 53 i0 (.agg #[.int .i64 0,.int .i64 0]) 2 16 Tryz.underlying71 HI.out HZ0.out HZ1.out HZ2.out rfl (by decide) _ _ _ rfl (HO2.out.kp (kp_alloc (kp_refl _) _)) ⟨w2.heap.size,0,none⟩ 1 1 [.int .i64 x,.int .i64 y] rfl rfl (cell_two_pt _ _ _ _) (by simp [Value.oneCell']) (by have:=HN.out;unfold maxLen;omega) (by have:=HN.out;omega) (Below.size (kp_alloc HB.out _)) ?_;intro v' w3 hown hgrow hnil hat;have HO3:=Lib.hid (OwnP.snoc hown);have HK3:=Lib.hid (kp_of_grown (kp_alloc HB.out _) hgrow (HO2.out.kp (kp_alloc (kp_refl _) _)));clear hown hgrow hnil hat))
    go_roundw
    case rel=>exact ⟨k+1,by omega,by go_num,by rw [HS.out,HV.out];exact HO3.out,HK3.out⟩
    case measure=>simp [intOf];omega
  ·have hke:k=l.length:=by omega
   have HO:=Lib.hid (show OwnP wr W0.heap.size _ (onL (ax,ay) (bx,bY) l) by rw [hke,List.take_length] at ho;exact ho)
   have HK:=Lib.hid hkp
   clear ho hkp h h' hke c0 c1 c2 c3
   go_wp2
   go_ret
   exact ⟨_,rfl,HO.out.mono (Below.size K0),kp_trans K0 HK.out⟩
theorem gather_append (l m out:List Pt):gather out (l++m)=gather (gather out l) m:=by
 induction l generalizing out with
 | nil=>rfl
 | cons p l ih=>simp only [List.cons_append,gather];exact ih _
theorem gather_take (out l:List Pt) (k:Nat) (h:k<l.length):gather out (l.take (k+1))=if l[k]∈gather out (l.take k) then gather out (l.take k) else gather out (l.take k)++[l[k]]:=by
 rw [List.take_succ_eq_append_getElem h,gather_append];rfl
theorem gather_len (out l:List Pt):(gather out l).length≤out.length+l.length:=by
 induction l generalizing out with
 | nil=>simp [gather]
 | cons p l ih =>
  simp only [gather]
  split
  ·have:=ih out;simp only [List.length_cons];omega
  ·have:=ih (out++[p]);simp only [List.length_cons,List.length_append,List.length_nil] at this ⊢;omega
theorem grown_comb {w a b:World} {r r':Option Nat} (h:w.grownBy a r) (k:a.grownBy b r') (hr:r'=r∨∃ g,r'=some g∧w.heap.size≤g):w.grownBy b r:=by
 refine ⟨k.os.trans h.os,k.tape.trans h.tape,k.output.trans h.output,Nat.le_trans h.size k.size,fun j hj hne=>?_⟩
 refine (k.block j (Nat.lt_of_lt_of_le hj h.size) ?_).trans (h.block j hj hne)
 rcases hr with rfl | ⟨g,rfl,hg⟩
 ·exact hne
 ·intro e;cases e;omega
theorem grown_kp {w a b:World} {r:Option Nat} (h:w.grownBy a r) (k:Kp a b):w.grownBy b r:=grown_comb h (grown_of_kp k r) (.inl rfl)
theorem grown_refl (w:World) (r:Option Nat):w.grownBy w r:=⟨rfl,rfl,rfl,Nat.le_refl _,fun _ _ _=>rfl⟩
theorem PtsAt.grown {w w':World} {b off:Nat} {l:List Pt} {r:Option Nat} (h:PtsAt w b off l) (g:w.grownBy w' r) (hne:some b≠r):PtsAt w' b off l :=
 fun i hi=>⟨g.cell (h i hi).1 hne,g.cell (h i hi).2 hne⟩
def At (w:World) (v0 v:Value):Prop:=v.ownBlock=v0.ownBlock∨∃ g,v.ownBlock=some g∧w.heap.size≤g
theorem At.next {w a:World} {v0 v v':Value} (h:At w v0 v) (hs:w.heap.size≤a.heap.size) (hat:v'.ownBlock=v.ownBlock∨v'.ownBlock=some a.heap.size):At w v0 v':=by
 rcases hat with e | e
 ·unfold At;rw [e];exact h
 ·exact .inr ⟨_,e,hs⟩
def GatherEnd (B:Nat) (w:World) (v0:Value) (l:List Pt) (e:Ending) (w':World):Prop:=∃ v,e=.returned v∧OwnP w' B v l∧w.grownBy w' v0.ownBlock∧At w v0 v
set_option maxHeartbeats 4000000 in
set_option maxRecDepth 100000 in
theorem gather_list (B:Nat) (v0:Value) (l0:List Pt) (b off cap:Nat) (l:List Pt) (w:World) (hB:B≤w.heap.size) (h0:OwnP w B v0 l0) (hl0:l0.length≤1000000) (hl:l.length≤1000000) (h:PtsAt w b off l) (hne:some b≠v0.ownBlock) :
  Calls Tryz.prog 353 #[v0,.slice (some ⟨b,off,none⟩) l.length cap] w (GatherEnd B w v0 (gather l0 l)):=by
 obtain ⟨i0,hi,hz0,hz1,hz2⟩:=info_parts infoPt
 have HI:=Lib.hid hi
 have HZ0:=Lib.hid hz0
 have HZ1:=Lib.hid hz1
 have HZ2:=Lib.hid hz2
 have H0:=Lib.hid h0
 have H:=Lib.hid h
 have HNE:=Lib.hid hne
 have HBB:=Lib.hid hB
 clear hi hz0 hz1 hz2 h0 h hne hB
 go_enter Tryz.func353,Tryz.ntmps353
 go_wp2
 go_loopw [0,9] (fun v i wr=>∃ k:Nat,k≤l.length∧i=.int .i64 k∧OwnP wr B v (gather l0 (l.take k))∧w.grownBy wr v0.ownBlock∧At w v0 v) (fun _ i _=>l.length - (intOf i).toNat)
 case atStart=>exact ⟨0,Nat.zero_le _,rfl,H0.out,grown_refl _ _,.inl rfl⟩
 case round =>
  obtain ⟨k,hk,rfl,ho,hg,hat⟩:=hrel
  by_cases hlt:k<l.length
  ·obtain ⟨x,y,hxy⟩:∃ x y,l[k]=(x,y):=⟨_,_,rfl⟩
   have hc:=(H.out.grown hg HNE.out) k hlt
   rw [hxy] at hc
   obtain ⟨hc1,hc2⟩:=hc
   have hs:=gather_take l0 l k hlt
   rw [hxy] at hs
   have hn:(gather l0 (l.take k)).length≤l0.length+k:=Nat.le_trans (gather_len _ _) (by have:=List.length_take_le k l;omega)
   have HS:=Lib.hid hs
   have HO:=Lib.hid ho
   have HG:=Lib.hid hg
   have HA:=Lib.hid hat
   have HN:=Lib.hid hn
   clear hxy hs ho hg hat hn
   cases hv:decide ((x,y)∈gather l0 (l.take k))
   ·have HV:=Lib.hid (of_decide_eq_false hv)
    go_wp2_with (first
     | (go_at_call 401;refine (contains_rd _ (gather l0 (l.take k)) _ _ _ ((HO.out.rd (by have:=HN.out;omega)).kp (kp_alloc (kp_refl _) _))).mono ?_;rintro e w2 ⟨rfl,hk2⟩;have p0:w2.cell? ⟨wr.heap.size,0,none⟩=some (.int .i64 x):=kp_cell hk2 (by simp [go_sem]);have p1:w2.cell? ⟨wr.heap.size,1,none⟩=some (.int .i64 y):=kp_cell hk2 (by simp [go_sem]);have HK2:=Lib.hid hk2;clear hk2;have HO2:=Lib.hid ((HO.out.kp (kp_alloc (kp_refl _) _)).kp HK2.out);have HB:=Lib.hid (kp_trans (kp_alloc (kp_refl _) _) HK2.out))
     | (at_builtin;refine wpList_append_own_at _ rfl _ _ 71 rfl B 53 i0 (.agg #[.int .i64 0,.int .i64 0]) 2 16 Tryz.underlying71 HI.out HZ0.out HZ1.out HZ2.out rfl (by decide) _ _ _ rfl (HO2.out.kp (kp_alloc (kp_refl _) _)) ⟨w2.heap.size,0,none⟩ 1 1 [.int .i64 x,.int .i64 y] rfl rfl (cell_two_pt _ _ _ _) (by simp [Value.oneCell']) (by have:=HN.out;unfold maxLen;omega) (by have:=HN.out;omega) (Nat.le_trans HBB.out (Nat.le_trans HG.out.size (Below.size (kp_alloc HB.out _)))) ?_;intro v' w3 hown hgrow hnil hat;have HO3:=Lib.hid (OwnP.snoc hown);have HG3:=Lib.hid (grown_comb (grown_kp HG.out (kp_alloc HB.out _)) hgrow HA.out);have HA3:=Lib.hid (HA.out.next (Nat.le_trans HG.out.size (Below.size (kp_alloc HB.out _))) hat);clear hown hgrow hnil hat))
    go_roundw
    case rel=>exact ⟨k+1,by omega,by go_num,by rw [HS.out,if_neg HV.out];exact HO3.out,HG3.out,HA3.out⟩
    case measure=>simp [intOf];omega
   ·have HV:=Lib.hid (of_decide_eq_true hv)
    go_wp2_with (go_at_call 401;refine (contains_rd _ (gather l0 (l.take k)) _ _ _ ((HO.out.rd (by have:=HN.out;omega)).kp (kp_alloc (kp_refl _) _))).mono ?_;rintro e w2 ⟨rfl,hk2⟩;have HK2:=Lib.hid hk2;clear hk2)
    go_roundw
    case rel=>exact ⟨k+1,by omega,by go_num,by rw [HS.out,if_pos HV.out];exact (HO.out.kp (kp_alloc (kp_refl _) _)).kp HK2.out,grown_kp HG.out (kp_trans (kp_alloc (kp_refl _) _) HK2.out),HA.out⟩
    case measure=>simp [intOf];omega
  ·have hke:k=l.length:=by omega
   have HO:=Lib.hid (show OwnP wr B _ (gather l0 l) by rw [hke,List.take_length] at ho;exact ho)
   have HG:=Lib.hid hg
   have HA:=Lib.hid hat
   clear ho hg hat hke
   go_wp2
   go_ret
   exact ⟨_,rfl,HO.out,HG.out,HA.out⟩
end Go.Proofs.YtgliljnbajohhaaGreatDoor
