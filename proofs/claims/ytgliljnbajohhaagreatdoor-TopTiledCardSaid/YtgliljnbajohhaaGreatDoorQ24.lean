import Derived.Test.YtgliljnbajohhaaGreatDoorQ20
import Derived.Test.YtgliljnbajohhaaGreatDoorQ08
import Derived.Laws.AppendOwnNone
import Derived.Lib.AppendZeros
import Derived.RegionTactic
import Derived.WalkSpells
import Derived.BigRegion
import Derived.IntWalk
import Derived.Deep.DeepCutAuto
import Derived.Deep.RegionHeld3
import Derived.Test.YtgliljnbajohhaaGreatDoorQ00
import Derived.Test.YtgliljnbajohhaaGreatDoorQ02
import Derived.Test.YtgliljnbajohhaaGreatDoorQ23
import Derived.Test.YtgliljnbajohhaaGreatDoorQ13
import Derived.Shelf.Sort.Plain
import Derived.Sort.OwnSortedInts
import Derived.Test.YtgliljnbajohhaaGreatDoorQ11
import Derived.Shelf.Slices.In.SortNone
set_option linter.unusedVariables false
set_option linter.unusedSimpArgs false
namespace Go.Proofs.YtgliljnbajohhaaGreatDoor
open Go.RowKit Go.Proofs.Geo
def RdX (w:World) (v:Value) (l:List Int):Prop :=
 l.length≤10000000000000∧((v=.slice none 0 0∧l=[])∨∃ (ad:Addr) (cap:Nat),v=.slice (some ad) l.length cap∧∀ j u,(intsV l)[j]? = some u→w.cell? (ad.add j)=some u)
theorem RdX.kp {w w':World} {v:Value} {l:List Int} (h:RdX w v l) (k:Kp w w'):RdX w' v l:=by
 obtain ⟨hl,h | ⟨ad,cap,hv,h⟩⟩:=h
 ·exact ⟨hl,.inl h⟩
 ·exact ⟨hl,.inr ⟨ad,cap,hv,fun j u hj=>kp_cell k (h j u hj)⟩⟩
theorem OwnI.rdX {w:World} {B:Nat} {v:Value} {l:List Int} (h:OwnI w B v l) (hl:l.length≤10000000000000):RdX w v l:=by
 refine ⟨hl,?_⟩
 have h':=h
 obtain ⟨h1,⟨hv,hn⟩ | ⟨g,cap,cur,hv,_⟩⟩:=h
 ·exact .inl ⟨hv,List.eq_nil_of_length_eq_zero hn⟩
 ·exact .inr ⟨⟨g,0,none⟩,cap,hv,World.ownsRow.cells h' (g:=g) (by rw [hv];rfl)⟩
def OwnEndI (w:World) (l:List Int) (e:Ending) (w':World):Prop:=∃ v,e=.returned v∧OwnI w' w.heap.size v l∧Kp w w'
theorem own_roomI (w:World) (cs:Array Value) (cap:Nat) (hcap:cap≤maxLen) (hsz:cs.size=cap * 1):OwnI (w.alloc (.cells cs 3)) w.heap.size (.slice (some ⟨w.heap.size,0,none⟩) 0 cap) [] :=
 ⟨by simp [intsV],.inr ⟨w.heap.size,cap,cs,rfl,Nat.le_refl _,heap_alloc_new w _,Nat.zero_le _,hcap,hsz,by simp [intsV]⟩⟩
theorem wpList_append_ints {w:World} {ops:Array Oper} {rest:List Oper} {o:Oper} {a:Act} {Q:Exit→Act→World→Prop} (hgd:o.guard=none) (s x:Operand)
  (ho:o.op=.call { callee:=.builtin .append,args:=#[s,x],argTypes:=#[22, 22] }) (B:Nat) (v y:Value) (l m:List Int) (hs:a.eval s=v) (hx:a.eval x=y)
  (hown:OwnI w B v l) (hr:RdX w y m) (hn:l.length+m.length≤10000000) (hB:B≤w.heap.size)
  (h:∀ v' w',OwnI w' B v' (l++m)→w.grownBy w' v.ownBlock→wpList Tryz.prog ops Q rest (a.put o.dst v') w'):wpList Tryz.prog ops Q (o :: rest) a w:=by
 obtain ⟨i0,hi,hz0,hz1,hz2⟩:=info_parts infoInt8
 obtain ⟨_,⟨hy,hm⟩ | ⟨ad,cap,hy,hc⟩⟩:=hr
 ·subst hy hm
  refine wpList_append_own_none hgd s x 22 ho B 3 i0 1 Tryz.underlying22 hi v _ _ hs hown hx ?_
  exact h _ _ (by rw [List.append_nil];exact hown) (World.grownBy.refl _ _)
 ·subst hy
  refine wpList_append_own w hgd s x 22 ho B 3 i0 (.int .i64 0) 1 8 Tryz.underlying22 hi hz0 hz1 hz2 rfl (by decide) v _ _ hs hown ad _ _ (intsV m) hx (by simp [intsV]) hc (intsV_one _) (by unfold maxLen;omega) (by omega) hB ?_
  intro v' w' hown' hg _
  exact h _ _ (OwnI.append hown') hg
set_option maxHeartbeats 4000000 in
set_option maxRecDepth 100000 in
theorem growI_any (n:Nat) (hn:n≤1000000) (w:World):Calls Tryz.prog 429 #[.slice none 0 0,.int .i64 n] w (OwnEndI w []):=by
 obtain ⟨i0,hi,hz0,hz1,hz2⟩:=info_parts infoInt8
 by_cases h0:n=0
 ·subst h0
  clear hi hz0 hz1 hz2
  go_enter Tryz.func429,Tryz.ntmps429
  go_wp2
  go_ret
  exact ⟨_,rfl,World.ownsRow_nil _ _ _ _,kp_refl _⟩
 ·have hpos:0<n:=by omega
  have hr:=Lib.run_append_nil_zeros (P:=Tryz.prog) w 22 3 22 3 i0 _ .i64 .i64 Tryz.underlying22 Tryz.underlying3 hi hz0 n hpos (by rw [hz1];decide) (by omega) (by rw [hz2];omega)
  have HR:=Lib.hid hr
  have b1:(0:Int)<(n:Int):=by omega
  have b2:(n:Int)≤1000000:=by omega
  have hcp:=grownCap_le_maxLen w n 0 3 (by unfold maxLen;omega)
  have hge:=grownCap_ge w n 0 3
  have HCP:=Lib.hid hcp
  have HGE:=Lib.hid hge
  clear hr hi hz0 hz1 hz2 hcp hge h0
  go_enter Tryz.func429,Tryz.ntmps429
  go_wp2_with (at_builtin;refine Lib.wpList_append_run _ rfl (.tmp 20) (.tmp 21) 22 3 rfl _ _ rfl rfl _ _ HR.out ?_)
  go_ret
  refine ⟨_,rfl,own_roomI w.drew _ _ HCP.out ?_,kp_alloc (kp_drew (kp_refl _)) _⟩
  have:=HGE.out
  simp only [Array.size_append,size_zeroCells]
  simp
  omega
def cat2I (a b:List Int) (k:Nat):List Int:=if k=0 then [] else if k=1 then a else a++b
set_option maxHeartbeats 4000000 in
theorem concatI_any (B:Nat) (va vb:Value) (a b:List Int) (w:World) (ca:w.cell? ⟨B,0,none⟩=some va) (cb:w.cell? ⟨B,1,none⟩=some vb) (ra:RdX w va a) (rb:RdX w vb b) (hn:a.length+b.length≤1000000) :
  Calls Tryz.prog 402 #[.slice (some ⟨B,0,none⟩) 2 2] w (OwnEndI w (a++b)):=by
 obtain ⟨a1,c1,hva⟩:∃ a1 c1,va=.slice a1 a.length c1:=by
  obtain ⟨_,⟨h1,h2⟩ | ⟨ad,cap,h1,_⟩⟩:=ra
  ·subst h2;exact ⟨_,_,h1⟩
  ·exact ⟨_,_,h1⟩
 obtain ⟨a2,c2,hvb⟩:∃ a1 c1,vb=.slice a1 b.length c1:=by
  obtain ⟨_,⟨h1,h2⟩ | ⟨ad,cap,h1,_⟩⟩:=rb
  ·subst h2;exact ⟨_,_,h1⟩
  ·exact ⟨_,_,h1⟩
 have HN:=Lib.hid hn
 obtain ⟨n,ha⟩:∃ n,a.length=n:=⟨_,rfl⟩
 obtain ⟨m,hb⟩:∃ n,b.length=n:=⟨_,rfl⟩
 rw [ha] at hva hn
 rw [hb] at hvb hn
 subst hva hvb
 have RA:=Lib.hid ra
 have RB:=Lib.hid rb
 clear ra rb ha hb
 have lB:B<w.heap.size:=cell_lt ca
 go_enter Tryz.func402,Tryz.ntmps402
 go_wp2
 go_loop [3,11] (fun s i=>∃ k:Nat,k≤2∧i=.int .i64 k∧s=.int .i64 ((if k=0 then 0 else if k=1 then n else n+m:Nat):Int)) (fun _ i=>2 - (intOf i).toNat)
 case atStart=>exact ⟨0,by omega,rfl,rfl⟩
 case round =>
  obtain ⟨k,hk,rfl,rfl⟩:=hrel
  have hk':k=0∨k=1∨k=2:=by omega
  rcases hk' with rfl | rfl | rfl
  ·go_wp2
   go_round
   case rel=>exact ⟨1,by omega,rfl,by simp⟩
   case measure=>simp [intOf]
  ·go_wp2
   go_round
   case rel=>exact ⟨2,by omega,rfl,by simp⟩
   case measure=>simp [intOf]
  ·have hs:((if (2:Nat)=0 then 0 else if (2:Nat)=1 then n else n+m:Nat):Int)=((n+m:Nat):Int):=by simp
   rw [hs]
   have HG:=Lib.hid (growI_any (n+m) hn)
   go_wp2_with (go_at_call 429;refine (HG.out _).mono ?_;rintro e w1 ⟨v1,rfl,ho,hk⟩;have HO:=Lib.hid ho;have HK:=Lib.hid hk;clear ho hk)
   have d0:w1.cell? ⟨B,0,none⟩=some (.slice a1 n c1):=kp_cell HK.out ca
   have d1:w1.cell? ⟨B,1,none⟩=some (.slice a2 m c2):=kp_cell HK.out cb
   go_loopw [6,27] (fun s i wr=>∃ k:Nat,k≤2∧i=.int .i64 k∧OwnI wr w.heap.size s (cat2I a b k)∧Kp w wr) (fun _ i _=>2 - (intOf i).toNat)
   case atStart=>exact ⟨0,by omega,rfl,HO.out,HK.out⟩
   case round =>
    obtain ⟨k,hk,rfl,ho,hkp⟩:=hrel
    have e0:wr.cell? ⟨B,0,none⟩=some (.slice a1 n c1):=kp_cell hkp ca
    have e1:wr.cell? ⟨B,1,none⟩=some (.slice a2 m c2):=kp_cell hkp cb
    have RA2:=Lib.hid (RA.out.kp hkp)
    have RB2:=Lib.hid (RB.out.kp hkp)
    have HO2:=Lib.hid ho
    have HK2:=Lib.hid hkp
    clear ho hkp
    have hk':k=0∨k=1∨k=2:=by omega
    rcases hk' with rfl | rfl | rfl
    ·go_wp2_with (at_builtin;refine wpList_append_ints rfl (.tmp 31) (.tmp 32) rfl w.heap.size _ _ _ a rfl rfl HO2.out RA2.out (by have:=HN.out;simp [cat2I];omega) (Below.size HK2.out) ?_;intro v2 w2 ho hg;have HO3:=Lib.hid ho;have HK3:=Lib.hid (kp_grown_ownI HK2.out hg HO2.out);clear ho hg)
     exact ⟨⟨1,by omega,rfl,HO3.out,HK3.out⟩,by simp [intOf]⟩
    ·go_wp2_with (at_builtin;refine wpList_append_ints rfl (.tmp 31) (.tmp 32) rfl w.heap.size _ _ _ b rfl rfl HO2.out RB2.out (by have:=HN.out;simp [cat2I];omega) (Below.size HK2.out) ?_;intro v2 w2 ho hg;have HO3:=Lib.hid ho;have HK3:=Lib.hid (kp_grown_ownI HK2.out hg HO2.out);clear ho hg)
     exact ⟨⟨2,by omega,rfl,HO3.out,HK3.out⟩,by simp [intOf]⟩
    ·go_wp2
     go_ret
     exact ⟨_,rfl,HO2.out,HK2.out⟩
end Go.Proofs.YtgliljnbajohhaaGreatDoor
namespace Go.Proofs.Geo
def cntU (p a b:Pt):Bool:=decide (a.2≤p.2) && decide (p.2<b.2) && decide (turn a b p=1)
def cnt (p a b:Pt):Bool:=if b.2<a.2 then cntU p b a else cntU p a b
def pc (p:Pt):Pt→List Pt→Nat
 | _,[]=>0
 | a,b :: l=>(cnt p a b).toNat+pc p b l
def way (p a:Pt) (l:List Pt) (b:Pt):Nat:=pc p a (l++[b])
def low (p a:Pt):Bool:=decide (a.2≤p.2)
end Go.Proofs.Geo
namespace Go.Proofs.Geo
def inBox (p:Pt) (lx ly hx hy:Int):Bool:=decide (lx≤p.1) && decide (p.1<hx) && decide (ly≤p.2) && decide (p.2<hy)
end Go.Proofs.Geo
namespace Go.Proofs.YtgliljnbajohhaaGreatDoor
open Go.RowKit Go.Proofs.Geo
set_option maxHeartbeats 1000000 in
theorem pin_any (px py lx ly hx hy:Int) (w:World):Calls Tryz.prog 292 #[pv px py,.agg #[.int .i64 lx,.int .i64 ly,.int .i64 hx,.int .i64 hy]] w fun e w' =>
  e=.returned (.bool (inBox (px,py) lx ly hx hy))∧Kp w w':=by
 have H:Hid (inBox (px,py) lx ly hx hy=(decide (lx≤px) && decide (px<hx) && decide (ly≤py) && decide (py<hy))):=rfl
 go_enter Tryz.func292,Tryz.ntmps292
 go_wp2
 all_goals
  go_ret
  exact ⟨ret_bool (by rw [H.out];simp [*] <;> omega),kp_alloc (kp_alloc (kp_refl _) _) _⟩
end Go.Proofs.YtgliljnbajohhaaGreatDoor
namespace Go.Proofs.YtgliljnbajohhaaGreatDoor
open Go.RowKit Go.Proofs.Top Go.Proofs.Geo
def inP (px py:Int) (x:Bx):Bool:=inBox (px,py) (x.1:Int) (x.2.1:Int) (x.2.2.1:Int) (x.2.2.2:Int)
theorem inP_mono {px py:Int} {x y:Bx} (h:InBx x y) (hx:inP px py x=true):inP px py y=true:=by
 obtain ⟨h1,h2,h3,h4⟩:=h
 unfold inP inBox at *
 simp only [Bool.and_eq_true,decide_eq_true_eq] at *
 omega
def selL (px py:Int) (l:List Bx) (M:List Int):List Int:=M.filter fun z=>inP px py (bxOf l z)
theorem selL_none {px py:Int} {l:List Bx} {L:List Int} {fr m:Nat} {x:Bx} (h:∀ k,fr≤k→k<fr+m→InBx (bxOf l (L.getD k 0)) x) (hx:inP px py x=false) (hL:fr+m≤L.length):selL px py l ((L.drop fr).take m)=[]:=by
 unfold selL
 rw [List.filter_eq_nil_iff]
 intro z hz
 obtain ⟨j,hj,e⟩:=List.mem_iff_getElem.1 hz
 simp only [List.length_take,List.length_drop] at hj
 simp only [List.getElem_take,List.getElem_drop] at e
 have h1:=h (fr+j) (by omega) (by omega)
 rw [List.getD_eq_getElem?_getD,List.getElem?_eq_getElem (by omega)] at h1
 simp only [Option.getD_some] at h1
 rw [e] at h1
 intro h2
 rw [inP_mono h1 h2] at hx
 cases hx
theorem selL_one {px py:Int} {l:List Bx} {L:List Int} {fr:Nat} (hL:fr<L.length) (hx:inP px py (bxOf l (L.getD fr 0))=true):selL px py l ((L.drop fr).take 1)=[L.getD fr 0]:=by
 have e:(L.drop fr).take 1=[L.getD fr 0]:=by
  rw [List.getD_eq_getElem?_getD,List.getElem?_eq_getElem hL,List.drop_eq_getElem_cons hL]
  rfl
 rw [e]
 unfold selL
 simp only [List.filter_cons,hx,if_true,List.filter_nil]
theorem selL_two {px py:Int} {l:List Bx} {L:List Int} {fr a b:Nat}:selL px py l ((L.drop fr).take (a+b))=selL px py l ((L.drop fr).take a)++selL px py l ((L.drop (fr+a)).take b):=by
 unfold selL
 rw [← List.filter_append,List.take_add,List.drop_drop]
theorem selL_len (px py:Int) (l:List Bx) (M:List Int):(selL px py l M).length≤M.length:=List.length_filter_le _ _
theorem atso_any (pp:Nat) (px py:Int) (x0 x1 x2 x3:Nat) (w:World) (h0:w.cell? ⟨pp,0,none⟩=some (.int .i64 px)) (h1:w.cell? ⟨pp,1,none⟩=some (.int .i64 py)) :
  Calls Tryz.prog 291 #[.agg #[.int .i64 x0,.int .i64 x1,.int .i64 x2,.int .i64 x3],.pointer (some ⟨pp,0,none⟩)] w fun e w'=>e=.returned (.bool (inP px py (x0,x1,x2,x3)))∧Kp w w':=by
 have lp:=cell_lt h0
 have HB:Hid (inBox (px,py) (x0:Int) (x1:Int) (x2:Int) (x3:Int)=inP px py (x0,x1,x2,x3)):=Lib.hid rfl
 have HP:=Lib.hid (fun w=>pin_any px py (x0:Int) (x1:Int) (x2:Int) (x3:Int) w)
 rw [HB.out] at HP
 generalize inP px py (x0,x1,x2,x3)=q at *
 go_enter Tryz.func291,Tryz.ntmps291
 go_wp2_with (go_at_call 292;refine (HP.out _).mono ?_;rintro e w1 ⟨rfl,hk⟩)
 go_ret
 exact ⟨rfl,kp_trans (by (repeat (first | exact kp_refl _ | apply kp_alloc | apply kp_drew | apply kp_drewN))) hk⟩
set_option maxHeartbeats 16000000 in
set_option maxRecDepth 100000 in
theorem walk_any (tb gl go n cl co B pp nn:Nat) (l:List Bx) (L:List Int) (nv:Value) (xs:List Value) (px py:Int) (hnn:nn≤1099511627776) (hn:n≤1000) (hco:n≤co) (hL:n≤L.length) (hL2:L.length≤1000000) (i fr m:Nat) (hcv:Cov l L xs i fr m):∀ (w:World),fr+m≤n→TrS tb gl go n cl co B l L nv nn xs w →
  w.cell? ⟨pp,0,none⟩=some (.int .i64 px)→w.cell? ⟨pp,1,none⟩=some (.int .i64 py) →
  Calls Tryz.prog 356 #[.pointer (some ⟨tb,0,none⟩),.int .i64 i,.func (.func 291) #[] #[.pointer (some ⟨pp,0,none⟩)]] w (OwnEndI w (selL px py l ((L.drop fr).take m))):=by
 induction hcv with
 | @leaf i fr hN =>
  intro w hfm hs h0 h1
  obtain ⟨⟨x0,x1,x2,x3⟩,hx⟩:∃ x,bxOf l (L.getD fr 0)=x:=⟨_,rfl⟩
  have HX:=Lib.hid hx
  rw [hx] at hN
  obtain ⟨n0,n1,n2,n3,n4,n5⟩:=hN
  dsimp only at n2 n3 n4 n5
  have hi:i<nn:=by have:=(List.getElem?_eq_some_iff.1 n0).1;rw [hs.own.1] at this;omega
  obtain ⟨gn,cn,hv,hcn,hcell⟩:=own_cells hs.own (by omega)
  subst hv
  have c0:=hcell _ _ n0
  have c1:=hcell _ _ n1
  have c2:=hcell _ _ n2
  have c3:=hcell _ _ n3
  have c4:=hcell _ _ n4
  have c5:=hcell _ _ n5
  have t2:=hs.c2
  have t3:=hs.c3
  have lt3:=cell_lt t3
  have lgn:=cell_lt c0
  have z1:¬ (nn:Int)≤(i:Int):=by omega
  have z2:(0:Int)≤(i:Int):=by omega
  have z3:(i:Int)<(nn:Int):=by omega
  have hro:=hs.r.cell (i:=fr) (by omega)
  have lgo:=cell_lt hro
  have z4:((fr:Int)+1 == (fr:Int))=false:=by simp;omega
  have z5:¬ (fr:Int)+1=(fr:Int):=by omega
  have z6:(fr:Int)+1 - (fr:Int)=1:=by omega
  have z7:(0:Int)≤(fr:Int):=by omega
  have z8:(fr:Int)<(n:Int):=by omega
  have HSO:=Lib.hid (fun W (k:Kp w W)=>atso_any pp px py x0 x1 x2 x3 W (kp_cell k h0) (kp_cell k h1))
  have HS:=Lib.hid hs
  obtain ⟨z,hz⟩:∃ z,L.getD fr 0=z:=⟨_,rfl⟩
  have HZ:=Lib.hid hz
  rw [hz] at hro
  cases hin:inP px py (x0,x1,x2,x3) with
  | false =>
   rw [hin] at HSO
   have HR:Hid (selL px py l ((L.drop fr).take 1)=[]):=Lib.hid (selL_none (x:=(x0,x1,x2,x3)) (fun k h1 h2=>by rw [show k=fr by omega,HX.out];exact InBx.refl _) hin (by omega))
   rw [HR.out]
   clear n0 n1 n2 n3 n4 n5 hcell hs hin hx hz
   go_enter Tryz.func356,Tryz.ntmps356
   go_wp2_with (go_at_call 291;refine (HSO.out _ (by (repeat (first | exact kp_refl _ | apply kp_alloc | apply kp_drew | apply kp_drewN)))).mono ?_;rintro e w1 ⟨rfl,hk⟩;have HK:Hid (Kp w w1):=Lib.hid (kp_trans (by (repeat (first | exact kp_refl _ | apply kp_alloc | apply kp_drew | apply kp_drewN))) hk);clear hk)
   go_ret
   exact ⟨_,rfl,World.ownsRow_nil _ _ _ _,HK.out⟩
  | true =>
   rw [hin] at HSO
   have HR:Hid (selL px py l ((L.drop fr).take 1)=[z]):=Lib.hid (by rw [← HZ.out];exact selL_one (by omega) (by rw [HX.out];exact hin))
   rw [HR.out]
   clear n0 n1 n2 n3 n4 n5 hcell hs hin hx hz
   go_enter Tryz.func356,Tryz.ntmps356
   go_upto_region 7 with (go_at_call 291;refine (HSO.out _ (by (repeat (first | exact kp_refl _ | apply kp_alloc | apply kp_drew | apply kp_drewN)))).mono ?_;rintro e w1 ⟨rfl,hk⟩;have d0:=kp_cell hk (show (World.alloc w _).cell? ⟨w.heap.size,0,none⟩=some (.int .i64 fr) by simp [go_sem]);have d1:=kp_cell hk (show (World.alloc w _).cell? ⟨w.heap.size,1,none⟩=some (.int .i64 ((fr:Int)+1)) by simp [go_sem]);have KW:Kp w w1:=kp_trans (by (repeat (first | exact kp_refl _ | apply kp_alloc | apply kp_drew | apply kp_drewN))) hk;have u2:=kp_cell KW t2;have uo:=kp_cell KW hro;have lu:=cell_lt u2;have luo:=cell_lt uo;have ld:=cell_lt d0;clear hk)
   go_region
   go_wp2_with fail
   go_ret
   refine ⟨_,rfl,?_,(by (repeat (first | exact KW | apply kp_alloc | apply kp_drew | apply kp_drewN)))⟩
   have h:=OwnI.lit w1.drew [z] #[.int .i64 z] rfl (by simp)
   exact ownsRow_mono h (by have:=Below.size KW;simpa using this)
 | @node i fr m x hm hN hall hl hr ihl ihr =>
  intro w hfm hs h0 h1
  obtain ⟨x0,x1,x2,x3⟩:=x
  obtain ⟨n0,n1,n2,n3,n4,n5⟩:=hN
  dsimp only at n2 n3 n4 n5
  have hi:i<nn:=by have:=(List.getElem?_eq_some_iff.1 n0).1;rw [hs.own.1] at this;omega
  obtain ⟨gn,cn,hv,hcn,hcell⟩:=own_cells hs.own (by omega)
  subst hv
  have c0:=hcell _ _ n0
  have c1:=hcell _ _ n1
  have c2:=hcell _ _ n2
  have c3:=hcell _ _ n3
  have c4:=hcell _ _ n4
  have c5:=hcell _ _ n5
  rw [Int.natCast_add] at c1
  have t3:=hs.c3
  have lt3:=cell_lt t3
  have lgn:=cell_lt c0
  have z1:¬ (nn:Int)≤(i:Int):=by omega
  have z2:(0:Int)≤(i:Int):=by omega
  have z3:(i:Int)<(nn:Int):=by omega
  have z4:((fr:Int)+(m:Int) == (fr:Int))=false:=by simp;omega
  have z5:¬ (fr:Int)+(m:Int)=(fr:Int):=by omega
  have z6:(fr:Int)+(m:Int) - (fr:Int)=(m:Int):=by omega
  have z9:((m:Int) == 1)=false:=by simp;omega
  have z10:¬ (m:Int)=1:=by omega
  have z11:¬ m=1:=by omega
  have wm:IntKind.i64.wrap (m:Int)=(m:Int):=IntWalk.i64_in _ (by omega)
  have wi3:IntKind.i64.wrap (2 * (i:Int))=2 * (i:Int):=IntWalk.i64_in _ (by omega)
  have wi4:IntKind.i64.wrap (2 * (i:Int)+1)=2 * (i:Int)+1:=IntWalk.i64_in _ (by omega)
  have wi5:IntKind.i64.wrap (2 * (i:Int)+2)=2 * (i:Int)+2:=IntWalk.i64_in _ (by omega)
  have HSO:=Lib.hid (fun W (k:Kp w W)=>atso_any pp px py x0 x1 x2 x3 W (kp_cell k h0) (kp_cell k h1))
  cases hin:inP px py (x0,x1,x2,x3) with
  | false =>
   rw [hin] at HSO
   have HR:Hid (selL px py l ((L.drop fr).take m)=[]):=Lib.hid (selL_none hall hin (by omega))
   rw [HR.out]
   clear n0 n1 n2 n3 n4 n5 hcell hs hin hall hl hr ihl ihr
   go_enter Tryz.func356,Tryz.ntmps356
   go_wp2_with (go_at_call 291;refine (HSO.out _ (by (repeat (first | exact kp_refl _ | apply kp_alloc | apply kp_drew | apply kp_drewN)))).mono ?_;rintro e w1 ⟨rfl,hk⟩;have HK:Hid (Kp w w1):=Lib.hid (kp_trans (by (repeat (first | exact kp_refl _ | apply kp_alloc | apply kp_drew | apply kp_drewN))) hk);clear hk)
   go_ret
   exact ⟨_,rfl,World.ownsRow_nil _ _ _ _,HK.out⟩
  | true =>
   rw [hin] at HSO
   obtain ⟨A,hA⟩:∃ A,selL px py l ((L.drop fr).take ((m+1) / 2))=A:=⟨_,rfl⟩
   obtain ⟨D,hD⟩:∃ D,selL px py l ((L.drop (fr+(m+1) / 2)).take (m / 2))=D:=⟨_,rfl⟩
   have HR:Hid (selL px py l ((L.drop fr).take m)=A++D):=Lib.hid (by rw [← hA,← hD,← selL_two,show (m+1) / 2+m / 2=m by omega])
   have hAl:A.length≤1000:=by rw [← hA];exact Nat.le_trans (selL_len _ _ _ _) (by simp;omega)
   have hDl:D.length≤1000:=by rw [← hD];exact Nat.le_trans (selL_len _ _ _ _) (by simp;omega)
   have H1:=Lib.hid (fun W (k:Kp w W)=>by have h:=ihl W (by omega) (hs.kp k) (kp_cell k h0) (kp_cell k h1);rw [hA,show ((2 * i+1:Nat):Int)=2 * (i:Int)+1 by omega] at h;exact h)
   have H2:=Lib.hid (fun W (k:Kp w W)=>by have h:=ihr W (by omega) (hs.kp k) (kp_cell k h0) (kp_cell k h1);rw [hD,show ((2 * i+2:Nat):Int)=2 * (i:Int)+2 by omega] at h;exact h)
   rw [HR.out]
   clear n0 n1 n2 n3 n4 n5 hcell hs hin hall hl hr ihl ihr hA hD
   unfold OwnEndI at H1 H2
   go_enter Tryz.func356,Tryz.ntmps356
   go_upto_region 8 with (go_at_call 291;refine (HSO.out _ (by (repeat (first | exact kp_refl _ | apply kp_alloc | apply kp_drew | apply kp_drewN)))).mono ?_;rintro e w1 ⟨rfl,hk⟩;have d0:=kp_cell hk (show (World.alloc w _).cell? ⟨w.heap.size,0,none⟩=some (.int .i64 fr) by simp [go_sem]);have d1:=kp_cell hk (show (World.alloc w _).cell? ⟨w.heap.size,1,none⟩=some (.int .i64 ((fr:Int)+(m:Int))) by simp [go_sem]);have KW:Kp w w1:=kp_trans (by (repeat (first | exact kp_refl _ | apply kp_alloc | apply kp_drew | apply kp_drewN))) hk;have ld:=cell_lt d0;clear hk)
   go_wp2_with (first | (go_at_call 356;have M2:=K2;refine (H2.out _ K2).mono ?_;rintro e w3 ⟨v3,rfl,ho3,hk3⟩;have K3:=kp_trans K2 hk3;have HO2:=Lib.hid (ho2.kp hk3);have HO3:=Lib.hid ho3;obtain ⟨pa,ca,rfl⟩:=ownsRow_slice ho2;obtain ⟨pb,cb,rfl⟩:=ownsRow_slice ho3;clear hk3 ho3) | (go_at_call 356;refine (H1.out _ KW).mono ?_;rintro e w2 ⟨v2,rfl,ho2,hk2⟩;have K2:=kp_trans KW hk2) | (go_at_call 402;refine (concatI_any w3.heap.size (.slice pa A.length ca) (.slice pb D.length cb) A D _ (by simp [go_sem]) (by simp [go_sem]) ((HO2.out.rdX (by omega)).kp (kp_alloc (kp_refl _) _)) ((HO3.out.rdX (by omega)).kp (kp_alloc (kp_refl _) _)) (by omega)).mono ?_;rintro e w4 ⟨v4,rfl,ho4,hk4⟩;have K4:=kp_trans (kp_alloc K3 _) hk4;have HO4:=Lib.hid ho4;clear ho4))
   go_ret
   exact ⟨_,rfl,ownsRow_mono HO4.out (by have:=Below.size K3;simp;omega),K4⟩
end Go.Proofs.YtgliljnbajohhaaGreatDoor
namespace Go.Proofs.YtgliljnbajohhaaGreatDoor
open Go.Shelf
def siRenO:Go.Shelf.Ren:=⟨fun | 125=>231 | 128=>308 | 129=>309 | 189=>295 | 215=>232 | 216=>362 | 257=>361 | 294=>407 | 295=>408 | 296=>409 | 297=>410 | 298=>411 | 299=>412 | 300=>413 | 301=>414 | 328=>438 | 329=>365 | 330=>366 | 331=>439 | 332=>440 | 343=>456 | n=>n,fun | 0=>0 | 3=>3 | 4=>4 | 5=>5 | 9=>9 | 28=>22 | 46=>336 | 51=>383 | 53=>202 | 131=>176 | 182=>480 | 183=>481 | 218=>553 | 222=>212 | 228=>603 | 229=>604 | n=>n,fun | n=>n⟩
theorem siLays:Go.Proofs.Lays.n189 Tryz.prog siRenO:={
 mixed:=by kernel_rfl
 f125:=Tryz.func231.trans (congrArg some (by kernel_rfl))
 f128:=Tryz.func308.trans (congrArg some (by kernel_rfl))
 f129:=Tryz.func309.trans (congrArg some (by kernel_rfl))
 f189:=Tryz.func295.trans (congrArg some (by kernel_rfl))
 f215:=Tryz.func232.trans (congrArg some (by kernel_rfl))
 f216:=Tryz.func362.trans (congrArg some (by kernel_rfl))
 f257:=Tryz.func361.trans (congrArg some (by kernel_rfl))
 f294:=Tryz.func407.trans (congrArg some (by kernel_rfl))
 f295:=Tryz.func408.trans (congrArg some (by kernel_rfl))
 f296:=Tryz.func409.trans (congrArg some (by kernel_rfl))
 f297:=Tryz.func410.trans (congrArg some (by kernel_rfl))
 f298:=Tryz.func411.trans (congrArg some (by kernel_rfl))
 f299:=Tryz.func412.trans (congrArg some (by kernel_rfl))
 f300:=Tryz.func413.trans (congrArg some (by kernel_rfl))
 f301:=Tryz.func414.trans (congrArg some (by kernel_rfl))
 f328:=Tryz.func438.trans (congrArg some (by kernel_rfl))
 f329:=Tryz.func365.trans (congrArg some (by kernel_rfl))
 f330:=Tryz.func366.trans (congrArg some (by kernel_rfl))
 f331:=Tryz.func439.trans (congrArg some (by kernel_rfl))
 f332:=Tryz.func440.trans (congrArg some (by kernel_rfl))
 f343:=Tryz.func456.trans (congrArg some (by kernel_rfl))
 t0:=Tryz.underlying0
 a0:=Tryz.isAgg0
 z0:=Tryz.sizeOf0
 v0:=Tryz.zeroValue0
 t3:=Tryz.underlying3
 a3:=Tryz.isAgg3
 z3:=Tryz.sizeOf3
 v3:=Tryz.zeroValue3
 t4:=Tryz.underlying4
 a4:=Tryz.isAgg4
 z4:=Tryz.sizeOf4
 v4:=Tryz.zeroValue4
 t5:=Tryz.underlying5
 a5:=Tryz.isAgg5
 z5:=Tryz.sizeOf5
 v5:=Tryz.zeroValue5
 t9:=Tryz.underlying9
 a9:=Tryz.isAgg9
 z9:=Tryz.sizeOf9
 v9:=Tryz.zeroValue9
 t28:=Tryz.underlying22
 a28:=Tryz.isAgg22
 z28:=Tryz.sizeOf22
 v28:=Tryz.zeroValue22
 t46:=Tryz.underlying336
 a46:=Tryz.isAgg336
 z46:=Tryz.sizeOf336
 v46:=Tryz.zeroValue336
 t51:=Tryz.underlying383
 a51:=Tryz.isAgg383
 z51:=Tryz.sizeOf383
 v51:=Tryz.zeroValue383
 t53:=Tryz.underlying202
 a53:=Tryz.isAgg202
 z53:=Tryz.sizeOf202
 v53:=Tryz.zeroValue202
 t131:=Tryz.underlying176
 a131:=Tryz.isAgg176
 z131:=Tryz.sizeOf176
 v131:=Tryz.zeroValue176
 t182:=Tryz.underlying480
 a182:=Tryz.isAgg480
 z182:=Tryz.sizeOf480
 v182:=Tryz.zeroValue480
 t183:=Tryz.underlying481
 a183:=Tryz.isAgg481
 z183:=Tryz.sizeOf481
 v183:=Tryz.zeroValue481
 t218:=Tryz.underlying553
 a218:=Tryz.isAgg553
 z218:=Tryz.sizeOf553
 v218:=Tryz.zeroValue553
 t222:=Tryz.underlying212
 a222:=Tryz.isAgg212
 z222:=Tryz.sizeOf212
 v222:=Tryz.zeroValue212
 t228:=Tryz.underlying603
 a228:=Tryz.isAgg603
 z228:=Tryz.sizeOf603
 v228:=Tryz.zeroValue603
 t229:=Tryz.underlying604
 a229:=Tryz.isAgg604
 z229:=Tryz.sizeOf604
 v229:=Tryz.zeroValue604 }
open Go.RowKit Go.Proofs.Geo Go.Sort
theorem kx_sorted {w:World} {g n:Nat} {os:Array Obj} {d:Array Int}:KX [g] w (grow (putRow (Value.int .i64) (Sort.ahead w n) g 0 d) os):=by
 refine ⟨rfl,rfl,rfl,?_,?_⟩
 ·simp [putRow,mapBlock,Sort.ahead,grow]
 ·intro k hk hn
  rw [heap_grow_old _ _ (by simpa using hk)]
  simp only [List.mem_singleton] at hn
  simp [putRow,mapBlock,Sort.ahead,Array.getElem?_modify,Ne.symm hn]
theorem sortI_own (B:Nat) (v:Value) (l:List Int) (w:World) (ho:OwnI w B v l) (h0:0<l.length) (hl:l.length≤1000000) :
  Calls Tryz.prog 295 #[v] w fun e w'=>e=.returned (.tuple #[])∧OwnI w' B v (l.mergeSort fun x y=>decide (x≤y))∧KX v.ownBlock.toList w w':=by
 have ho':=ho
 obtain ⟨h1,⟨hv,hn⟩ | ⟨g,cap,cur,hv,hb,hg,hc,hm,hs,ht⟩⟩:=ho
 ·omega
 subst hv
 have hlt:g<w.heap.size:=(Array.getElem?_eq_some_iff.1 hg).1
 have hH:Holds (Value.int .i64) w g 0 l.toArray:=by
  intro j hj
  have hj':j<l.length:=by simpa using hj
  refine ⟨?_,frozen_of_row w g _ _ _ hg⟩
  have h:=World.ownsRow.cells ho' (g:=g) rfl j (.int .i64 l[j]) (by simp [intsV,hj'])
  rw [add_off] at h
  rw [h,getElem!_pos l.toArray j (by simpa using hj')]
  simp
 have h:=Any.slices_Sort_int siLays g 0 cap l w hH hlt (by omega)
 refine Calls.mono h ?_
 rintro e w' ⟨rfl,n,os,rfl⟩
 have hml:(l.mergeSort fun x y=>decide (x≤y)).length=l.length:=List.length_mergeSort _
 refine ⟨rfl,?_,kx_sorted⟩
 have hr:=ownsRow_sortedI (n:=n) (os:=os) hml hb hg hc hm hs
 unfold OwnI intsV
 rw [hml]
 exact hr
end Go.Proofs.YtgliljnbajohhaaGreatDoor
namespace Go.Proofs.YtgliljnbajohhaaGreatDoor
open Go.RowKit Go.Proofs.Top Go.Proofs.Geo
def atL (px py:Int) (l:List Bx):List Int:=((List.range l.length).map fun k:Nat=>(k:Int)).filter fun z=>inP px py (bxOf l z)
theorem sel_sorted {px py:Int} {l:List Bx} {M:List Int} (h:M.Perm ((List.range l.length).map fun k:Nat=>(k:Int))):(selL px py l M).mergeSort (fun x y=>decide (x≤y))=atL px py l:=by
 refine List.Perm.eq_of_pairwise (le:=fun a b=>a≤b) (fun a b _ _ h1 h2=>Int.le_antisymm h1 h2) ?_ ?_ ?_
 ·have h1:=List.pairwise_mergeSort (le:=fun x y:Int=>decide (x≤y)) (fun a b c h1 h2=>by simp at *;omega) (fun a b=>by simp;omega) (selL px py l M)
  exact h1.imp (fun h=>by simpa using h)
 ·unfold atL
  refine List.Pairwise.filter _ ?_
  rw [List.pairwise_map]
  exact (List.pairwise_lt_range).imp (fun h=>by omega)
 ·exact (List.mergeSort_perm _ _).trans (h.filter _)
def TreeIs (tb:Nat) (l:List Bx) (w:World):Prop:=∃ gl go cl co B L nv nn xs,TrS tb gl go l.length cl co B l L nv nn xs w∧Cov l L xs 0 0 l.length∧nn≤1099511627776∧l.length≤co∧l.length≤L.length∧L.length≤1000000∧(L.take l.length).Perm ((List.range l.length).map fun k:Nat=>(k:Int))
theorem TreeIs.kp {tb:Nat} {l:List Bx} {w w':World} (h:TreeIs tb l w) (k:Kp w w'):TreeIs tb l w':=by
 obtain ⟨gl,go,cl,co,B,L,nv,nn,xs,h1,h2⟩:=h
 exact ⟨gl,go,cl,co,B,L,nv,nn,xs,h1.kp k,h2⟩
def TreeIn (b0 tb:Nat) (l:List Bx) (w:World):Prop:=∃ gl go cl co B L nv nn xs,(TrS tb gl go l.length cl co B l L nv nn xs w∧Cov l L xs 0 0 l.length∧nn≤1099511627776∧l.length≤co∧l.length≤L.length∧L.length≤1000000∧(L.take l.length).Perm ((List.range l.length).map fun k:Nat=>(k:Int)))∧b0≤gl∧b0≤tb∧b0≤go∧b0≤B
theorem TreeIn.is {b0 tb:Nat} {l:List Bx} {w:World} (h:TreeIn b0 tb l w):TreeIs tb l w:=by
 obtain ⟨gl,go,cl,co,B,L,nv,nn,xs,h1,_⟩:=h
 exact ⟨gl,go,cl,co,B,L,nv,nn,xs,h1⟩
theorem TreeIn.kept {b0 tb:Nat} {l:List Bx} {w w':World} (h:TreeIn b0 tb l w) (k:∀ b,b0≤b→b<w.heap.size→w'.heap[b]? = w.heap[b]?):TreeIn b0 tb l w':=by
 obtain ⟨gl,go,cl,co,B,L,nv,nn,xs,⟨h1,h2⟩,g1,g2,g3,g4⟩:=h
 refine ⟨gl,go,cl,co,B,L,nv,nn,xs,⟨⟨(k tb g2 (Array.getElem?_eq_some_iff.1 h1.row).1).trans h1.row,?_,?_,?_⟩,h2⟩,g1,g2,g3,g4⟩
 ·intro j x hx
  have hc:=h1.b j x hx
  have kc:∀ {o:Nat} {v:Value},w.cell? ⟨gl,o,none⟩=some v→w'.cell? ⟨gl,o,none⟩=some v:=fun {o v} hv=>(World.cell?_of_block (a:=⟨gl,o,none⟩) (k gl g1 (World.block_lt_of_cell? w _ hv))).trans hv
  exact ⟨kc hc.1,kc hc.2.1,kc hc.2.2.1,kc hc.2.2.2⟩
 ·obtain ⟨cur,c1,c2⟩:=h1.r
  exact ⟨cur,(k go g3 (Array.getElem?_eq_some_iff.1 c1).1).trans c1,c2⟩
 ·obtain ⟨o1,⟨hv,hn⟩ | ⟨g,cap,cur,hv,hb,hg,rest⟩⟩:=h1.own
  ·exact ⟨o1,.inl ⟨hv,hn⟩⟩
  ·exact ⟨o1,.inr ⟨g,cap,cur,hv,hb,(k g (Nat.le_trans g4 hb) (Array.getElem?_eq_some_iff.1 hg).1).trans hg,rest⟩⟩
set_option maxHeartbeats 8000000 in
theorem asks_any (tb pp:Nat) (l:List Bx) (px py:Int) (w:World) (h:TreeIs tb l w) (hn:l.length≤1000) (h0:w.cell? ⟨pp,0,none⟩=some (.int .i64 px)) (h1:w.cell? ⟨pp,1,none⟩=some (.int .i64 py)) :
  Calls Tryz.prog 290 #[.pointer (some ⟨tb,0,none⟩),.func (.func 291) #[] #[.pointer (some ⟨pp,0,none⟩)]] w (OwnEndI w (atL px py l)):=by
 obtain ⟨gl,go,cl,co,B,L,nv,nn,xs,hs,hcv,hnn,hco,hL,hL2,hpm⟩:=h
 have HW:=Lib.hid (walk_any tb gl go l.length cl co B pp nn l L nv xs px py hnn hn hco hL hL2 0 0 l.length hcv w (by omega) hs h0 h1)
 rw [List.drop_zero,show ((0:Nat):Int)=0 from rfl] at HW
 have HPM:Hid ((selL px py l (L.take l.length)).mergeSort (fun x y=>decide (x≤y))=atL px py l):=Lib.hid (sel_sorted hpm)
 have hle:(selL px py l (L.take l.length)).length≤1000:=Nat.le_trans (selL_len _ _ _ _) (by simp;omega)
 generalize selL px py l (L.take l.length)=A at *
 generalize atL px py l=D at *
 clear hs hcv hpm
 unfold OwnEndI at HW
 have HSO:Hid (∀ v (W:World),OwnI W w.heap.size v A→Calls Tryz.prog 295 #[v] W fun e w'=>e=.returned (.tuple #[])∧OwnI w' w.heap.size v D∧KX v.ownBlock.toList W w'):=by
  refine Lib.hid ?_
  intro v W ho
  by_cases hz:0<A.length
  ·have h:=sortI_own w.heap.size v A W ho hz (by omega)
   rw [HPM.out] at h
   exact h
  ·have hA:A=[]:=List.eq_nil_of_length_eq_zero (by omega)
   subst hA
   have hD:D=[]:=by rw [← HPM.out];simp
   subst hD
   obtain ⟨p,c,hv⟩:=ownsRow_slice ho
   subst hv
   have h:=Any.slices_Sort_int_none siLays p c W
   refine Calls.mono h ?_
   rintro e w' ⟨rfl,rfl⟩
   exact ⟨rfl,ho,KX.refl _⟩
 clear HPM
 go_enter Tryz.func290,Tryz.ntmps290
 go_wp2_with (first | (go_at_call 356;refine HW.out.mono ?_;rintro e w1 ⟨v1,rfl,ho1,hk1⟩;have HL1:=Lib.hid (fun b (hb:v1.ownBlock=some b)=>World.ownsRow.lt ho1 b hb)) | (go_at_call 295;refine (HSO.out _ _ ho1).mono ?_;rintro e w2 ⟨rfl,ho2,hk2⟩))
 go_ret
 exact ⟨_,rfl,ho2,KX.after hk1 hk2 (fun b hb=>(HL1.out b (by simpa using hb)).1)⟩
set_option maxHeartbeats 8000000 in
theorem treeAt_any (tb:Nat) (l:List Bx) (px py:Int) (w:World) (h:TreeIs tb l w) (hn:l.length≤1000) :
  Calls Tryz.prog 223 #[.pointer (some ⟨tb,0,none⟩),.agg #[.int .i64 px,.int .i64 py]] w (OwnEndI w (atL px py l)):=by
 have HA:=Lib.hid (fun W (k:Kp w W) h0 h1=>asks_any tb w.heap.size l px py W (h.kp k) hn h0 h1)
 clear h
 unfold OwnEndI at *
 go_enter Tryz.func223,Tryz.ntmps223
 go_wp2_with (go_at_call 290;refine (HA.out _ (kp_alloc (kp_refl _) _) (by simp [go_sem]) (by simp [go_sem])).mono ?_;rintro e w1 ⟨v1,rfl,ho1,hk1⟩)
 go_ret
 exact ⟨_,rfl,ownsRow_mono ho1 (by simp),kp_trans (kp_alloc (kp_refl _) _) hk1⟩
end Go.Proofs.YtgliljnbajohhaaGreatDoor
