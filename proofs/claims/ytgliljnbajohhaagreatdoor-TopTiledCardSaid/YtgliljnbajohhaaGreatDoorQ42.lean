import Derived.Test.YtgliljnbajohhaaGreatDoorQ41
import Derived.Test.YtgliljnbajohhaaGreatDoorQ25
import Derived.Test.YtgliljnbajohhaaGreatDoorQ38
import Derived.Test.YtgliljnbajohhaaGreatDoorQ17
import Derived.RegionTactic
import Derived.BigRegion
set_option linter.unusedVariables false
set_option linter.unusedSimpArgs false
namespace Go.Ex
open Go Go.RowKit Go.Proofs Go.Proofs.YtgliljnbajohhaaGreatDoor Go.Proofs.Geo
set_option maxRecDepth 100000
theorem ib2:ibChk 2=true:=by kernel_rfl
theorem ib3:ibChk 3=true:=by kernel_rfl
theorem ib4:ibChk 4=true:=by kernel_rfl
theorem ib5:ibChk 5=true:=by kernel_rfl
theorem ib7:ibChk 7=true:=by kernel_rfl
theorem ib10:ibChk 10=true:=by kernel_rfl
theorem ib_ok {N:Nat} (h:NOk N):ibChk N=true:=by
 rcases h with rfl | rfl | rfl | rfl | rfl | rfl
 ·exact ib2
 ·exact ib3
 ·exact ib4
 ·exact ib5
 ·exact ib7
 ·exact ib10
theorem live_ok {st:S} {id:Nat} (h:live st id=true):∃ o,st.h.get id=some o:=by
 unfold live at h
 split at h
 ·exact ⟨_,by assumption⟩
 ·cases h
theorem regOk_ok [Val] {st:S} {j:Nat} {a:AV} (h:regOk st j (some a)=true):∃ r p,a=.sl r 0 1 1∧st.h.get r=some (.row [.sl p 0 4 4] 71 1 .yes)∧st.h.get p=some (.row (lRj j) 53 2 .yes):=by
 unfold regOk at h
 split at h
 ·rename_i r heq
  cases heq
  split at h
  ·rename_i p e hr
   simp only [Bool.and_eq_true] at h
   have he:=nbt h.1
   subst he
   exact ⟨_,_,rfl,hr,rowIs_ok h.2⟩
  ·cases h
 ·cases h
def up1 (b:Bx):Bx:=(b.1,b.2.1,b.2.2.1+1,b.2.2.2+1)
def part4 (b:Bx) (k:Nat):Int:=match k with
 | 0=>(b.1:Int)
 | 1=>(b.2.1:Int)
 | 2=>(b.2.2.1:Int)
 | _=>(b.2.2.2:Int)
def ibV (bs:List Bx) (c:Nat):Int:=if c<100 then part4 (bs.getD (c / 4) (0,0,0,0)) (c % 4) else part4 (bs.getD ((c - 100) / 2) (0,0,0,0)) (2+c % 2)+1
@[reducible] def ibVal (N:Nat) (bs:List Bx) (us spl:List Value):Val :=
 ⟨ibV bs,fun j=>us.getD j (.pointer none),fun _=>spl,
 fun Pr w0=>∀ j,j<N→∃ b1 b2 c1 c2 s1 s2,RgAt w0 (us.getD j (.pointer none)) (ibV bs (4 * j)) (ibV bs (4 * j+1)) (ibV bs (4 * j+2)) (ibV bs (4 * j+3)) b1 b2 c1 c2 s1 s2∧Pr b1∧Pr b2,
 fun Pr Pr' w0 w h hp hb j hj=>by
  obtain ⟨b1,b2,c1,c2,s1,s2,h1,h2,h3⟩:=h j hj
  exact ⟨b1,b2,c1,c2,s1,s2,h1.kept (hb _ h2) (hb _ h3),hp _ h2,hp _ h3⟩⟩
theorem ibV_at {bs:List Bx} {j:Nat} {b:Bx} (h:bs[j]? = some b) (hj:j<25):ibV bs (4 * j)=b.1∧ibV bs (4 * j+1)=b.2.1∧ibV bs (4 * j+2)=b.2.2.1∧ibV bs (4 * j+3)=b.2.2.2∧ibV bs (100+2 * j)=b.2.2.1+1∧ibV bs (100+2 * j+1)=b.2.2.2+1:=by
 have hd:bs.getD j (0,0,0,0)=b:=by rw [List.getD_eq_getElem?_getD,h];rfl
 unfold ibV
 refine ⟨?_,?_,?_,?_,?_,?_⟩
 ·rw [if_pos (by omega),show 4 * j / 4=j by omega,show 4 * j % 4=0 by omega,hd];rfl
 ·rw [if_pos (by omega),show (4 * j+1) / 4=j by omega,show (4 * j+1) % 4=1 by omega,hd];rfl
 ·rw [if_pos (by omega),show (4 * j+2) / 4=j by omega,show (4 * j+2) % 4=2 by omega,hd];rfl
 ·rw [if_pos (by omega),show (4 * j+3) / 4=j by omega,show (4 * j+3) % 4=3 by omega,hd];rfl
 ·rw [if_neg (by omega),show (100+2 * j - 100) / 2=j by omega,show 2+(100+2 * j) % 2=2 by omega,hd];rfl
 ·rw [if_neg (by omega),show (100+2 * j+1 - 100) / 2=j by omega,show 2+(100+2 * j+1) % 2=3 by omega,hd];rfl
theorem vrs_flat [Val] {ρ:Env} {β:Type} {f:Nat→List AV} {g:β→List Value}:∀ (ts:List β) (k:Nat),(∀ (j:Nat) (b:β),ts[j]? = some b→VRs ρ (f (k+j)) (g b))→VRs ρ ((List.range' k ts.length).flatMap f) (ts.flatMap g)
 | [],k,_=>.nil
 | b :: ts,k,h=>by
  rw [List.length_cons,List.range'_succ,List.flatMap_cons,List.flatMap_cons]
  exact (h 0 b rfl).app (vrs_flat ts (k+1) fun j c hc=>by
   have:=h (j+1) c (by simpa using hc)
   rwa [show k+(j+1)=k+1+j by omega] at this)
def Built (N:Nat) (bs:List Bx) (w:World) (x:Nat) (w':World):Prop:=∃ tb us oc sc spl gl go gs lc b0,IxAt w' x N us oc sc spl (.pointer (some ⟨tb,0,none⟩)) gl go gs lc∧(∀ j,j<N→Fresh oc sc j) ∧
 (∀ (j:Nat) (b:Bx) (u:Value),bs[j]? = some b→us[j]? = some u→RgO w' u b.1 b.2.1 b.2.2.1 b.2.2.2)∧TreeIn b0 tb (bs.map up1) w'∧w.heap.size≤x∧x<b0∧gl<b0∧go<b0∧gs<b0∧w.heap.size≤go∧w.heap.size≤gs
theorem build_any {N:Nat} (hN:NOk N) (us spl:List Value) (gl lc:Nat) (bs:List Bx) (w:World) (hl:w.heap[gl]? = some (.cells (us++spl).toArray 36 (0,0))) (hul:us.length=N) (hsp:spl.length=lc) (hone:∀ v∈us,v.oneCell'=true) (hbs:bs.length=N)
  (hR:∀ (j:Nat) (b:Bx) (u:Value),bs[j]? = some b→us[j]? = some u→RgO w u b.1 b.2.1 b.2.2.1 b.2.2.2) (hok:∀ b∈bs,BxFit b) :
  Calls Tryz.prog 18 #[.slice (some ⟨gl,0,none⟩) N (N+lc:Nat)] w fun e w'=>∃ x,e=.returned (.tuple #[.pointer (some ⟨x,0,none⟩),.agg #[.int .i64 0,.int .i64 0]])∧Built N bs w x w'∧Kp w w':=by
 have hN20:0<N∧N≤10:=by rcases hN with h | h | h | h | h | h <;> omega
 letI:Val:=ibVal N bs us spl
 have hbx:∀ j,j<N→∃ b,bs[j]? = some b∧BxFit b:=fun j hj=>by
  have h:=List.getElem?_eq_getElem (l:=bs) (i:=j) (by omega)
  exact ⟨_,h,hok _ (List.mem_of_getElem? h)⟩
 have hux:∀ j,j<N→us[j]? = some (us.getD j (.pointer none)):=fun j hj=>by
  rw [List.getD_eq_getElem?_getD,List.getElem?_eq_getElem (by omega)];rfl
 have B:BoxesV N:=by
  refine ⟨fun j hj=>?_,fun j hj=>?_,fun j hj=>?_,fun j hj=>?_,fun j hj=>?_,fun j hj=>?_,fun j hj=>?_,fun j hj=>?_,fun Pr w0 h=>h⟩ <;> obtain ⟨b,h1,f1,f2,f3,f4⟩:=hbx j hj <;> obtain ⟨e0,e1,e2,e3,e4,e5⟩:=ibV_at h1 (by omega)
  ·show ibV bs (4 * j)<ibV bs (4 * j+2);omega
  ·show ibV bs (4 * j+1)<ibV bs (4 * j+3);omega
  ·show -1048576<ibV bs (4 * j)∧ibV bs (4 * j)<1048576;omega
  ·show -1048576<ibV bs (4 * j+1)∧ibV bs (4 * j+1)<1048576;omega
  ·show -1048576<ibV bs (4 * j+2)∧ibV bs (4 * j+2)<1048576;omega
  ·show -1048576<ibV bs (4 * j+3)∧ibV bs (4 * j+3)<1048576;omega
  ·show ibV bs (100+2 * j)=ibV bs (4 * j+2)+1;omega
  ·show ibV bs (100+2 * j+1)=ibV bs (4 * j+3)+1;omega
 have H:HR (fun j=>[(gl,lc)][j]?) (S.ofL (ibSt N)).h.get (S.ofL (ibSt N)).nx w:=by
  refine HR.ofL rfl (by simp [ibSt]) (fun k o hk=>?_) (fun p q o o' g s s' hp hq ep eq=>?_)
  ·rcases k with _ | k
   ·cases hk
    refine ⟨gl,lc,_,rfl,hl,.row (vrs_of (by simp [lyRow,hul]) fun j y v hy hv=>?_) (by omega) (fun y hy=>?_) rfl⟩
    ·have hj:j<N:=by have:=(List.getElem?_eq_some_iff.1 hy).1;simpa [lyRow] using this
     have hy2:(lyRow N)[j]? = some (.ly j):=by unfold lyRow;rw [List.getElem?_map,List.getElem?_range hj];rfl
     rw [hy2] at hy
     cases hy
     have hvv:Val.vv j=v:=by show us.getD j (.pointer none)=v;rw [List.getD_eq_getElem?_getD,hv];rfl
     have:=hone v (List.mem_of_getElem? hv)
     rw [← hvv] at this ⊢
     exact .ly j this
    ·unfold lyRow at hy
     obtain ⟨j,_,rfl⟩:=List.mem_map.1 hy
     rfl
   ·simp [ibSt] at hk
  ·rcases p with _ | p
   ·rcases q with _ | q
    ·rfl
    ·simp [ibSt] at hq
   ·simp [ibSt] at hp
 have hctx:Val.ctx (PrOf (fun j=>[(gl,lc)][j]?) (S.ofL (ibSt N)).h.get w) w:=by
  intro j hj
  obtain ⟨b,h1,_⟩:=hbx j hj
  obtain ⟨e0,e1,e2,e3,_⟩:=ibV_at h1 (by omega)
  obtain ⟨b1,b2,c1,c2,s1,s2,hr⟩:=hR j b _ h1 (hux j hj)
  have hr':=hr
  obtain ⟨r1,r2,r3,r4,r5⟩:=hr'
  have named:∀ q t cs,w.heap[q]? = some (.cells cs t (0,0))→t≠36→PrOf (fun j=>[(gl,lc)][j]?) (S.ofL (ibSt N)).h.get w q:=fun q t cs hq ht=>by
   refine ⟨(Array.getElem?_eq_some_iff.1 hq).1,fun id o s ho hr=>?_⟩
   rcases id with _ | id
   ·simp at hr
    rw [← hr.1,hl] at hq
    simp only [Option.some.injEq,Obj.cells.injEq] at hq
    exact ht hq.2.1.symm
   ·simp at hr
  refine ⟨b1,b2,c1,c2,s1,s2,?_,named _ _ _ r2 (by decide),named _ _ _ r4 (by decide)⟩
  rw [e0,e1,e2,e3]
  exact hr
 have T:TbOk' Tryz.prog (tbC N):=tbOk (orcC N) ⟨fun _ _ _ h=>(by cases h),fun _ _ _ _ _ h=>(by cases h)⟩
 have X:XOk Tryz.prog (tbC N):=xok fun _ _ _ _ _ h=>orcC_ok B h
 have hE:=exec_ok T X 300
 have C:=callX_ok T X hE
 have hk:=ib_ok hN
 unfold ibChk at hk
 split at hk
 ·rename_i F1 st1 cc hA
  split at hk
  ·rename_i F2 st2 hpre
   split at hk
   ·rename_i Bn n cB hx
    simp only [Bool.and_eq_true] at hk
    obtain ⟨hn,hnx,hrow,hk⟩:=hk
    have hn:=nbt hn
    subst hn
    rw [nble,decide_eq_true_eq] at hnx
    replace hrow:=rowIs_ok hrow
    split at hk
    ·rename_i F3 hput
     split at hk
     ·rename_i F4 st4 hpost
      split at hk
      ·rename_i F5 st5 hrest
       split at hk
       ·rename_i Xn hd hres
        have hts:(bs.map up1).length=n:=by rw [List.length_map,hbs]
        refine calls_of_code (c:=bodyOf Tryz.f18) Tryz.func18 (by kernel_rfl) (by decide) (args:=[.sl 0 0 n n]) (show (1:Nat)≤70 by decide) (ρ:=fun j=>[(gl,lc)][j]?) (vs:=[.slice (some ⟨gl,0,none⟩) n (n+lc:Nat)]) (.cons (.sl (by rfl)) .nil) fun a hF=>?_
        refine wp_upto T hE C hA ib_reg ib_call hpre hx hF (H.wr hctx) fun ρ2 a2 w2 e2 n2 h2 W2=>?_
        refine ⟨fun v w3=>∃ tb,v=.tuple #[.pointer (some ⟨tb,0,none⟩),.int .i64 0]∧TreeIn w2.heap.size tb (bs.map up1) w3∧Kp w2 w3,fun vs hvs=>?_,?_⟩
        ·cases hvs with
         | cons hv1 hv2 =>
          cases hv2
          obtain ⟨gB,sB,csB,dsB,r1,r2,r3,r4,r5,r6⟩:=W2.row hrow
          cases hv1 with
          | @sl _ _ _ _ g s hg =>
           rw [r1] at hg
           cases hg
           have hbr:VRs ρ2 (boxRow n) (flatB (bs.map up1)):=by
            unfold boxRow flatB
            rw [List.range_eq_range',← hts]
            refine vrs_flat (bs.map up1) 0 fun j b hb=>?_
            rw [List.getElem?_map] at hb
            obtain ⟨b',hb',rfl⟩:=Option.map_eq_some_iff.1 hb
            have hj:j<n:=by rw [← hbs];exact (List.getElem?_eq_some_iff.1 hb').1
            obtain ⟨f0,f1,_,_,f4,f5⟩:=ibV_at hb' (by omega)
            have v0:VR ρ2 (.lx .i64 (4 * (0+j))) (.int .i64 (up1 b').1):=by
             have:=VR.lx (ρ:=ρ2) .i64 (4 * (0+j));rw [show Val.val (4 * (0+j))=((up1 b').1:Int) by rw [Nat.zero_add];exact f0] at this;exact this
            have v1:VR ρ2 (.lx .i64 (4 * (0+j)+1)) (.int .i64 (up1 b').2.1):=by
             have:=VR.lx (ρ:=ρ2) .i64 (4 * (0+j)+1);rw [show Val.val (4 * (0+j)+1)=((up1 b').2.1:Int) by rw [Nat.zero_add];exact f1] at this;exact this
            have v2:VR ρ2 (.lx .i64 (100+2 * (0+j))) (.int .i64 (up1 b').2.2.1):=by
             have:=VR.lx (ρ:=ρ2) .i64 (100+2 * (0+j));rw [show Val.val (100+2 * (0+j))=((up1 b').2.2.1:Int) by rw [Nat.zero_add];exact f4.trans (show ((b'.2.2.1:Int)+1)=((b'.2.2.1+1:Nat):Int) by omega)] at this;exact this
            have v3:VR ρ2 (.lx .i64 (100+2 * (0+j)+1)) (.int .i64 (up1 b').2.2.2):=by
             have:=VR.lx (ρ:=ρ2) .i64 (100+2 * (0+j)+1);rw [show Val.val (100+2 * (0+j)+1)=((up1 b').2.2.2:Int) by rw [Nat.zero_add];exact f5.trans (show ((b'.2.2.2:Int)+1)=((b'.2.2.2+1:Nat):Int) by omega)] at this;exact this
            exact .cons v0 (.cons v1 (.cons v2 (.cons v3 .nil)))
           have hcs:csB=flatB (bs.map up1):=vrs_fn (by
            simp only [boxRow,List.all_eq_true,List.mem_flatMap]
            rintro y ⟨j,_,hy⟩
            simp at hy
            rcases hy with rfl | rfl | rfl | rfl <;> rfl) r3 hbr
           have ht:=treeBuild_any ⟨gB,0,none⟩ (cB+sB) (bs.map up1) w2 (fun j u hj=>by rw [add_cell,Nat.zero_add];exact cell_app r2 (by rw [hcs];exact hj)) (by omega) (by omega) (fun y hy=>by
            obtain ⟨b,hb,rfl⟩:=List.mem_map.1 hy
            have:=hok b hb
            obtain ⟨q1,q2,q3,q4⟩:=this
            unfold BxOk up1
            simp only
            omega)
           rw [hts] at ht
           refine calls_S Tryz.func58 (by kernel_rfl) rfl ht ?_
           rintro e w' ⟨tb,rfl,t1,t2,t3⟩
           exact ⟨_,rfl,tb,rfl,t1,t2⟩
        ·rintro v w3 ⟨tb,rfl,ht,hkp⟩
         have le:Le ρ2 (ρ2.add st2.nx (tb,0)):=Le.add _ (W2.fresh _ (Nat.le_refl _))
         have H3:=((W2.kept hkp).hr).nm (s:=st2) (by omega) tb 0
         obtain ⟨hF3,_,_⟩:=put_ok (h2.mono le) hput (VR.tup (xs:=[.pointer (some ⟨tb,0,none⟩),.int .i64 0]) (.cons (.p (s:=0) (Env.add_same _ _ _)) (.cons (.i _ _) .nil)))
         have old:∀ id o,st2.nm.h.get id=some o→id<st2.nx∧(ρ2.add st2.nx (tb,0)) id=ρ2 id:=fun id o ho=>by
          have h1:id<st2.nx:=W2.id_lt (o:=o) ho
          exact ⟨h1,Env.add_other _ _ (by omega)⟩
         have prot:∀ b,PrOf (fun j=>[(gl,lc)][j]?) (S.ofL (ibSt n)).h.get w b→PrOf (ρ2.add st2.nx (tb,0)) st2.nm.h.get w3 b∧w3.heap[b]? = w.heap[b]?:=fun b hb=>by
          have hlt:b<w2.heap.size:=Nat.lt_of_lt_of_le hb.1 W2.size
          refine ⟨⟨Nat.lt_of_lt_of_le hlt hkp.size,fun id o s ho hr=>?_⟩,(hkp.block b hlt).trans (W2.pr b hb)⟩
          rw [(old id o ho).2] at hr
          exact (W2.live_lt (show st2.h.get id=some o from ho) hr).2 hb
         have hctx3:=Val.up _ _ _ _ hctx (fun b hb=>(prot b hb).1) (fun b hb=>(prot b hb).2)
         refine runOps_ok T C _ hpost hF3 (H3.wr hctx3) fun a4 w4 ⟨ρ4,e4,n4,h4,W4⟩=>?_
         show ibRest.wp _ _ a4 w4
         refine (hE _ _ _ _ _ _ hrest _ w3 ρ4 a4 w4 _ h4 W4 fun a5 w5 ⟨ρ5,e5,n5,h5,W5⟩=>?_).1
         refine end_ok T h5 W5 hd hres fun c hc=>?_
         have hc':VR ρ5 (.tup [.p Xn 0,.agg [.i .i64 0,.i .i64 0]]) c:=hc
         unfold endB at hk
         split at hk
         ·rename_i L nL cL tN O n1 c1 sI n5' c2 eX hXr
          split at hk
          ·rename_i lL eL hLr
           simp only [Bool.and_eq_true] at hk
           obtain ⟨k1,k2,k3,k4,k5,k6,k7,k8,k9,k10,k11,k12,k13,k14,k15,k16,k17,k18⟩:=hk
           have k1:=nbt k1;have k2:=nbt k2;have k3:=nbt k3;have k4:=nbt k4;have k5:=nbt k5;have k6:=nbt k6;have k7:=nbt k7;have k8:=nbt k8;have k9:=nbt k9;have k10:=nbt k10
           rw [k1,k2,k3,k4,k5,k6,k7,k8] at hXr
           rw [k9] at hLr
           replace k11:=rowIs_ok k11
           replace k12:=rowIs_ok k12
           replace k13:=rowIs_ok k13
           obtain ⟨gx,csx,x1,x2,x3,x4⟩:=row_no W5 hXr
           obtain ⟨gO,csO,o1,o2,o3,o4⟩:=row_no W5 k11
           obtain ⟨gS,csS,s1,s2,s3,s4⟩:=row_no W5 k12
           obtain ⟨gL,sL,csL,dsL,l1,l2,l3,l4,l5,l6⟩:=W5.row hLr
           obtain ⟨g0,sp0,cs0,ds0,z1,z2,z3,z4,z5,z6⟩:=W5.row k13
           have n4':st2.nx+1≤st4.nx:=n4
           have ext5:∀ id,id<st2.nx→ρ5 id=ρ2 id:=fun id hid=>by
            rw [e5 id (by omega),e4 id (show id<st2.nx+1 by omega),Env.add_other _ _ (by omega)]
           have hT:ρ5 st2.nx=some (tb,0):=by rw [e5 _ (by omega),e4 _ (show st2.nx<st2.nx+1 by omega),Env.add_same]
           have hcsx:csx=[.bool true,.slice (some ⟨gL,0,none⟩) n (n+sL:Nat),.pointer (some ⟨tb,0,none⟩),.slice (some ⟨gO,0,none⟩) n (n+0:Nat),.slice (some ⟨gS,0,none⟩) n (n+0:Nat)] :=
            sure_fn (by rfl) x3 (.cons (.b _) (.cons (.sl l1) (.cons (.p hT) (.cons (.sl o1) (.cons (.sl s1) .nil)))))
           subst hcsx
           have n2':1≤st2.nx:=n2
           have hz0:ρ5 0=some (gl,lc):=by rw [ext5 0 (by omega),e2 0 (show 0<1 by omega)];rfl
           rw [hz0] at z1
           cases z1
           have hds:ds0=spl:=z6
           have hcs:cs0=us:=by
            have h0:VRs ρ5 (lyRow n) us:=vrs_of (by simp [lyRow,hul]) fun j y v hy hv=>by
             have hj:j<n:=by have:=(List.getElem?_eq_some_iff.1 hy).1;simpa [lyRow] using this
             have hy2:(lyRow n)[j]? = some (.ly j):=by unfold lyRow;rw [List.getElem?_map,List.getElem?_range hj];rfl
             rw [hy2] at hy
             cases hy
             have hvv:Val.vv j=v:=by show us.getD j (.pointer none)=v;rw [List.getD_eq_getElem?_getD,hv];rfl
             have:=hone v (List.mem_of_getElem? hv)
             rw [← hvv] at this ⊢
             exact .ly j this
            refine sure_fn ?_ z3 h0
            simp only [lyRow,List.all_map,List.all_eq_true,Function.comp]
            intro j _;rfl
           rw [hcs,hds] at z2
           have lv:∀ {id g s:Nat},live st2 id=true→ρ5 id=some (g,s)→g<w2.heap.size∧(g<w.heap.size→g=gl):=fun {id g s} h1 h2=>by
            obtain ⟨o,ho⟩:=live_ok h1
            have hid:=W2.id_lt ho
            rw [ext5 id hid] at h2
            obtain ⟨q1,q2⟩:=W2.live_lt ho h2
            refine ⟨q1,fun hlt=>Classical.byContradiction fun hne=>q2 ⟨hlt,fun i o s' ho hr=>?_⟩⟩
            rcases i with _ | i
            ·simp at hr;exact hne hr.1.symm
            ·simp at hr
           have tyne:∀ {g:Nat} {cs:Array Value} {t:Nat},w5.heap[g]? = some (.cells cs t (0,0))→t≠36→g≠gl:=fun {g cs t} h1 h2 e=>by
            rw [e,z2] at h1
            simp only [Option.some.injEq,Obj.cells.injEq] at h1
            exact h2 h1.2.1.symm
           have kp5:Kp w w5:=⟨W5.os.trans (hkp.os.trans W2.os),W5.tape.trans (hkp.tape.trans W2.tape),W5.output.trans (hkp.output.trans W2.output),Nat.le_trans W2.size (Nat.le_trans hkp.size W5.size),fun q hq=>by
            by_cases c:q=gl
            ·subst c;rw [z2,hl]
            ·have hp:PrOf (fun j=>[(gl,lc)][j]?) (S.ofL (ibSt n)).h.get w q:=⟨hq,fun i o s' ho hr=>by
              rcases i with _ | i
              ·simp at hr;exact c hr.1.symm
              ·simp at hr⟩
             obtain ⟨p1,p2⟩:=prot q hp
             exact (W5.pr q p1).trans p2⟩
           cases hc' with
           | tup hll =>
            cases hll with
            | cons p1 p2 =>
             cases p2 with
             | cons p3 p4 =>
              cases p4
              cases p1 with
              | @p _ _ g s hg =>
               rw [x1] at hg
               cases hg
               cases p3 with
               | agg p5 =>
                cases p5 with
                | cons p6 p7 =>
                 cases p7 with
                 | cons p8 p9 =>
                  cases p9
                  cases p6
                  cases p8
                  have hgxn:=tyne x2 (by decide)
                  refine ⟨gx,rfl,⟨tb,csL,csO,csS,dsL,gL,gO,gS,sL,w2.heap.size,⟨x2,l2,?_,by omega,o2,?_,s2,?_,l3.ones l5,o4,s4,rfl⟩,fun j hj=>?_,fun j b u hb hu=>?_,?_,?_,(lv k15 x1).1,(lv k16 l1).1,(lv k17 o1).1,(lv k18 s1).1,(Nat.lt_or_ge gO w.heap.size).elim (fun h=>absurd ((lv k17 o1).2 h) (tyne o2 (by decide))) id,(Nat.lt_or_ge gS w.heap.size).elim (fun h=>absurd ((lv k18 s1).2 h) (tyne s2 (by decide))) id⟩,kp5⟩
                  ·rw [← l3.len,k10]
                  ·rw [← o3.len];simp [zRow]
                  ·rw [← s3.len];simp
                  ·have zr:∀ q,q<3 * n→(zRow n)[q]? = some (zOnce q):=fun q hq=>by unfold zRow;rw [List.getElem?_map,List.getElem?_range hq];rfl
                   refine ⟨?_,?_,?_,?_⟩
                   ·obtain ⟨v,v1,v2⟩:=o3.get (zr (3 * j) (by omega))
                    rw [show zOnce (3 * j)=.i .u32 0 by unfold zOnce;rw [show 3 * j % 3=0 by omega];rfl] at v2
                    cases v2;exact v1
                   ·obtain ⟨v,v1,v2⟩:=o3.get (zr (3 * j+1) (by omega))
                    rw [show zOnce (3 * j+1)=.i .i32 0 by unfold zOnce;rw [show (3 * j+1) % 3=1 by omega];rfl] at v2
                    cases v2;exact v1
                   ·obtain ⟨v,v1,v2⟩:=o3.get (zr (3 * j+2) (by omega))
                    rw [show zOnce (3 * j+2)=.i .u32 0 by unfold zOnce;rw [show (3 * j+2) % 3=2 by omega];rfl] at v2
                    cases v2;exact v1
                   ·obtain ⟨v,v1,v2⟩:=s3.get (i:=j) (a:=.p0) (by rw [List.getElem?_replicate,if_pos hj])
                    cases v2;exact v1
                  ·have hj:j<n:=by rw [← hbs];exact (List.getElem?_eq_some_iff.1 hb).1
                   simp only [List.all_eq_true,List.mem_range] at k14
                   have hreg:=k14 j hj
                   have hlj:j<lL.length:=by omega
                   rw [List.getElem?_eq_getElem hlj] at hreg
                   obtain ⟨r,pp,r1,r2,r3⟩:=regOk_ok hreg
                   obtain ⟨v,v1,v2⟩:=l3.get (List.getElem?_eq_getElem hlj)
                   rw [hu] at v1
                   cases v1
                   rw [r1] at v2
                   obtain ⟨gr,sr,csr,dsr,y1,y2,y3,y4,y5,y6⟩:=W5.row r2
                   obtain ⟨gp,sp,csp,dsp,t1,t2,t3,t4,t5,t6⟩:=W5.row r3
                   cases v2 with
                   | @sl _ _ _ _ g s hg =>
                    rw [y1] at hg
                    cases hg
                    have q1:csr=[.slice (some ⟨gp,0,none⟩) 4 (4+sp:Nat)]:=sure_fn (by rfl) y3 (.cons (.sl t1) .nil)
                    have q2:csp=flat (ringJ j):=sure_fn (by rfl) t3 (lRj_vr ρ5 j)
                    subst q1 q2
                    obtain ⟨f0,f1,f2,f3,_⟩:=ibV_at hb (by omega)
                    have hrj:ringJ j=ring4 b.1 b.2.1 b.2.2.1 b.2.2.2:=by
                     show ring4 (ibV bs (4 * j)) (ibV bs (4 * j+1)) (ibV bs (4 * j+2)) (ibV bs (4 * j+3))=_
                     rw [f0,f1,f2,f3]
                    rw [hrj] at t2
                    exact ⟨gr,gp,sr,sp,dsr,dsp,rfl,y2,by omega,t2,t4⟩
                  ·refine ht.kept fun q hq hlt=>W5.pr q ⟨hlt,fun i o s' ho hr=>?_⟩
                   rw [(old i o ho).2] at hr
                   have:=(W2.live_lt (show st2.h.get i=some o from ho) hr).1
                   omega
                  ·rcases Nat.lt_or_ge gx w.heap.size with h | h
                   ·exact absurd ((lv k15 x1).2 h) hgxn
                   ·exact h
          ·cases hk
         ·cases hk
       ·cases hk
      ·cases hk
     ·cases hk
    ·cases hk
   ·cases hk
  ·cases hk
 ·cases hk
end Go.Ex
namespace Go.Proofs.YtgliljnbajohhaaGreatDoor
open Go.RowKit Go.Proofs.Top Go.Proofs.Geo Go.Ex
theorem bxOf_up {bs:List Bx} {k:Nat} (h:k<bs.length):bxOf (bs.map up1) (k:Int)=up1 (bxOf bs (k:Int)):=by
 unfold bxOf
 simp only [Int.toNat_natCast,List.getD_eq_getElem?_getD,List.getElem?_map,List.getElem?_eq_getElem h]
 rfl
theorem inP_of {px py:Int} {b:Bx} (h:inH px py b=true):inP px py (up1 b)=true:=by
 unfold inH at h
 unfold inP up1 inBox
 simp only [Bool.and_eq_true,decide_eq_true_eq] at h ⊢
 omega
theorem hitL_eq (px py:Int) (bs:List Bx):hitL px py (bs.map up1) bs=((List.range bs.length).filter fun k=>inH px py (bxOf bs ((k:Nat):Int))).map Int.ofNat:=by
 unfold hitL atL
 rw [List.filter_filter,List.length_map,List.filter_map]
 congr 1
 refine List.filter_congr fun k hk=>?_
 have hk:=List.mem_range.1 hk
 simp only [Function.comp]
 rw [bxOf_up hk]
 cases hc:inH px py (bxOf bs (k:Int)) with
 | false=>rfl
 | true=>rw [inP_of hc];rfl
theorem fr_none {p:Nat→Bool} {K:Nat} (h:∀ k,k<K→p k=false):(List.range K).filter p=[]:=by
 rw [List.filter_eq_nil_iff]
 intro k hk
 rw [h k (List.mem_range.1 hk)]
 exact Bool.false_ne_true
theorem fr_one {p:Nat→Bool} {k0:Nat}:∀ {K:Nat},k0<K→p k0=true→(∀ k,k<K→p k=true→k=k0)→(List.range K).filter p=[k0]
 | 0,h,_,_=>by omega
 | K+1,h,h1,h2=>by
  rw [List.range_succ,List.filter_append]
  by_cases c:k0=K
  ·subst c
   rw [fr_none fun k hk=>by
    cases hc:p k with
    | false=>rfl
    | true=>have:=h2 k (by omega) hc;omega]
   simp [h1]
  ·rw [fr_one (by omega) h1 fun k hk=>h2 k (by omega)]
   have:p K=false:=by
    cases hc:p K with
    | false=>rfl
    | true=>exact absurd (h2 K (by omega) hc).symm c
   simp [this]
theorem cum_at (l:List Int):∀ {m:Nat} {x:Nat},x<cumW l m→∃ i,i<m∧cumW l i≤x∧x<cumW l (i+1)
 | 0,x,h=>by simp [cumW] at h
 | m+1,x,h=>by
  rcases Nat.lt_or_ge x (cumW l m) with c | c
  ·obtain ⟨i,h1,h2⟩:=cum_at l c
   exact ⟨i,by omega,h2⟩
  ·exact ⟨m,by omega,c,h⟩
theorem cum_one (l:List Int) {i j x:Nat} (h1:cumW l i≤x) (h2:x<cumW l (i+1)) (h3:cumW l j≤x) (h4:x<cumW l (j+1)):i=j:=by
 rcases Nat.lt_trichotomy i j with c | c | c
 ·rcases Nat.lt_or_ge (i+1) j with d | d
  ·have:=cumW_lt l d;omega
  ·have:j=i+1:=by omega
   subst this;omega
 ·exact c
 ·rcases Nat.lt_or_ge (j+1) i with d | d
  ·have:=cumW_lt l d;omega
  ·have:i=j+1:=by omega
   subst this;omega
def allB (us vs:List Int) (m n:Nat):List Bx:=(0,0,cumW us m,cumW vs n) :: tileL us vs m (n * m)
theorem allB_len (us vs:List Int) (m n:Nat):(allB us vs m n).length=n * m+1:=by unfold allB tileL;simp
theorem allB_zero (us vs:List Int) (m n:Nat):bxOf (allB us vs m n) ((0:Nat):Int)=(0,0,cumW us m,cumW vs n):=rfl
theorem allB_succ (us vs:List Int) (m n:Nat) {k:Nat} (h:k<n * m):bxOf (allB us vs m n) ((k+1:Nat):Int)=tileB us vs (k % m) (k / m):=by
 unfold bxOf allB tileL
 rw [Int.toNat_natCast,List.getD_cons_succ,List.getD_eq_getElem?_getD,List.getElem?_map,List.getElem?_range h]
 rfl
theorem inH_iff {x y:Int} {b:Bx}:inH x y b=true↔((b.1:Int)≤x∧x<b.2.2.1)∧((b.2.1:Int)≤y∧y<b.2.2.2):=by
 unfold inH
 simp only [Bool.and_eq_true,decide_eq_true_eq]
theorem cum_mono (l:List Int) {a b:Nat} (h:a≤b):cumW l a≤cumW l b:=by
 rcases Nat.lt_or_ge a b with c | c
 ·exact Nat.le_of_lt (cumW_lt l c)
 ·have:a=b:=by omega
  subst this;exact Nat.le_refl _
theorem hit_out (us vs:List Int) {m n:Nat} (hm:0<m) {x y:Int} (h:¬ (0≤x∧x<cumW us m∧0≤y∧y<cumW vs n)):hitL x y ((allB us vs m n).map up1) (allB us vs m n)=([]:List Nat).map Int.ofNat:=by
 rw [hitL_eq,fr_none]
 intro k hk
 rw [allB_len] at hk
 cases hc:inH x y (bxOf (allB us vs m n) ((k:Nat):Int)) with
 | false=>rfl
 | true =>
  exfalso
  rcases k with _ | k
  ·rw [allB_zero,inH_iff] at hc
   simp only at hc
   omega
  ·have hk:k<n * m:=by omega
   rw [allB_succ us vs m n hk,inH_iff] at hc
   unfold tileB at hc
   simp only at hc
   have h1:=cum_mono us (show k % m+1≤m from Nat.mod_lt _ hm)
   have h2:=cum_mono vs (show k / m+1≤n from Nat.div_lt_of_lt_mul (by rwa [Nat.mul_comm]))
   omega
theorem hit_in (us vs:List Int) {m n:Nat} (hm:0<m) {x y:Int} (h:0≤x∧x<cumW us m∧0≤y∧y<cumW vs n):∃ c,1≤c∧c<n * m+1∧hitL x y ((allB us vs m n).map up1) (allB us vs m n)=[0,c].map Int.ofNat:=by
 obtain ⟨i,i1,i2,i3⟩:=cum_at us (m:=m) (x:=x.toNat) (by omega)
 obtain ⟨j,j1,j2,j3⟩:=cum_at vs (m:=n) (x:=y.toNat) (by omega)
 have hq:j * m+i<n * m:=by
  have:(j+1) * m≤n * m:=Nat.mul_le_mul_right m (by omega)
  rw [Nat.succ_mul] at this
  omega
 have hmod:(j * m+i) % m=i∧(j * m+i) / m=j:=by
  rw [Nat.mul_comm]
  exact ⟨by rw [Nat.mul_add_mod,Nat.mod_eq_of_lt i1],by rw [Nat.mul_add_div hm,Nat.div_eq_of_lt i1,Nat.add_zero]⟩
 refine ⟨j * m+i+1,by omega,by omega,?_⟩
 rw [hitL_eq,allB_len,List.range_succ_eq_map,List.filter_cons_of_pos (by rw [allB_zero,inH_iff];simp only;omega),List.filter_map,fr_one hq (by
   simp only [Function.comp]
   rw [allB_succ us vs m n hq,inH_iff,hmod.1,hmod.2]
   unfold tileB
   simp only
   omega) fun k hk hc=>by
  simp only [Function.comp] at hc
  rw [allB_succ us vs m n hk,inH_iff] at hc
  unfold tileB at hc
  simp only at hc
  have e1:=cum_one us (i:=k % m) (j:=i) (x:=x.toNat) (by omega) (by omega) i2 i3
  have e2:=cum_one vs (i:=k / m) (j:=j) (x:=y.toNat) (by omega) (by omega) j2 j3
  have:=Nat.div_add_mod k m
  rw [e1,e2,Nat.mul_comm] at this
  omega]
 rfl
end Go.Proofs.YtgliljnbajohhaaGreatDoor
namespace Go.Ex
open Go Go.RowKit Go.Proofs Go.Proofs.YtgliljnbajohhaaGreatDoor Go.Proofs.Geo
set_option maxRecDepth 100000
noncomputable def cmT:XI→XI→Option Cm
 | .x 2,.x 2=>some .eq
 | .x a,.n i=>bif Nat.ble a 1 then (bif ile 1048576 i then some .lt else bif ile i (-1048576) then some .gt else none)
   else bif Nat.beq a 2 then (bif ieq i 0 then some .ge else bif ieq i 1099511627775 then some .le else none) else none
 | _,_=>none
noncomputable def ariT:BinOp→IntKind→XI→XI→Option XI
 | .sub,.i64,.x 2,.x 2=>some (.n 0)
 | _,_,_,_=>none
def ratI (id:Nat):Nat:=bif Nat.beq id 1 then 40000 else 10000
def jRow (N:Nat):List AV:=(List.range N).flatMap fun j=>[.i .i64 (Int.ofNat (1+j)),.i .i64 (bif Nat.beq j 0 then 1 else 2),.i .i64 (bif Nat.beq j 0 then 0 else 1),.i .i64 1,.ly j]
def kRow (N:Nat):List AV:=[.b true,.sl 0 0 N N,.ly 100,.s0,.s0,.s0,.s0,.p 5 0,.p0]
def xRowT (N:Nat):List AV:=[.b true,.ly 102,.ly 103,.sl 2 0 N N,.sl 3 0 N N]
def txL (N:Nat):List (Option AObj):=[some (.row (jRow N) 39 5 (.told 0)),some (.row (kRow N) 86 9 (.told 1)),some (.row (zRow N) 391 3 (.told 1)),some (.row (List.replicate N .p0) 281 1 (.told 1)),some (.row [.i .i64 2,.lx .i64 2] 96 2 (.told 2)),some (.row (xRowT N) 156 5 (.told 1))]
noncomputable def ixHere (N:Nat) (st:S):Bool:=rowIs st 2 (zRow N) 391 3 (.told 1) && rowIs st 3 (List.replicate N .p0) 281 1 (.told 1) && rowIs st 5 (xRowT N) 156 5 (.told 1) && Nat.ble 6 st.nx && Nat.ble st.nx 900000
noncomputable def S.drop2 (st:S):S:=⟨(st.h.set 30 2 none).set 30 3 none,st.nx⟩
noncomputable def orcT (N:Nat) (L:List Nat) (k:Nat) (args:List AV) (st:S):Option (AV×S) :=
 bif Nat.beq k 62 then
  match args with
  | [.p 5 0,.agg [.lx .i64 0,.lx .i64 1]] =>
   bif ixHere N st then
    match L with
    | []=>some (.s0,st.drop2)
    | j :: L'=>some (.sl st.nx 0 (j :: L').length (j :: L').length,st.drop2.put1 (.row ((j :: L').map fun j=>.i .i64 (Int.ofNat j)) 3 1 .yes))
   else none
  | _=>none
 else bif Nat.beq k 67 then
  match args with
  | [.agg [.sl 0 0 n m,.ly 100,.s0,.s0,.s0,.s0],.i .i64 (.ofNat id),.i .i64 10]=>bif Nat.beq n N && Nat.beq m N && Nat.ble 1 id && Nat.ble id N then some (.tup [.i .i64 (Int.ofNat (ratI id)),.b true],st) else none
  | _=>none
 else bif Nat.beq k 159 then
  match args with
  | [.lx .i64 2,.i .i64 (.ofNat r)]=>bif Nat.beq r 40000 then some (.tup [.lx .i64 3,.lx .i64 5],st) else bif Nat.beq r 10000 then some (.tup [.lx .i64 4,.lx .i64 6],st) else none
  | _=>none
 else none
noncomputable def tbT (N:Nat) (L:List Nat):Tb:=⟨tiT,ftT,xtT,orcT N L,cmT,ariT⟩
def oV:AV:=.agg [.i .i64 0,.i .i64 10,.lx .i64 0,.lx .i64 1,.sl 4 0 1 1]
end Go.Ex
namespace Go.Proofs.YtgliljnbajohhaaGreatDoor
open Go.RowKit Go.Proofs.Top Go.Proofs.Geo
set_option maxHeartbeats 4000000 in
theorem bclo_any (gl gd b off cap:Nat) (day:Int) (hd:0≤day) (w:World) (h0:w.cell? ⟨gl,0,none⟩=some (.slice (some ⟨b,off,none⟩) 1 cap)) (h1:w.cell? ⟨gd,0,none⟩=some (.int .i64 day)) (h2:w.cell? ⟨b,off,none⟩=some (.int .i64 0)) :
  Calls Tryz.prog 311 #[.int .i64 0,.pointer (some ⟨gl,0,none⟩),.pointer (some ⟨gd,0,none⟩)] w fun e w'=>e=.returned (.bool false)∧Kp w w':=by
 have l0:=cell_lt h0
 have l1:=cell_lt h1
 have l2:=cell_lt h2
 have z1:¬ day<0:=by omega
 go_enter Tryz.func311,Tryz.ntmps311
 go_upto_region 1 with fail
 go_region
 go_wp2_with fail
 go_ret
 exact ⟨rfl,(by repeat (first | exact kp_refl _ | apply kp_alloc | apply kp_drew | apply kp_drewN))⟩
set_option maxHeartbeats 4000000 in
theorem search_one (gl gd b off cap:Nat) (day:Int) (hd:0≤day) (w:World) (h0:w.cell? ⟨gl,0,none⟩=some (.slice (some ⟨b,off,none⟩) 1 cap)) (h1:w.cell? ⟨gd,0,none⟩=some (.int .i64 day)) (h2:w.cell? ⟨b,off,none⟩=some (.int .i64 0)) :
  Calls Tryz.prog 310 #[.int .i64 1,.func (.func 311) #[] #[.pointer (some ⟨gl,0,none⟩),.pointer (some ⟨gd,0,none⟩)]] w fun e w'=>e=.returned (.int .i64 1)∧Kp w w':=by
 have HC:=Lib.hid (fun w' (k:Kp w w')=>bclo_any gl gd b off cap day hd w' (kp_cell k h0) (kp_cell k h1) (kp_cell k h2))
 clear h0 h1 h2
 go_enter Tryz.func310,Tryz.ntmps310
 go_wp2_with fail
 go_loopw [5,6] (fun i j wr=>(i=.int .i64 0∨i=.int .i64 1)∧j=.int .i64 1∧Kp w wr) (fun i _ _=>1 - (intOf i).toNat)
 case atStart=>exact ⟨.inl rfl,rfl,kp_refl _⟩
 case round =>
  obtain ⟨hi,rfl,hkp⟩:=hrel
  rcases hi with rfl | rfl
  ·go_wp2_with (go_at_call 311;refine (HC.out _ hkp).mono ?_;rintro e w1 ⟨rfl,hk⟩)
   exact ⟨⟨.inr rfl,rfl,kp_trans hkp hk⟩,by simp [intOf]⟩
  ·go_wp2_with fail
   go_ret
   exact ⟨rfl,hkp⟩
set_option maxHeartbeats 4000000 in
theorem behind_one (b off cap:Nat) (day:Int) (hd:0≤day) (w:World) (h2:w.cell? ⟨b,off,none⟩=some (.int .i64 0)) :
  Calls Tryz.prog 234 #[.slice (some ⟨b,off,none⟩) 1 cap,.int .i64 day] w fun e w'=>e=.returned (.int .i64 1)∧Kp w w':=by
 have HC:=Lib.hid (fun w' (k:Kp w w') h0 h1=>search_one w.heap.size (w.heap.size+1) b off cap day hd w' h0 h1 (kp_cell k h2))
 have l2:=cell_lt h2
 clear h2
 go_enter Tryz.func234,Tryz.ntmps234
 go_wp2_with (go_at_call 310;refine (HC.out _ (kp_alloc (kp_alloc (kp_refl _) _) _) (by simp [go_sem]) (by simp [go_sem])).mono ?_;rintro e w1 ⟨rfl,hk⟩)
 go_ret
 exact ⟨rfl,kp_trans (kp_alloc (kp_alloc (kp_refl _) _) _) hk⟩
set_option maxHeartbeats 4000000 in
theorem dAt_one (v:Nat) (u:Value) (day:Int) (hd:0≤day) (hd2:day≤3652058) (w:World) (hu:SlR J_pt 2 w u [(0,v)]) :
  Calls Tryz.prog 153 #[u,.int .i64 day] w fun e w'=>e=.returned (.tuple #[.int .i64 v,.bool true])∧Kp w w':=by
 have HD:=Lib.hid (fun w' (k:Kp w w')=>dcheck_one v u w' (hu.kp stays_pt k))
 obtain ⟨b,off,cap,rfl,hc,hJ⟩:=hu
 obtain ⟨d0,d1⟩:=hJ 0 (0,v) rfl
 have c0:w.cell? ⟨b,off,none⟩=some (.int .i64 0):=by simpa using d0
 have c1:w.cell? ⟨b,off+1,none⟩=some (.int .i64 v):=by simpa using d1
 have HB:=Lib.hid (fun w' (k:Kp w w')=>behind_one b off cap day hd w' (kp_cell k c0))
 have HV:=Lib.hid (fun w=>dvalid_any day hd hd2 w)
 clear hJ d0 d1 c0
 simp only [List.length_cons,List.length_nil,Nat.zero_add] at *
 go_enter Tryz.func153,Tryz.ntmps153
 go_wp2_with (first | (go_at_call 190;refine (HD.out _ (kp_refl _)).mono ?_;rintro e w1 ⟨rfl,hk1⟩) | (go_at_call 233;refine (HV.out _).mono ?_;rintro e w2 ⟨rfl,hk2⟩;have K2:=kp_trans hk1 hk2) | (go_at_call 234;refine (HB.out _ K2).mono ?_;rintro e w3 ⟨rfl,hk3⟩;have K3:=kp_trans K2 hk3;have e1:=kp_cell K3 c1;have le:=cell_lt e1))
 go_ret2
 exact ⟨rfl,K3⟩
set_option maxHeartbeats 8000000 in
set_option maxRecDepth 20000 in
theorem crate_at (js:List JU) (rs:List RT) (hok:CfgIs js rs) (pj:Option Addr) (nj cj:Nat) (ur:Value) (w:World) (hr:SlR J_rat 2 w ur rs) (i:Nat) (r:RT) (hri:rs[i]? = some r) (v:Nat) (hv:r.ds=[(0,v)]) (day:Int) (hd:0≤day) (hd2:day≤3652058) :
  Calls Tryz.prog 67 #[.agg #[.slice pj nj cj,ur,.slice none 0 0,.slice none 0 0,.slice none 0 0,.slice none 0 0],.int .i64 r.id,.int .i64 day] w fun e w'=>e=.returned (.tuple #[.int .i64 v,.bool true])∧Kp w w':=by
 have hlen:=hok.rlen
 have HINC:=Lib.hid hok.rinc
 obtain ⟨bq,oq,cq,rfl,hcq,hR⟩:=hr
 have HR:=Lib.hid hR
 obtain ⟨nr,hnr⟩:∃ n,rs.length=n:=⟨_,rfl⟩
 have HNR:=Lib.hid hnr
 have hil:i<nr:=by rw [← hnr];exact (List.getElem?_eq_some_iff.1 hri).1
 obtain ⟨ir,hir⟩:∃ x,r.id=x:=⟨_,rfl⟩
 have HIR:=Lib.hid hir
 have HRI:=Lib.hid hri;have HV:=Lib.hid hv
 rw [hnr] at hcq hlen ⊢
 rw [hir]
 clear hR hnr hok hir hri hv
 go_enter Tryz.func67,Tryz.ntmps67
 go_upto_region 1 with fail
 obtain ⟨W,hW⟩:∃ W,w.alloc (.cells #[.slice pj nj cj,.slice (some ⟨bq,oq,none⟩) nr cq,.slice none 0 0,.slice none 0 0,.slice none 0 0,.slice none 0 0] 31)=W:=⟨_,rfl⟩
 obtain ⟨t,ht⟩:∃ t,w.heap.size=t:=⟨_,rfl⟩
 have KW:Kp w W:=by rw [← hW];exact kp_alloc (kp_refl _) _
 have q0:W.heap[t]? = some (.cells #[.slice pj nj cj,.slice (some ⟨bq,oq,none⟩) nr cq,.slice none 0 0,.slice none 0 0,.slice none 0 0,.slice none 0 0] 31 (0,0)):=by rw [← hW,← ht];exact heap_alloc_new _ _
 simp only [hW,ht]
 clear hW ht
 have x1:W.cell? ⟨t,1,none⟩=some (.slice (some ⟨bq,oq,none⟩) nr cq):=by rw [cell_of_row W t _ _ _ _ q0];rfl
 have lx:=cell_lt x1
 clear q0
 go_wp2_with fail
 go_loopw [13] (fun q wr=>∃ k:Nat,k≤i∧q=.int .i64 k∧Kp W wr) (fun q _=>nr - (intOf q).toNat)
 case atStart=>exact ⟨0,by omega,rfl,kp_refl _⟩
 case round =>
  obtain ⟨k,hk,rfl,hkp⟩:=hrel
  obtain ⟨a,ha⟩:∃ a,rs[k]? = some a:=⟨_,List.getElem?_eq_getElem (by rw [HNR.out];omega)⟩
  have KA:=kp_trans KW hkp
  obtain ⟨y0,u,y1,hu⟩:=stays_rat _ _ _ _ _ KA (HR.out k a ha)
  have lb:=cell_lt y0
  have c1:(0:Int)≤(k:Int):=by omega
  have c3:(k:Int)<(nr:Int):=by omega
  have wi:IntKind.i64.wrap ((k:Int)+1)=(k:Int)+1:=IntWalk.i64_in _ (by omega)
  have HK:=Lib.hid hkp
  by_cases he:k=i
  ·subst he
   have har:a=r:=by have:=ha.symm.trans HRI.out;simpa using this
   subst har
   rw [HV.out] at hu
   have HA:=Lib.hid (fun w' (k2:Kp wr w')=>dAt_one v u day hd hd2 w' (hu.kp stays_pt k2))
   obtain ⟨bb,o2,c2,rfl,_,_⟩:=hu
   rw [HIR.out] at y0
   clear hkp ha x1 lx
   go_wp2_with (go_at_call 153;refine (HA.out _ (by (repeat (first | exact kp_refl _ | apply kp_alloc | apply kp_drew | apply kp_drewN)))).mono ?_;rintro e w2 ⟨rfl,hk2⟩;have HK2:Hid (Kp wr w2):=Lib.hid (kp_trans (by (repeat (first | exact kp_refl _ | apply kp_alloc | apply kp_drew | apply kp_drewN))) hk2);clear hk2)
   go_ret2
   exact ⟨rfl,kp_trans KW (kp_trans HK.out HK2.out)⟩
  ·have hlt:=HINC.out k i a r ha HRI.out (by omega)
   rw [HIR.out] at hlt
   obtain ⟨bb,o2,c2,rfl,_,_⟩:=hu
   generalize a.id=ia at *
   have z1:((ia:Int) == (ir:Int))=false:=by simp;omega
   have z2:¬ (ia:Int)=(ir:Int):=by omega
   have z3:¬ ia=ir:=by omega
   generalize a.ds.length=q at *
   clear hkp ha x1 lx
   go_wp2_with fail
   exact ⟨⟨k+1,by omega,by go_num,kp_trans HK.out (by (repeat (first | exact kp_refl _ | apply kp_alloc | apply kp_drew | apply kp_drewN)))⟩,by simp [intOf];omega⟩
end Go.Proofs.YtgliljnbajohhaaGreatDoor
