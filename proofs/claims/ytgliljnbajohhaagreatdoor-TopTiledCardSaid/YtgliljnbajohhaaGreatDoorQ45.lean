import Derived.Test.YtgliljnbajohhaaGreatDoorQ44
set_option linter.unusedVariables false
set_option linter.unusedSimpArgs false
namespace Go.Ex
open Go Go.RowKit Go.Proofs Go.Proofs.YtgliljnbajohhaaGreatDoor Go.Proofs.Geo
set_option maxRecDepth 100000
theorem flatMap_get {α β:Type} {f:α→List β} {s:Nat} (hf:∀ a,(f a).length=s):∀ {l:List α} {k:Nat} {a:α},l[k]? = some a→∀ {i:Nat} {b:β},(f a)[i]? = some b→(l.flatMap f)[k * s+i]? = some b
 | [],k,a,h,_,_,_=>by simp at h
 | x :: l,0,a,h,i,b,hb=>by
  simp only [List.getElem?_cons_zero,Option.some.injEq] at h
  subst h
  rw [List.flatMap_cons,Nat.zero_mul,Nat.zero_add,List.getElem?_append_left (List.getElem?_eq_some_iff.1 hb).1]
  exact hb
 | x :: l,k+1,a,h,i,b,hb=>by
  rw [List.getElem?_cons_succ] at h
  rw [List.flatMap_cons,List.getElem?_append_right (by rw [hf,Nat.succ_mul];omega),hf,show (k+1) * s+i - s=k * s+i by rw [Nat.succ_mul];omega]
  exact flatMap_get hf h hb
theorem rgO_slR {w:World} {u:Value} {b:Bx} (h:RgO w u b.1 b.2.1 b.2.2.1 b.2.2.2):SlR J_ring 1 w u [ringN b]:=by
 obtain ⟨b1,b2,c1,c2,s1,s2,rfl,h2,h3,h4,h5⟩:=h
 refine ⟨b1,0,1+c1,rfl,by simp,fun k a ha=>?_⟩
 rcases k with _ | k
 ·cases ha
  refine ⟨_,cell_app h2 (by rfl),b2,0,4+c2,rfl,by simp [ringN],fun i p hp=>?_⟩
  have c:∀ (j:Nat) (x:Value),(flat (ring4 b.1 b.2.1 b.2.2.1 b.2.2.2))[j]? = some x→w.cell? ⟨b2,j,none⟩=some x:=fun j x hx=>cell_app h4 hx
  rcases i with _ | _ | _ | _ | i
  ·cases hp;exact ⟨c 0 _ rfl,c 1 _ rfl⟩
  ·cases hp;exact ⟨c 2 _ rfl,c 3 _ rfl⟩
  ·cases hp;exact ⟨c 4 _ rfl,c 5 _ rfl⟩
  ·cases hp;exact ⟨c 6 _ rfl,c 7 _ rfl⟩
  ·simp [ringN] at hp
 ·simp at ha
section
variable {Pr:Nat→Prop} {w0 w:World} {ρ:Env} {st:S} {m n K J R c:Nat} {v:Value}
theorem jur_rd [Val] (W:WR Pr w0 ρ st.h.get st.nx w) (h:jOk K st J=true) (us vs:List Int) (hK:n * m=K) (h3:Val.val 3=(cumW us m:Nat)) (h4:Val.val 4=(cumW vs n:Nat)) (hR:∀ (k:Nat) (b:Bx),(tileL us vs m (n * m))[k]? = some b→RgO w (Val.vv k) b.1 b.2.1 b.2.2.1 b.2.2.2)
  (hv:VR ρ (.sl J 0 (Nat.succ K) c) v) (hc:Nat.succ K≤c):SlR J_jur 5 w v (jsB (allB us vs m n)):=by
 unfold jOk at h
 split at h
 ·rename_i l e g hrow
  split at h
  ·rename_i p _ _ _ hl4
   simp only [Bool.and_eq_true] at h
   obtain ⟨a1,a2,a3⟩:=h
   have a1:=nbt a1
   have a2:=AV.beqs_eq _ _ a2
   subst a1 a2
   obtain ⟨gJ,sJ,cs,ds,r1,r2,r3,r4,r5,r6⟩:=W.row hrow
   cases hv with
   | @sl _ _ _ _ g' s' hg =>
    rw [r1] at hg
    cases hg
    have hlen:(jsB (allB us vs m n)).length=Nat.succ K:=by rw [jsB_len,allB_len,hK]
    refine ⟨gJ,0,c+sJ,by rw [hlen],by rw [hlen];omega,fun k j hj=>?_⟩
    obtain ⟨hk,rfl⟩:=jsB_at hj
    rw [allB_len,hK] at hk
    have cell:∀ (i:Nat) (a:AV),(jCell p k)[i]? = some a→∃ x,w.cell? ⟨gJ,0+k * 5+i,none⟩=some x∧VR ρ a x:=fun i a ha=>by
     have e:(jRowQ K p)[k * 5+i]? = some a:=flatMap_get (s:=5) (fun a=>rfl) (List.getElem?_range hk) ha
     obtain ⟨x,hx,hvx⟩:=r3.get e
     exact ⟨x,by rw [Nat.zero_add];exact cell_app r2 hx,hvx⟩
    obtain ⟨x0,c0,v0⟩:=cell 0 _ rfl
    obtain ⟨x1,c1,v1⟩:=cell 1 _ rfl
    obtain ⟨x2,c2,v2⟩:=cell 2 _ rfl
    obtain ⟨x3,c3,v3⟩:=cell 3 _ rfl
    obtain ⟨x4,c4,v4⟩:=cell 4 _ rfl
    cases v0
    cases v3
    rcases k with _ | k
    ·cases v1
     cases v2
     refine ⟨c0,c1,c2,c3,x4,c4,rgO_slR (b:=(0,0,cumW us m,cumW vs n)) ?_⟩
     unfold boxAt at a3
     split at a3
     ·rename_i r e' hp
      simp only [Bool.and_eq_true] at a3
      have b1:=nbt a3.1
      have b2:=rowIs_ok a3.2
      subst b1
      obtain ⟨gp,csp,p1,p2,p3,p4⟩:=row_no W hp
      obtain ⟨gr,csr,q1,q2,q3,q4⟩:=row_no W b2
      have e1:csp=[.slice (some ⟨gr,0,none⟩) 4 4]:=sure_fn (by rfl) p3 (.cons (.sl (s:=0) q1) .nil)
      have e2:csr=flat (ring4 0 0 (cumW us m:Nat) (cumW vs n:Nat)):=by
       rw [← h3,← h4]
       exact sure_fn (l:=stRing) (by rfl) q3 (.cons (.i _ _) (.cons (.i _ _) (.cons (.lx _ 3) (.cons (.i _ _) (.cons (.lx _ 3) (.cons (.lx _ 4) (.cons (.i _ _) (.cons (.lx _ 4) .nil))))))))
      subst e1 e2
      cases v4 with
      | @sl _ _ _ _ g s hg =>
       rw [p1] at hg
       cases hg
       exact ⟨gp,gr,0,0,[],[],rfl,by rw [List.append_nil];exact p2,rfl,by rw [List.append_nil];exact q2,rfl⟩
     ·cases a3
    ·have hkt:(tileL us vs m (n * m))[k]? = some ((allB us vs m n).getD (k+1) (0,0,0,0)):=by
      unfold allB
      rw [List.getD_cons_succ,List.getD_eq_getElem?_getD,List.getElem?_eq_getElem (by unfold tileL;simp;omega)]
      rfl
     cases v1
     cases v2
     cases v4
     exact ⟨c0,c1,c2,c3,_,c4,rgO_slR (hR k _ hkt)⟩
  ·cases h
 ·cases h
theorem rat_rd [Val] (W:WR Pr w0 ρ st.h.get st.nx w) (h:rOk K st R=true) (hv:VR ρ (.sl R 0 (Nat.succ K) c) v) (hc:Nat.succ K≤c):SlR J_rat 2 w v (rsB (Nat.succ K)):=by
 unfold rOk at h
 split at h
 ·rename_i l e g hrow
  simp only [Bool.and_eq_true,List.all_eq_true,List.mem_range] at h
  obtain ⟨a1,a2⟩:=h
  have a1:=nbt a1
  subst a1
  obtain ⟨gR,sR,cs,ds,r1,r2,r3,r4,r5,r6⟩:=W.row hrow
  cases hv with
  | @sl _ _ _ _ g' s' hg =>
   rw [r1] at hg
   cases hg
   have hlen:(rsB (Nat.succ K)).length=Nat.succ K:=by simp [rsB]
   refine ⟨gR,0,c+sR,by rw [hlen],by rw [hlen];omega,fun k r hr=>?_⟩
   obtain ⟨hk,rfl⟩:=rsB_mem hr
   have h3:=a2 k hk
   split at h3
   ·rename_i a d e1 e2
    simp only [Bool.and_eq_true] at h3
    have ha:=ieq_ok h3.1
    have hd:=rowIs_ok h3.2
    subst ha
    obtain ⟨x,hx,vx⟩:=r3.get e1
    obtain ⟨y,hy,vy⟩:=r3.get e2
    obtain ⟨gd,csd,d1,d2,d3,d4⟩:=row_no W hd
    have e3:csd=[.int .i64 0,.int .i64 (Int.ofNat (ratI (1+k)))]:=sure_fn (by rfl) d3 (.cons (.i _ _) (.cons (.i _ _) .nil))
    subst e3
    cases vx
    cases vy with
    | @sl _ _ _ _ g s hg =>
     rw [d1] at hg
     cases hg
     have d2':w.heap[gd]? = some (.cells ([Value.int .i64 0,.int .i64 (Int.ofNat (ratI (1+k)))]++[]).toArray 41 (0,0)):=by rw [List.append_nil];exact d2
     refine ⟨by rw [Nat.zero_add];exact cell_app r2 hx,_,by rw [Nat.zero_add];exact cell_app r2 hy,gd,0,1+0,rfl,by simp,fun i p hp=>?_⟩
     rcases i with _ | i
     ·cases hp
      exact ⟨cell_app d2' (j:=0) rfl,cell_app d2' (j:=1) rfl⟩
     ·simp at hp
   ·cases h3
 ·cases h
end
theorem wp_conv {P:Program} {c c':Code} {Q:Exit→Act→World→Prop} {a:Act} {w:World} (e:c=c') (h:c.wp P Q a w):c'.wp P Q a w:=e ▸ h
theorem frm_e [Val] {ρ:Env} {n:Nat} {a:Act} (h:a.tmps.size=n) (hn:n≤100000) (hd:a.defers=[]):FRm ρ ⟨.e,n,[]⟩ a :=
 ⟨h,hn,fun u v hu=>(by change (T.e:Ex.T AV).get u=some v at hu;rw [T.get_e] at hu;cases hu),(by rw [hd];exact .nil)⟩
theorem frm_set [Val] {ρ:Env} {t:Ex.T AV} {n u:Nat} {d:List (Nat×List AV)} {a:Act} {v:AV} {c:Value} (h:FRm ρ ⟨t,n,d⟩ a) (hu:u<100000) (hc:a.tmps[u]? = some c) (hv:VR ρ v c):FRm ρ ⟨t.set 20 u (some v),n,d⟩ a :=
 ⟨h.size,h.le,fun i x hx=>by
  change (T.set 20 t u (some v)).get i=some x at hx
  rw [T.get_set 20 (some v) t 20 u i (by simp;omega) (Nat.le_refl _)] at hx
  by_cases e:i=u
  ·subst e
   rw [if_pos rfl] at hx
   cases hx
   exact ⟨c,hc,hv⟩
  ·rw [if_neg e] at hx
   exact h.tm i x hx,h.df⟩
theorem HR.bare [Val] {ρ:Env} {h:Nat→Option AObj} {n:Nat} {w:World} (H:HR ρ h n w) (w':World):HR ρ (bare n).h.get (bare n).nx w' :=
 ⟨H.sm,H.fresh,fun id o ho=>(by change (T.e:Ex.T AObj).get id=some o at ho;rw [T.get_e] at ho;cases ho),fun i j oi oj g s s' hi=>(by change (T.e:Ex.T AObj).get i=some oi at hi;rw [T.get_e] at hi;cases hi)⟩
theorem pr_bare [Val] {ρ:Env} {n b:Nat} {w:World} (hb:b<w.heap.size):PrOf ρ (bare n).h.get w b :=
 ⟨hb,fun id o s ho=>(by change (T.e:Ex.T AObj).get id=some o at ho;rw [T.get_e] at ho;cases ho)⟩
theorem agg_sure [Val] {ρ:Env} {l:List AV} (h:l.all AV.sure=true) {u v:Value} (h1:VR ρ (.agg l) u) (h2:VR ρ (.agg l) v):u=v:=by
 cases h1 with
 | agg p=>cases h2 with
  | agg q=>rw [sure_fn h p q]
theorem q_ex (x y W H:Int):∃ q,q≤4∧QOk q x y W H:=by
 unfold QOk
 by_cases c0:x<0
 ·exact ⟨0,by omega,by omega⟩
 by_cases c1:y<0
 ·exact ⟨1,by omega,by omega⟩
 by_cases c2:W≤x
 ·exact ⟨2,by omega,by omega⟩
 by_cases c3:H≤y
 ·exact ⟨3,by omega,by omega⟩
 ·exact ⟨4,by omega,by omega⟩
theorem tpSt_4 (n:Nat):tpSt 4 n=(bare n).put1 (.row lnRow 59 6 .yes):=rfl
theorem tpAns_4 (n:Nat):tpAns 4 n=.tup [.sl n 0 2 2,.i .i64 0]:=rfl
theorem bare_none {n id:Nat} {o:AObj} (h:(bare n).h.get id=some o):False:=by
 change (T.e:Ex.T AObj).get id=some o at h
 rw [T.get_e] at h
 cases h
theorem put1_only {s:S} (hs:∀ (id:Nat) (o:AObj),s.h.get id=some o→False) (hn:s.nx<1000100) {id:Nat} {o o':AObj} (h:(s.put1 o).h.get id=some o'):id=s.nx:=by
 have h':(s.h.set 30 s.nx (some o)).get id=some o':=h
 rw [set_get _ _ hn] at h'
 by_cases ci:id=s.nx
 ·exact ci
 ·rw [if_neg ci] at h'
  exact (hs _ _ h').elim
theorem ln_vr [Val] (ρ:Env) {am:Int} {c:Nat} (h2:Val.val 2=am) (h5:Val.val 5=(taxR am 40000).1) (h6:Val.val 6=(taxR am 10000).1) (h7:Val.val 7=Int.ofNat (Nat.succ c)):VRs ρ lnRow (linesV am c):=by
 unfold linesV
 rw [← h2,← h7] at *
 rw [← h5,← h6]
 exact .cons (.i _ _) (.cons (.i _ _) (.cons (.lx _ 2) (.cons (.i _ _) (.cons (.i _ _) (.cons (.lx _ 5) (.cons (.i _ _) (.cons (.lx _ 7) (.cons (.lx _ 2) (.cons (.i _ _) (.cons (.i _ _) (.cons (.lx _ 6) .nil)))))))))))
def tpV (x y am W H t1 t2 c:Int) (k:Nat):Int:=match k with
 | 0=>x
 | 1=>y
 | 2=>am
 | 3=>W
 | 4=>H
 | 5=>t1
 | 6=>t2
 | _=>c
@[reducible] def tpVal (x y am W H t1 t2 c:Int) (xs sp:List Value):Val:=⟨tpV x y am W H t1 t2 c,fun j=>xs.getD j (.pointer none),fun _=>sp,fun _ _=>True,fun _ _ _ _ h _ _=>h⟩
theorem bx_fit (us vs:List Int) {m n:Nat} (hm:1≤m∧m≤3) (hn:1≤n∧n≤3):∀ b∈allB us vs m n,BxFit b:=fun b hb=>by
 have one:∀ {i i' j j':Nat},i<i'→j<j'→i'≤3→j'≤3→BxFit (cumW us i,cumW vs j,cumW us i',cumW vs j'):=fun {i i' j j'} h1 h2 h3 h4=>by
  have a1:=cumW_lt us h1
  have a2:=cumW_lt vs h2
  have a3:=cumW_le us i'
  have a4:=cumW_le vs j'
  exact ⟨a1,a2,by show cumW us i'<1048576;omega,by show cumW vs j'<1048576;omega⟩
 unfold allB at hb
 rcases List.mem_cons.1 hb with rfl | hb
 ·exact one (i:=0) (j:=0) (by omega) (by omega) hm.2 hn.2
 ·unfold tileL at hb
  obtain ⟨k,hk,rfl⟩:=List.mem_map.1 hb
  have hk:=List.mem_range.1 hk
  have h1:=Nat.mod_lt k (show 0<m by omega)
  have h2:k / m<n:=Nat.div_lt_of_lt_mul (by rwa [Nat.mul_comm])
  exact one (by omega) (by omega) (by omega) (by omega)
theorem hit_any (us vs:List Int) {m n q:Nat} (hm:0<m) {x y:Int} (hq4:q≤4) (hq:QOk q x y (cumW us m:Nat) (cumW vs n:Nat)) :
  ∃ L c,(q=4→L=[0,c]∧1≤c∧c<n * m+1)∧(q≠4→L=[])∧hitL x y ((allB us vs m n).map up1) (allB us vs m n)=L.map Int.ofNat:=by
 obtain ⟨q0,q1,q2,q3,q4,q5,q6,q7⟩:=hq
 by_cases c:q=4
 ·obtain ⟨c',h1,h2,h3⟩:=hit_in us vs (m:=m) (n:=n) hm (x:=x) (y:=y) ⟨q1 (by omega),q5 (by omega),q3 (by omega),q7 (by omega)⟩
  exact ⟨[0,c'],c',fun _=>⟨rfl,h1,h2⟩,fun h=>absurd c h,h3⟩
 ·refine ⟨[],0,fun h=>absurd h c,fun _=>rfl,hit_out us vs hm ?_⟩
  intro ⟨a1,a2,a3,a4⟩
  have:q=0∨q=1∨q=2∨q=3:=by omega
  rcases this with rfl | rfl | rfl | rfl
  ·have:=q0 rfl;omega
  ·have:=q2 rfl;omega
  ·have:=q4 rfl;omega
  ·have:=q6 rfl;omega
set_option maxHeartbeats 4000000 in
theorem tail_any (us vs:List Int) {m n q g lc s0:Nat} {x y am:Int} {act:Act} {wr wb:World} {xs sp:List Value} (hm:1≤m∧m≤3) (hn:1≤n∧n≤3) (hx:-1000≤x∧x≤1000) (hy:-1000≤y∧y≤1000) (ha:0≤am∧am≤1099511627775)
  (hc:wr.heap[s0]? = some (.cells #[.slice none 0 0,.slice none 0 0,.slice none 0 0,.slice none 0 0,.slice none 0 0,.slice none 0 0] 31 (0,0)))
  (hg:wr.heap[g]? = some (.cells (xs++sp).toArray 36 (0,0))) (hxl:xs.length=n * m) (hsp:sp.length=lc)
  (hR:∀ (k:Nat) (b:Bx) (u:Value),(tileL us vs m (n * m))[k]? = some b→xs[k]? = some u→RgO wr u b.1 b.2.1 b.2.2.1 b.2.2.2)
  (hq4:q≤4) (hq:QOk q x y (cumW us m:Nat) (cumW vs n:Nat))
  (t2:act.tmps[2]? = some (.int .i64 x)) (t3:act.tmps[3]? = some (.int .i64 y)) (t4:act.tmps[4]? = some (.int .i64 am)) (t11:act.tmps[11]? = some (.bool true)) (t12:act.tmps[12]? = some (.pointer (some ⟨s0,0,none⟩)))
  (t13:act.tmps[13]? = some (.int .i64 (cumW us m:Nat))) (t14:act.tmps[14]? = some (.int .i64 (cumW vs n:Nat))) (t15:act.tmps[15]? = some (.slice (some ⟨g,0,none⟩) (n * m) (n * m+lc:Nat)))
  (hsz:act.tmps.size=229) (hdf:act.defers=[]) (kb:Kp wb wr) (b1:wb.heap.size≤s0) (b2:wb.heap.size≤g) :
  tpHead.wp Tryz.prog (Exit.then (tpTail.wp Tryz.prog (bodyPost Tryz.prog Tryz.f3 fun e w'=>e=.returned (.bool true)∧Kp wb w')) (bodyPost Tryz.prog Tryz.f3 fun e w'=>e=.returned (.bool true)∧Kp wb w')) act wr:=by
 have hK:KOk (n * m):=by
  have h1:m=1∨m=2∨m=3:=by omega
  have h2:n=1∨n=2∨n=3:=by omega
  unfold KOk
  rcases h1 with rfl | rfl | rfl <;> rcases h2 with rfl | rfl | rfl <;> simp
 have nk:NOk (n * m+1):=by unfold NOk;unfold KOk at hK;omega
 obtain ⟨L,c,hL1,hL2,hhit⟩:=hit_any us vs (m:=m) (n:=n) (by omega) hq4 hq
 have hLL:L=[]∨∃ c,1≤c∧c<n * m+1∧L=[0,c]:=by
  by_cases e:q=4
  ·obtain ⟨h1,h2,h3⟩:=hL1 e;exact .inr ⟨c,h2,h3,h1⟩
  ·exact .inl (hL2 e)
 have htl:(tileL us vs m (n * m)).length=n * m:=by unfold tileL;simp
 have hxr:∀ (k:Nat) (b:Bx),(tileL us vs m (n * m))[k]? = some b→RgO wr (xs.getD k (.pointer none)) b.1 b.2.1 b.2.2.1 b.2.2.2:=fun k b hb=>by
  have hk:k<xs.length:=by rw [hxl,← htl];exact (List.getElem?_eq_some_iff.1 hb).1
  have e:xs[k]? = some (xs.getD k (.pointer none)):=by rw [List.getD_eq_getElem?_getD,List.getElem?_eq_getElem hk];rfl
  exact hR k b _ hb e
 have hone:∀ (k:Nat) (v:Value),xs[k]? = some v→v.oneCell'=true:=fun k v hv=>by
  have hk:k<(tileL us vs m (n * m)).length:=by rw [htl,← hxl];exact (List.getElem?_eq_some_iff.1 hv).1
  obtain ⟨_,_,_,_,_,_,hru⟩:=hR k _ v (List.getElem?_eq_getElem hk) hv
  rw [hru.1];rfl
 have hbl:(allB us vs m n).length=n * m+1:=allB_len us vs m n
 have hjl:(jsB (allB us vs m n)).length=n * m+1:=by rw [jsB_len,hbl]
 have hN10:n * m+1≤10:=by unfold NOk at nk;omega
 have hfit:=bx_fit us vs hm hn
 have hcfg:CfgIs (jsB (allB us vs m n)) (rsB (n * m+1)):=by
  have:=cfgB_is (bs:=allB us vs m n) (by omega) (by omega) hfit
  rwa [hbl] at this
 letI:Val:=tpVal x y am (cumW us m:Nat) (cumW vs n:Nat) (taxR am 40000).1 (taxR am 10000).1 (Int.ofNat (Nat.succ c)) xs sp
 have Tq:TbOk' Tryz.prog (tbQ q):=tbOk _ (letQ hq)
 have X:XOk Tryz.prog (tbQ q):=xok fun _ _ _ _ _ h=>by cases h
 have hE:=exec_ok Tq X 400
 have C:=callX_ok Tq X hE
 have hne:g≠s0:=fun e=>by
  rw [e,hc] at hg
  simp only [Option.some.injEq,Obj.cells.injEq] at hg
  exact absurd hg.2.1 (by decide)
 have H:HR (fun j=>[(g,lc),(s0,0)][j]?) (S.ofL (tpL (n * m))).h.get (S.ofL (tpL (n * m))).nx wr:=by
  refine HR.ofL rfl (by simp [tpL]) (fun k o hk=>?_) (fun p r o o' g' s s' hp hr ep er=>?_)
  ·rcases k with _ | _ | k
   ·cases hk
    refine ⟨g,lc,_,rfl,hg,.row (vrs_of (by simp [lyRow,hxl]) fun j z v hz hv=>?_) (by omega) (fun z hz=>?_) rfl⟩
    ·have hj:j<n * m:=by have:=(List.getElem?_eq_some_iff.1 hz).1;simpa [lyRow] using this
     have hz2:(lyRow (n * m))[j]? = some (.ly j):=by unfold lyRow;rw [List.getElem?_map,List.getElem?_range hj];rfl
     rw [hz2] at hz
     cases hz
     have hvv:Val.vv j=v:=by show xs.getD j (.pointer none)=v;rw [List.getD_eq_getElem?_getD,hv];rfl
     have:=hone j v hv
     rw [← hvv] at this ⊢
     exact .ly j this
    ·unfold lyRow at hz
     obtain ⟨j,_,rfl⟩:=List.mem_map.1 hz
     rfl
   ·cases hk
    refine ⟨s0,0,_,rfl,hc,OR.row (cs:=[.slice none 0 0,.slice none 0 0,.slice none 0 0,.slice none 0 0,.slice none 0 0,.slice none 0 0]) (ds:=[]) (.cons .s0 (.cons .s0 (.cons .s0 (.cons .s0 (.cons .s0 (.cons .s0 .nil)))))) rfl (by intro z hz;simp [cfgRow] at hz;subst hz;rfl) rfl⟩
   ·simp [tpL] at hk
  ·rcases p with _ | _ | p <;> rcases r with _ | _ | r <;> first
    | rfl
    | (simp [tpL] at hp;done)
    | (simp [tpL] at hr;done)
    | (cases ep;cases er;exact absurd rfl hne)
 have hF:FRm (fun j=>[(g,lc),(s0,0)][j]?) (tpF (n * m)) act :=
  frm_set (frm_set (frm_set (frm_set (frm_set (frm_set (frm_set (frm_set (frm_e hsz (by decide) hdf) (by decide) t15 (.sl (s:=lc) rfl)) (by decide) t14 (.lx _ 4)) (by decide) t13 (.lx _ 3)) (by decide) t12 (.p (s:=0) rfl)) (by decide) t11 (.b _)) (by decide) t4 (.lx _ 2)) (by decide) t3 (.lx _ 1)) (by decide) t2 (.lx _ 0)
 have hk:=tp_ok hq4 hK
 unfold tpChk at hk
 split at hk
 rotate_left
 ·cases hk
 rename_i F0 st0 hA0
 refine (hE _ _ _ _ _ _ hA0 _ wr _ act wr _ hF (H.wr trivial) fun a0 w0 ⟨ρ0,e0,n0,h0,W0⟩=>?_).1
 show tpTail.wp _ _ a0 w0
 unfold tpE1 at hk
 split at hk
 rotate_left
 ·cases hk
 rename_i F1 st1 cc hA
 split at hk
 rotate_left
 ·cases hk
 rename_i F2 st2 hpre
 split at hk
 rotate_left
 ·cases hk
 rename_i J nJ cJ R nR cR hx2
 simp only [Bool.and_eq_true] at hk
 obtain ⟨k1,k2,k3,k4,k5,k6,k7,hk⟩:=hk
 have k1:=nbt k1
 have k2:=nbt k2
 subst k1 k2
 rw [nble,decide_eq_true_eq] at k3 k4 k7
 refine wp_upto Tq hE C hA tp_reg tp_call hpre hx2 h0 W0 fun ρ2 a2 w2 e2 n2 h2 W2=>?_
 have pr0:∀ b,b<wb.heap.size→w2.heap[b]? = wb.heap[b]?:=fun b hb=>(W2.pr b ⟨Nat.lt_of_lt_of_le hb kb.size,fun id o s ho hr=>by
  rcases id with _ | _ | id
  ·simp at hr;omega
  ·simp at hr;omega
  ·simp at hr⟩).trans (kb.block b hb)
 have hRg2:∀ (k:Nat) (b:Bx),(tileL us vs m (n * m))[k]? = some b→RgO w2 (Val.vv k) b.1 b.2.1 b.2.2.1 b.2.2.2:=fun k b hb=>by
  obtain ⟨p1,p2,d1,d2,u1,u2,r⟩:=hxr k b hb
  obtain ⟨_,r2,_,r4,_⟩:=id r
  have named:∀ (z t:Nat) (cs:Array Value),wr.heap[z]? = some (.cells cs t (0,0))→t≠36→t≠31→w2.heap[z]? = wr.heap[z]?:=fun z t cs hz ht1 ht2=>W2.pr z ⟨(Array.getElem?_eq_some_iff.1 hz).1,fun id o s ho hr=>by
   rcases id with _ | _ | id
   ·simp at hr
    rw [← hr.1,hg] at hz
    simp only [Option.some.injEq,Obj.cells.injEq] at hz
    exact ht1 hz.2.1.symm
   ·simp at hr
    rw [← hr.1,hc] at hz
    simp only [Option.some.injEq,Obj.cells.injEq] at hz
    exact ht2 hz.2.1.symm
   ·simp at hr⟩
  exact ⟨p1,p2,d1,d2,u1,u2,r.kept (named _ _ _ r2 (by decide) (by decide)) (named _ _ _ r4 (by decide) (by decide))⟩
 refine ⟨fun v w3=>∃ cx,v=.tuple #[.pointer (some ⟨cx,0,none⟩),.int .i64 0]∧NewOk (jsB (allB us vs m n)) (rsB (n * m+1)) (allB us vs m n) w2 cx w3,fun vl hvl=>?_,?_⟩
 ·cases hvl with
  | cons p1 p2 =>
   cases p2
   cases p1 with
   | agg p3=>cases p3 with
    | cons a1 a2=>cases a2 with
     | cons a3 a4=>cases a4 with
      | cons a5 a6=>cases a6 with
       | cons a7 a8=>cases a8 with
        | cons a9 b1=>cases b1 with
         | cons b2 b3 =>
          cases b3;cases a5;cases a7;cases a9;cases b2
          refine calls_S Tryz.func7 (by kernel_rfl) rfl (cnew_any _ _ (allB us vs m n) hcfg (jsB_boxed _) hfit (by rw [hjl];exact nk) _ _ w2 (jur_rd W2 k5 us vs rfl rfl rfl hRg2 a1 k3) (rat_rd W2 k6 a3 k4)) ?_
          rintro e w' ⟨cx,rfl,hnew⟩
          exact ⟨_,rfl,cx,rfl,hnew⟩
 rintro v w3 ⟨cx,rfl,hnew⟩
 obtain ⟨xi,gj,cj,us0,sp0,ur2,bl,B,wB,wC,f1,f2,f3,f4,f5,f6,f7,f8,f9,f10,f11,f12,csx,f13⟩:=hnew
 rw [hjl] at f1 f6
 obtain ⟨tb,ius,oc,sc,spl,gl,go,gs,lc2,bT,i1,i2,i3,i4,i5,i6,i7,i8,i9,i10,i11⟩:=f6
 unfold tpE2 at hk
 split at hk
 rotate_left
 ·cases hk
 rename_i F3 hput
 split at hk
 rotate_left
 ·cases hk
 rename_i F4 st4 hpost
 split at hk
 rotate_left
 ·cases hk
 rename_i F5 st5 cc2 hA2
 split at hk
 rotate_left
 ·cases hk
 rename_i F6 st6 hpre2
 split at hk
 rotate_left
 ·cases hk
 rename_i cN Ln hx6
 simp only [Bool.and_eq_true] at hk
 obtain ⟨k8,k9,k10,hk⟩:=hk
 have k8:=nbt k8
 subst k8
 replace k9:=rowIs_ok k9
 rw [nble,decide_eq_true_eq] at k10
 have le:Le ρ2 (ρ2.add st2.nx (cx,0)):=Le.add _ (W2.fresh _ (Nat.le_refl _))
 have H3:=(HR.bare W2.hr w3).nm (s:=bare st2.nx) (by show st2.nx<1000100;omega) cx 0
 obtain ⟨hF3,_,_⟩:=put_ok (h2.mono le) hput (VR.tup (xs:=[.pointer (some ⟨cx,0,none⟩),.int .i64 0]) (.cons (.p (s:=0) (Env.add_same _ _ _)) (.cons (.i _ _) .nil)))
 have W3:=HR.wr (show HR (ρ2.add st2.nx (cx,0)) (bare (Nat.succ st2.nx)).h.get (bare (Nat.succ st2.nx)).nx w3 from H3) trivial
 refine runOps_ok Tq C _ hpost hF3 W3 fun a4 w4 ⟨ρ4,e4,n4,h4,W4⟩=>?_
 show tpRest.wp _ _ a4 w4
 refine wp_upto Tq hE C hA2 tp_reg2 tp_call2 hpre2 hx6 h4 W4 fun ρ5 a5 w5 e5 n5 h5 W5=>?_
 have eq5:∀ b,b<w3.heap.size→w5.heap[b]? = w3.heap[b]?:=fun b hb=>W5.pr b (pr_bare hb)
 have kp35:Kp w3 w5:=⟨W5.os,W5.tape,W5.output,W5.size,eq5⟩
 have n4':st2.nx+1≤st4.nx:=n4
 have hcx5:ρ5 st2.nx=some (cx,0):=by rw [e5 _ (by omega),e4 _ (show st2.nx<st2.nx+1 by omega),Env.add_same]
 obtain ⟨gn,csn,l1,l2,l3,l4⟩:=row_no W5 k9
 have hcsn:csn=[.int .i64 2,.int .i64 am]:=sure_fn (by rfl) l3 (.cons (.i _ _) (.cons (.lx _ 2) .nil))
 subst hcsn
 have hgn3:w3.heap.size≤gn:=(Nat.lt_or_ge gn w3.heap.size).elim (fun h=>absurd (pr_bare h) (W5.live_lt k9 l1).2) id
 have hBC:wB.heap.size≤wC.heap.size:=Nat.le_trans i5 (Nat.le_of_lt (Array.getElem?_eq_some_iff.1 i1.x).1)
 have keep:∀ b,b<wC.heap.size→b≠cx→w5.heap[b]? = wC.heap[b]?:=fun b hb hne=>(eq5 b (Nat.lt_of_lt_of_le hb f7.size)).trans (f7.block b hb (by simpa using hne))
 have kept:∀ {b t:Nat} {cs:Array Value},wC.heap[b]? = some (.cells cs t (0,0))→t≠86→w5.heap[b]? = wC.heap[b]?:=fun {b t cs} h1 h2=>keep b (Array.getElem?_eq_some_iff.1 h1).1 fun e=>by
  rw [e,f13] at h1
  simp only [Option.some.injEq,Obj.cells.injEq] at h1
  exact h2 h1.2.1.symm
 have I5:IxAt w5 xi (n * m+1) ius oc sc spl (.pointer (some ⟨tb,0,none⟩)) gl go gs lc2:={ i1 with x:=(kept i1.x (by decide)).trans i1.x,l:=(kept i1.l (by decide)).trans i1.l,o:=(kept i1.o (by decide)).trans i1.o,s:=(kept i1.s (by decide)).trans i1.s }
 have hcx3:cx<w3.heap.size:=(Array.getElem?_eq_some_iff.1 f1).1
 have hgj3:gj<w3.heap.size:=by obtain ⟨_,css,_,hg,_⟩:=f2;exact (Array.getElem?_eq_some_iff.1 hg).1
 have TX:=ctax_any (px:=x) (py:=y) (am:=am) (L:=L) (gn:=gn) nk hjl (jsB_is _) hcfg ((eq5 cx hcx3).trans f1) (f2.kept (eq5 gj hgj3)) f3 f11 I5 i2 l2 (ListIs.kp law_rat f4 kp35) (rsB_rate _) (allB us vs m n) hbl hfit (fun j b u h1 h2=>by
   obtain ⟨p1,p2,d1,d2,u1,u2,r⟩:=i3 j b u h1 h2
   obtain ⟨_,r2,_,r4,_⟩:=id r
   exact ⟨p1,p2,d1,d2,u1,u2,r.kept (kept r2 (by decide)) (kept r4 (by decide))⟩) bT wC i4 (fun z h1 h2=>keep z h2 (by omega)) (Nat.le_trans f7.size W5.size) i6 i8 i9 (by omega) (by omega) (Nat.le_trans f7.size hgn3) (by omega) (by omega) ha hhit hLL
 refine ⟨fun v w6=>KX [cx,go,gs] w5 w6∧((L=[]∧v=.tuple #[.slice none 0 0,.int .i64 0])∨∃ c R cR dR,L=[0,c]∧v=.tuple #[.slice (some ⟨R,0,none⟩) 2 (2+cR:Nat),.int .i64 0] ∧
    w6.heap[R]? = some (.cells (linesV am c++dR).toArray 59 (0,0))∧dR.length=cR * 6∧(R<w5.heap.size→R∈[gj,cx,go,gs,gn,xi])),fun vl hvl=>?_,?_⟩
 ·cases hvl with
  | cons p1 p2=>cases p2 with
   | cons p3 p4 =>
    cases p4
    have e3:=agg_sure (by rfl) p3 (VR.agg (xs:=[.int .i64 0,.int .i64 10,.int .i64 x,.int .i64 y,.slice (some ⟨gn,0,none⟩) 1 1]) (.cons (.i _ _) (.cons (.i _ _) (.cons (.lx _ 0) (.cons (.lx _ 1) (.cons (.sl (s:=0) l1) .nil))))))
    subst e3
    cases p1 with
    | p hid =>
     rw [hcx5] at hid
     cases hid
     refine calls_S Tryz.func8 (by kernel_rfl) rfl TX ?_
     rintro e w' ⟨kx,⟨hl,rfl⟩ | ⟨c,R,cR,dR,q1,rfl,q3,q4,q5⟩⟩
     ·exact ⟨_,rfl,kx,.inl ⟨hl,rfl⟩⟩
     ·exact ⟨_,rfl,kx,.inr ⟨c,R,cR,dR,q1,rfl,q3,q4,q5⟩⟩
 rintro v w6 ⟨kx,hans⟩
 unfold tpE3 at hk
 split at hk
 rotate_left
 ·cases hk
 rename_i F7 hput3
 split at hk
 rotate_left
 ·cases hk
 rename_i F8 st8 hpost3
 split at hk
 rotate_left
 ·cases hk
 rename_i F9 st9 hrest
 split at hk
 rotate_left
 ·cases hk
 rename_i hd hres
 have key:∃ ρ6,Le ρ5 ρ6∧HR ρ6 (tpSt q st6.nx).h.get (tpSt q st6.nx).nx w6∧VR ρ6 (tpAns q st6.nx) v∧∀ b,b<wb.heap.size→PrOf ρ6 (tpSt q st6.nx).h.get w6 b:=by
  have s6:∀ b,b<wb.heap.size→b<w6.heap.size:=fun b hb=>by
   have h1:=kb.size
   have h2:=W2.size
   have h3:=f9.size
   have h4:=f7.size
   have h5:=W5.size
   have h6:=kx.size
   omega
  by_cases e:q=4
  ·subst e
   obtain ⟨rfl,_,_⟩:=hL1 rfl
   rcases hans with ⟨hl,_⟩ | ⟨c',R6,cR6,dR,q1,rfl,q3,q4,q5⟩
   ·cases hl
   ·simp only [List.cons.injEq,and_true,true_and] at q1
    subst q1
    have Hb:=HR.bare W5.hr w6
    have fresh:ρ5 st6.nx=none:=W5.fresh _ (Nat.le_refl _)
    rw [tpSt_4,tpAns_4]
    have hnx6:st6.nx<1000100:=by omega
    have hlive:∀ (i:Nat) (oi:AObj) (s':Nat),(bare st6.nx).h.get i=some oi→ρ5 i≠some (R6,s'):=fun i oi s' hi=>(bare_none hi).elim
    have hor:OR (ρ5.add st6.nx (R6,cR6)) cR6 (.row lnRow 59 6 .yes) (.cells (linesV am c++dR).toArray 59 (0,0)):=.row (ln_vr _ rfl rfl rfl rfl) q4 (List.all_eq_true.1 (show lnRow.all AV.one=true from rfl)) trivial
    have H6:=HR.put1 Hb (show (bare st6.nx).nx<1000100 from hnx6) q3 hlive hor
    refine ⟨ρ5.add st6.nx (R6,cR6),Le.add _ fresh,H6,?_,fun b hb=>⟨s6 b hb,fun id o s ho hr=>?_⟩⟩
    ·exact .tup (xs:=[_,_]) (.cons (.sl (Env.add_same _ _ _)) (.cons (.i _ _) .nil))
    ·have hid:id=st6.nx:=put1_only (s:=bare st6.nx) (fun _ _ h=>bare_none h) hnx6 ho
     subst hid
     rw [Env.add_same] at hr
     cases hr
     have h1:=kb.size
     have h2:=W2.size
     have h3:=f9.size
     have h5:=W5.size
     have hlt:R6<w5.heap.size:=by have h4:=f7.size;omega
     have hm:=q5 hlt
     simp only [List.mem_cons,List.not_mem_nil,or_false] at hm
     rcases hm with rfl | rfl | rfl | rfl | rfl | rfl
     ·have e3:=(kx.block R6 hlt (by
       simp only [List.mem_cons,List.not_mem_nil,or_false]
       omega)).symm.trans q3
      obtain ⟨_,css,_,hg,_⟩:=f2.kept (eq5 R6 hgj3)
      rw [hg] at e3
      simp only [Option.some.injEq,Obj.cells.injEq] at e3
      exact absurd e3.2.1 (by decide)
     all_goals omega
  ·have eb:Nat.beq q 4=false:=by
    cases h:Nat.beq q 4 with
    | false=>rfl
    | true=>exact absurd (nbt h) e
   rcases hans with ⟨_,rfl⟩ | ⟨c',R6,cR6,dR,q1,_⟩
   ·have e1:tpSt q st6.nx=bare st6.nx:=by unfold tpSt;rw [eb];rfl
    have e2:tpAns q st6.nx=.tup [.s0,.i .i64 0]:=by unfold tpAns;rw [eb];rfl
    rw [e1,e2]
    exact ⟨ρ5,fun _ _ h=>h,HR.bare W5.hr w6,.tup (xs:=[_,_]) (.cons .s0 (.cons (.i _ _) .nil)),fun b hb=>pr_bare (s6 b hb)⟩
   ·rw [hL2 e] at q1
    cases q1
 obtain ⟨ρ6,le6,H6,hv6,hpr6⟩:=key
 have hF6:=(put_ok (h5.mono le6) hput3 hv6).1
 refine runOps_ok Tq C _ hpost3 hF6 (H6.wr trivial) fun a7 w7 ⟨ρ7,e7,n7,h7,W7⟩=>?_
 show tpRest2.wp _ _ a7 w7
 refine (hE _ _ _ _ _ _ hrest _ w6 ρ7 a7 w7 _ h7 W7 fun a8 w8 ⟨ρ8,e8,n8,h8,W8⟩=>?_).1
 refine end_ok Tq h8 W8 hd hres fun cv hcv=>?_
 have hcv':VR ρ8 (.b true) cv:=hcv
 cases hcv'
 refine ⟨rfl,W8.os.trans (kx.os.trans (kp35.os.trans (f7.os.trans (f9.os.trans (W2.os.trans kb.os))))),W8.tape.trans (kx.tape.trans (kp35.tape.trans (f7.tape.trans (f9.tape.trans (W2.tape.trans kb.tape))))),W8.output.trans (kx.output.trans (kp35.output.trans (f7.output.trans (f9.output.trans (W2.output.trans kb.output))))),?_,fun b hb=>?_⟩
 ·have h1:=kb.size
  have h2:=W2.size
  have h3:=f9.size
  have h4:=f7.size
  have h5:=W5.size
  have h6:=kx.size
  have h7:=W8.size
  omega
 ·have h1:=kb.size
  have h2:=W2.size
  have h3:=f9.size
  have h4:=f7.size
  have h5:=W5.size
  have b2':b<w2.heap.size:=by omega
  have bC:b<wC.heap.size:=by omega
  have b5:b<w5.heap.size:=by omega
  rw [W8.pr b (hpr6 b hb),kx.block b b5 (by simp only [List.mem_cons,List.not_mem_nil,or_false];omega),keep b bC (by omega),f9.block b b2',pr0 b hb]
end Go.Ex
