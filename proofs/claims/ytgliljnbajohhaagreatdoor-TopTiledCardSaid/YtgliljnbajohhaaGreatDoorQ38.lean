import Derived.Test.YtgliljnbajohhaaGreatDoorQ36
import Derived.Test.YtgliljnbajohhaaGreatDoorQ37
import Derived.Test.YtgliljnbajohhaaGreatDoorQ00
import Derived.Test.YtgliljnbajohhaaGreatDoorQ13
import Derived.Test.YtgliljnbajohhaaGreatDoorQ20
set_option linter.unusedVariables false
set_option linter.unusedSimpArgs false
namespace Go.Ex
open Go Go.RowKit
noncomputable def runK (ex:Code→Fr→S→Option (Ex×Fr×S)):Nat→Code→Fr→S→Option (Fr×S×Code)
 | 0,c,F,st=>some (F,st,c)
 | n+1,c,F,st =>
  match c with
  | .seq a b =>
   match ex a F st with
   | some (.nrm,F',st')=>runK ex n b F' st'
   | _=>none
  | _=>none
section
variable {P:Program} {tb:Tb} {Pr:Nat→Prop} {w0:World}
theorem runK_ok [Val] {ex:Code→Fr→S→Option (Ex×Fr×S)} (hE:ExOk P ex) {Q:Exit→Act→World→Prop}:∀ (n:Nat) {c c':Code} {F F':Fr} {st st':S} {ρ:Env} {a:Act} {w:World},runK ex n c F st=some (F',st',c')→FRm ρ F a→WR Pr w0 ρ st.h.get st.nx w →
  (∀ a' w',Nxt Pr w0 ρ st.nx F' st' a' w'→c'.wp P Q a' w')→c.wp P Q a w
 | 0,c,c',F,F',st,st',ρ,a,w,hr,h,W,hQ=>by
  cases hr
  exact hQ _ _ ⟨ρ,Ext.refl _ _,Nat.le_refl _,h,W⟩
 | n+1,c,c',F,F',st,st',ρ,a,w,hr,h,W,hQ=>by
  unfold runK at hr
  split at hr
  ·rename_i p q
   split at hr
   ·rename_i F1 st1 h1
    exact wp_seq (hE _ _ _ _ _ _ h1 Pr w0 ρ a w _ h W fun a1 w1 ⟨ρ1,e1,n1,hf1,W1⟩=>runK_ok hE n hr hf1 W1 fun a2 w2 hN=>hQ _ _ (hN.after e1 n1)).1
   ·cases hr
  ·cases hr
theorem runOps_app [Val] (T:TbOk' P tb) {call:Nat→List AV→S→Option (AV×S)} (C:CallOk P call) {ops:Array Oper} {Q:Exit→Act→World→Prop} {rest:List Oper}:∀ (l:List Oper) {ρ:Env} {F F':Fr} {st st':S} {a:Act} {w:World},
  runOps tb call ops l F st=some (F',st')→FRm ρ F a→WR Pr w0 ρ st.h.get st.nx w→(∀ a' w',Nxt Pr w0 ρ st.nx F' st' a' w'→wpList P ops Q rest a' w')→wpList P ops Q (l++rest) a w
 | [],ρ,F,F',st,st',a,w,hr,h,W,hQ=>by
  change some (F,st)=some (F',st') at hr
  cases hr
  exact hQ _ _ ⟨ρ,Ext.refl _ _,Nat.le_refl _,h,W⟩
 | o :: l,ρ,F,F',st,st',a,w,hr,h,W,hQ=>by
  change rOp tb call ops o F st (runOps tb call ops l)=some (F',st') at hr
  rw [List.cons_append]
  refine wpList_step fun K hK=>?_
  unfold rOp at hr
  split at hr
  ·cases hr
  ·rename_i hw
   rw [wants_ok h hw]
   unfold aft at hr
   split at hr
   ·rename_i F1 hp
    simp only [Bool.false_eq_true,if_false]
    exact hK _ _ (runOps_app T C l hr (put_ok h hp undef_vr).1 W hQ)
   ·cases hr
  ·rename_i hw
   rw [wants_ok h hw]
   simp only [if_true]
   split at hr
   ·cases hr
   ·rename_i xs hx
    unfold rGo at hr
    split at hr
    ·cases hr
    ·rename_i v d' st1 hs
     unfold aft at hr
     split at hr
     ·rename_i F1 hp
      refine step_ok T C h W hx hs hp fun a1 w1 ⟨ρ1,e1,n1,h1,W1⟩=>hK _ _ (runOps_app T C l hr h1 W1 fun a2 w2 ⟨ρ2,e2,n2,h2,W2⟩=>hQ _ _ ⟨ρ2,e1.trans e2 n1,Nat.le_trans n1 n2,h2,W2⟩)
     ·cases hr
theorem wp_hole [Val] {o:Oper} {c:Call} {k:Nat} (ho:o.op=.call c) (hc:c.callee=.value (.func k)) (hg:o.guard=none) {ρ:Env} {F:Fr} {a:Act} {w:World} (h:FRm ρ F a) {xs:List AV} (hx:evl F.t c.args.toList=some xs) {R:Value→World→Prop}
  (hC:∀ vs,VRs ρ xs vs→CallS P k vs w R) {ops:Array Oper} {rest:List Oper} {Q:Exit→Act→World→Prop} (hK:∀ v w',R v w'→wpList P ops Q rest (a.put o.dst v) w'):wpList P ops Q (o :: rest) a w:=by
 refine wpList_step fun K hK'=>?_
 have hw:Region.wanted o (yielded ops a.tmps)=true:=by unfold Region.wanted;rw [hg]
 rw [hw]
 simp only [if_true]
 refine wp_done (R:=R) ?_ fun v w' hr=>hK' _ _ (hK v w' hr)
 have hcm:c.args.map a.eval=(c.args.toList.map a.eval).toArray:=by apply Array.ext';simp
 have h1:=hC _ (evl_ok h hx)
 unfold CallS at h1
 have e2:(execOp a.eval o).run P w=(callFunc k (c.args.toList.map a.eval).toArray).run P w:=by
  have e3:a.eval (.func k)=.func (.func k) #[] #[]:=rfl
  simp [execOp,ho,resolve,hc,hcm,e3,Deferred.ofValue,invoke]
 rw [e2]
 exact h1
theorem wp_region_hole [Val] (T:TbOk' P tb) {call:Nat→List AV→S→Option (AV×S)} (C:CallOk P call) {ops:Array Oper} {id j k:Nat} {o:Oper} {c:Call} (ho:ops.toList[j]? = some o) (hop:o.op=.call c) (hcal:c.callee=.value (.func k)) (hg:o.guard=none)
  {F F1:Fr} {st st1:S} {xs:List AV} {ρ:Env} {a:Act} {w:World} (hpre:runOps tb call ops (ops.toList.take j) F st=some (F1,st1)) (hx:evl F1.t c.args.toList=some xs) (h:FRm ρ F a) (W:WR Pr w0 ρ st.h.get st.nx w) {Q:Exit→Act→World→Prop}
  (H:∀ ρ1 a1 w1,Ext st.nx ρ ρ1→st.nx≤st1.nx→FRm ρ1 F1 a1→WR Pr w0 ρ1 st1.h.get st1.nx w1→∃ R,(∀ vs,VRs ρ1 xs vs→CallS P k vs w1 R)∧∀ v w2,R v w2→wpList P ops Q (ops.toList.drop (j+1)) (a1.put o.dst v) w2):(Code.region id ops false).wp P Q a w:=by
 refine wp_region_list ?_
 have hj:j<ops.toList.length:=(List.getElem?_eq_some_iff.1 ho).1
 have e:ops.toList=ops.toList.take j++o :: ops.toList.drop (j+1):=by
  rw [← (List.getElem?_eq_some_iff.1 ho).2,← List.drop_eq_getElem_cons hj,List.take_append_drop]
 rw [e]
 refine runOps_app T C _ hpre h W fun a1 w1 ⟨ρ1,e1,n1,h1,W1⟩=>?_
 obtain ⟨R,hR,hK⟩:=H ρ1 a1 w1 e1 n1 h1 W1
 exact wp_hole hop hcal hg h1 hx hR hK
theorem end_ok [Val] (T:TbOk' P tb) {fn:Func} {F:Fr} {a:Act} {w:World} {ρ:Env} {hh:Ex.T AObj} {nx:Nat} {vs:List AV} (h:FRm ρ F a) (W:WR Pr w0 ρ hh.get nx w) (hd:F.d=[]) (hr:resX tb F.t hh fn.results.toList=some vs) {R:Ending→World→Prop}
  (hR:∀ c,VR ρ (one vs) c→R (.returned c) w):bodyPost P fn R .ret a w:=by
 obtain ⟨c,h1,h2⟩:=results_ok T h W hr
 have hd0:=h.df
 rw [hd] at hd0
 refine ⟨?_,c,h2,hR c h1⟩
 generalize a.defers=dd at hd0
 cases hd0
 rfl
theorem calls_of_code [Val] {fn:Func} {c:Code} {k:Nat} (hf:P.funcs[k]? = some fn) (hb:fn.body=some c) (hn:fn.ntmps≤100000) {args:List AV} (hl:args.length≤fn.ntmps) {ρ:Env} {vs:List Value} (hv:VRs ρ args vs) {w:World} {R:Ending→World→Prop}
  (h:∀ a,FRm ρ ⟨initT args 0 .e,fn.ntmps,[]⟩ a→c.wp P (bodyPost P fn R) a w):Calls P k vs.toArray w R :=
 calls_of_wp hf hb (h _ (init_ok hv hn hl))
end
end Go.Ex
namespace Go.Ex
open Go Go.RowKit Go.Proofs Go.Proofs.YtgliljnbajohhaaGreatDoor Go.Proofs.Geo
set_option maxRecDepth 100000
theorem clone_run:ends (run (tbB 6 1 1) 200 57 [.agg [.sl 1 0 1 1]] stR) (.agg [.sl 14 0 1 1]) (fun st=>rowIs st 0 lRing 53 2 (.told 0) && (rowIs st 1 [.sl 0 0 4 4] 71 1 (.told 1) && (rowIs st 13 lRing 53 2 .yes && rowIs st 14 [.sl 13 0 4 4] 71 1 .yes)))=true:=by kernel_rfl
theorem new_of [Val] {ρ ρ':Env} {h h':Nat→Option AObj} {n n':Nat} {w w':World} (H:HR ρ h n w) (W:WR (PrOf ρ h w) w ρ' h' n' w') (e:Ext n ρ ρ') (hk:∀ id o,h id=some o→∃ o',h' id=some o') {id g s:Nat} {o:AObj} (hi:n≤id) (ho:h' id=some o) (hr:ρ' id=some (g,s)):w.heap.size≤g:=by
 rcases Nat.lt_or_ge g w.heap.size with hl | hl
 ·exfalso
  obtain ⟨g2,s2,ob,a1,a2,_⟩:=W.at_ id o ho
  rw [hr] at a1
  cases a1
  by_cases c:∃ id o s,h id=some o∧ρ id=some (g,s)
  ·obtain ⟨id0,o0,s0,h1,h2⟩:=c
   obtain ⟨o',h3⟩:=hk id0 o0 h1
   have hid:=H.wr' h1
   have:=W.inj id id0 o o' g s s0 ho h3 hr (by rw [e id0 hid];exact h2)
   omega
  ·exact a2 ⟨hl,fun id o s ho hr=>c ⟨id,o,s,ho,hr⟩⟩
 ·exact hl
section
variable {w:World} {u:Value} {a b c d:Int} {b1 b2 c1 c2:Nat} {sp1 sp2:List Value}
theorem cloneX_any (R:RgAt w u a b c d b1 b2 c1 c2 sp1 sp2) (hx:a<c) (hy:b<d) (ba:-1048576<a∧a<1048576) (bb:-1048576<b∧b<1048576) (bc:-1048576<c∧c<1048576) (bd:-1048576<d∧d<1048576) :
  Calls Tryz.prog 57 #[.agg #[u]] w fun e w'=>∃ u' q1 q2 d1 d2 s1 s2,e=.returned (.agg #[u'])∧RgAt w' u' a b c d q1 q2 d1 d2 s1 s2∧w.heap.size≤q1∧w.heap.size≤q2∧Kp w w':=by
 letI:Val:=inVal a b c d a b sp2 sp1 []
 have B:BoxV:=⟨hx,hy,fun k hk=>four (P:=fun k=>-1048576<Val.val k∧Val.val k<1048576) ba bb bc bd k hk⟩
 have L:Lies 6 1 1:=lies11 B rfl rfl
 obtain ⟨st1,hrun,hend⟩:=ends_ok clone_run
 obtain ⟨H,hv⟩:=RgAt.hr (w:=w) (u:=u) (b1:=b1) (b2:=b2) (c1:=c1) (c2:=c2) R
 have hr:=run_calls (tbOk (orcB 1) (letS L)) (xok fun _ _ _ _ _ h=>orcB_ok B L h) hrun Tryz.func57 (by kernel_rfl) rfl H trivial hv
 refine hr.mono ?_
 rintro e w' ⟨v,ρ',rfl,hv,hext,W'⟩
 simp only [Bool.and_eq_true] at hend
 obtain ⟨q0,q1,q2,q3⟩:=hend
 replace q0:=rowIs_ok q0
 replace q1:=rowIs_ok q1
 replace q2:=rowIs_ok q2
 replace q3:=rowIs_ok q3
 have hkk:∀ id o,stR.h.get id=some o→o.sure=true∧st1.h.get id=some o:=fun id o ho=>by
  have ho:=ofL_some (by decide) ho
  rcases id with _ | _ | id
  ·cases ho;exact ⟨by decide,q0⟩
  ·cases ho;exact ⟨by decide,q1⟩
  ·simp [stRl] at ho
 have K:=kp_of H W' hext hkk
 obtain ⟨p2,s2,cs2,ds2,y1,y2,y3,y4,y5,y6⟩:=W'.row q2
 obtain ⟨p3,s3,cs3,ds3,z1,z2,z3,z4,z5,z6⟩:=W'.row q3
 have n2:=new_of H W' hext (fun id o ho=>⟨o,(hkk id o ho).2⟩) (id:=13) (by show 2≤13;decide) q2 y1
 have n3:=new_of H W' hext (fun id o ho=>⟨o,(hkk id o ho).2⟩) (id:=14) (by show 2≤14;decide) q3 z1
 cases hv with
 | agg hl =>
  cases hl with
  | cons hu hn =>
   cases hn
   cases hu with
   | @sl _ _ _ _ g s hg =>
    rw [z1] at hg
    cases hg
    have e2:cs2=flat ringV:=sure_fn (by decide) y3 (lRing_vr ρ')
    have e3:cs3=[.slice (some ⟨p2,0,none⟩) 4 (4+s2:Nat)]:=sure_fn (by decide) z3 (.cons (.sl y1) .nil)
    subst e2 e3
    exact ⟨_,p3,p2,s3,s2,ds3,ds2,rfl,⟨rfl,z2,by omega,y2,y4⟩,n3,n2,K⟩
end
theorem RgAt.oneR {w:World} {u:Value} {a b c d:Int} {b1 b2 c1 c2:Nat} {sp1 sp2:List Value} (h:RgAt w u a b c d b1 b2 c1 c2 sp1 sp2):OneR w u (ring4 a b c d):=by
 obtain ⟨rfl,h2,h3,h4,h5⟩:=h
 refine ⟨b1,0,_,some ⟨b2,0,none⟩,4+c2,rfl,by omega,?_,?_⟩
 ·rw [cell_of_row w b1 _ _ _ _ h2];rfl
 ·refine ⟨by unfold ring4;simp,.inr ⟨⟨b2,0,none⟩,4+c2,rfl,fun j v hj=>?_⟩⟩
  rw [add_cell,Nat.zero_add]
  exact cell_app h4 hj
theorem ring4_len (a b c d:Int):(ring4 a b c d).length=4:=rfl
noncomputable def tb0:Tb:=⟨tiT,ftT,xtT,fun _ _ _=>none,fun _ _=>none,fun _ _ _ _=>none⟩
noncomputable def boxChk:Bool :=
 match run tb0 100 6 [.lx .i64 0,.lx .i64 1,.lx .i64 2,.lx .i64 3] S.nil with
 | some (r,st)=>match r with
  | .agg [.sl p 0 1 1]=>rowIs st p [.sl 1 0 4 4] 71 1 .no && rowIs st 1 lRing 53 2 .no
  | _=>false
 | none=>false
theorem box_chk32:boxChk=true:=by kernel_rfl
@[reducible] def boxVal (a b c d:Int):Val:=⟨fun k=>[a,b,c,d].getD k 0,fun _=>.pointer none,fun _=>[],fun _ _=>True,fun _ _ _ _ h _ _=>h⟩
theorem box_any (a b c d:Int) (w:World):Calls Tryz.prog 6 #[.int .i64 a,.int .i64 b,.int .i64 c,.int .i64 d] w fun e w'=>∃ u,e=.returned (.agg #[u])∧RgO w' u a b c d∧Kp w w':=by
 letI:Val:=boxVal a b c d
 have T:TbOk' Tryz.prog tb0:=tbOk _ ⟨fun _ _ _ h=>(by cases h),fun _ _ _ _ _ h=>(by cases h)⟩
 have X:XOk Tryz.prog tb0:=xok fun _ _ _ _ _ h=>by cases h
 have H:=HR.nil w
 have hk:=box_chk32
 unfold boxChk at hk
 split at hk
 ·rename_i r st hrun
  split at hk
  ·rename_i p
   simp only [Bool.and_eq_true] at hk
   obtain ⟨h1,h2⟩:=hk
   replace h1:=rowIs_ok h1
   replace h2:=rowIs_ok h2
   refine (run_calls T X hrun Tryz.func6 (by kernel_rfl) rfl H trivial (vs:=[.int .i64 a,.int .i64 b,.int .i64 c,.int .i64 d]) (.cons (.lx _ 0) (.cons (.lx _ 1) (.cons (.lx _ 2) (.cons (.lx _ 3) .nil))))).mono ?_
   rintro e w' ⟨v,ρ',rfl,hv,he,W⟩
   have K:Kp w w':=kp_of H W he (fun id o ho=>by cases ho)
   obtain ⟨p1,cs1,y1,y2,y3,y4⟩:=row_no W h1
   obtain ⟨p2,cs2,z1,z2,z3,z4⟩:=row_no W h2
   have e1:cs1=[.slice (some ⟨p2,0,none⟩) 4 4]:=sure_fn (by rfl) y3 (.cons (.sl (s:=0) z1) .nil)
   have e2:cs2=flat (ring4 a b c d):=sure_fn (by decide) z3 (lRing_vr ρ')
   subst e1 e2
   cases hv with
   | agg q=>cases q with
    | cons q1 q2 =>
     cases q2
     cases q1 with
     | @sl _ _ _ _ g s hg =>
      rw [y1] at hg
      cases hg
      exact ⟨_,rfl,⟨p1,p2,0,0,[],[],rfl,by rw [List.append_nil];exact y2,rfl,by rw [List.append_nil];exact z2,rfl⟩,K⟩
  ·cases hk
 ·cases hk
end Go.Ex
namespace Go.Proofs.YtgliljnbajohhaaGreatDoor
open Go.RowKit Go.Proofs.Geo
def pickN (i:Int) (n:Nat):Nat:=(i % (n:Int)).toNat
theorem pickN_lt (i:Int) {n:Nat} (h:1≤n):pickN i n<n:=by
 unfold pickN
 have:=Int.emod_nonneg i (show (n:Int)≠0 by omega)
 have:=Int.emod_lt_of_pos i (show (0:Int)<(n:Int) by omega)
 omega
set_option maxHeartbeats 4000000 in
theorem pick_det (i:Int) (n:Nat) (h1:1≤n) (h2:n≤10000000) (w:World):Calls Tryz.prog 5 #[.int .i64 i,.int .i64 (n:Int)] w fun e w'=>e=.returned (.int .i64 (pickN i n:Nat))∧Kp w w':=by
 obtain ⟨r,hr⟩:∃ r,i.tmod (n:Int)=r:=⟨_,rfl⟩
 have a1:-(n:Int)<r:=by rw [← hr];exact Int.lt_tmod_of_pos i (by omega)
 have a2:r<(n:Int):=by rw [← hr];exact Int.tmod_lt_of_pos i (by omega)
 have b1:(1:Int)≤(n:Int):=by omega
 have c7:¬ ((n:Int)=0):=by omega
 have c8:¬ (n=0):=by omega
 obtain ⟨k,hk⟩:∃ k,pickN i n=k:=⟨_,rfl⟩
 have hke:(k:Int)=i % (n:Int):=by
  rw [← hk];unfold pickN
  have:=Int.emod_nonneg i (show (n:Int)≠0 by omega)
  omega
 have hre:i % (n:Int)=if r<0 then r+(n:Int) else r:=by
  have hm:r % (n:Int)=i % (n:Int):=by rw [← hr,Int.tmod_def,Int.sub_emod,Int.mul_emod_right,Int.sub_zero,Int.emod_emod]
  rw [← hm]
  split
  ·rw [← Int.add_emod_right,Int.emod_eq_of_lt (by omega) (by omega)]
  ·rw [Int.emod_eq_of_lt (by omega) (by omega)]
 rw [hk]
 have wk1:IntKind.i64.wrap r=r:=IntWalk.i64_in _ (by omega)
 by_cases hneg:r<0
 ·rw [if_pos hneg] at hre
  have hz:r+(n:Int)=(k:Int):=by rw [hke,hre]
  have wk2:IntKind.i64.wrap (k:Int)=(k:Int):=IntWalk.i64_in _ (by omega)
  clear hk hke hre
  go_enter Tryz.func5,Tryz.ntmps5
  go_wp2
  go_ret
  exact ⟨rfl,kp_refl _⟩
 ·rw [if_neg hneg] at hre
  have hz:r=(k:Int):=by rw [hke,hre]
  subst hz
  clear hk hke hre
  go_enter Tryz.func5,Tryz.ntmps5
  go_wp2
  go_ret
  exact ⟨rfl,kp_refl _⟩
end Go.Proofs.YtgliljnbajohhaaGreatDoor
namespace Go.Proofs.YtgliljnbajohhaaGreatDoor
open Go.RowKit Go.Proofs.Top Go.Proofs.Geo Go.Ex
theorem own_cut {e:TypeId} {size B n:Nat} {w:World} {u:Value} {xs:List Value} (h:w.ownsRow B e size u n xs) (hn:0<n):∃ g c sp,u=.slice (some ⟨g,0,none⟩) n (n+c:Nat)∧B≤g∧w.heap[g]? = some (.cells (xs++sp).toArray e (0,0))∧sp.length=c * size:=by
 obtain ⟨h1,⟨hv,hz⟩ | ⟨g,cap,cur,hv,hb,hg,hc,hm,hs,ht⟩⟩:=h
 ·omega
 ·refine ⟨g,cap - n,cur.toList.drop (n * size),by rw [hv,show n+(cap - n)=cap by omega],hb,?_,?_⟩
  ·rw [hg,← ht,List.take_append_drop]
  ·rw [List.length_drop,Array.length_toList,hs,Nat.sub_mul]
theorem flatten_get {size:Nat}:∀ {css:List (List Value)},(∀ c∈css,c.length=size)→∀ {k:Nat} {c:List Value},css[k]? = some c→∀ {j:Nat} {x:Value},c[j]? = some x→css.flatten[k * size+j]? = some x
 | [],_,k,c,h,_,_,_=>by simp at h
 | c0 :: cs,hl,0,c,h,j,x,hx=>by
  simp only [List.getElem?_cons_zero,Option.some.injEq] at h
  subst h
  rw [List.flatten_cons,Nat.zero_mul,Nat.zero_add,List.getElem?_append_left (List.getElem?_eq_some_iff.1 hx).1]
  exact hx
 | c0 :: cs,hl,k+1,c,h,j,x,hx=>by
  rw [List.getElem?_cons_succ] at h
  have h0:=hl c0 (by simp)
  rw [List.flatten_cons,List.getElem?_append_right (by rw [h0,Nat.succ_mul];omega),show (k+1) * size+j - c0.length=k * size+j by rw [h0,Nat.succ_mul];omega]
  exact flatten_get (fun c hc=>hl c (by simp [hc])) h hx
theorem ListIs.slR {α:Type} {I:World→List Nat→List Value→α→Prop} {J:World→Nat→Nat→α→Prop} {e:TypeId} {size B:Nat} {w:World} {bl:List Nat} {u:Value} {l:List α} (h:ListIs I e size B w bl u l) (hl:0<l.length)
  (hs:∀ c a,I w bl c a→c.length=size) (hJ:∀ b o c a,(∀ (j:Nat) (x:Value),c[j]? = some x→w.cell? ⟨b,o+j,none⟩=some x)→I w bl c a→a∈l→J w b o a):SlR J size w u l:=by
 obtain ⟨css,hcl,hci,how,hbb⟩:=h
 obtain ⟨g,cap,hu,hc,hcell⟩:=own_cells how hl
 have hlen:∀ c∈css,c.length=size:=fun c hc=>by
  obtain ⟨k,hk,rfl⟩:=List.getElem_of_mem hc
  exact hs _ _ (hci k _ l[k] (List.getElem?_eq_getElem hk) (List.getElem?_eq_getElem (by omega)))
 refine ⟨g,0,cap,hu,hc,fun k a ha=>?_⟩
 have hk:=(List.getElem?_eq_some_iff.1 ha).1
 have hck:css[k]? = some css[k]:=List.getElem?_eq_getElem (by omega)
 refine hJ g _ css[k] a (fun j x hx=>?_) (hci k _ a hck ha) (List.mem_of_getElem? ha)
 rw [Nat.zero_add]
 exact hcell _ _ (flatten_get hlen hck hx)
theorem day_slR {B:Nat} {w:World} {bl:List Nat} {u:Value} {l:List NPt} (h:ListIs I_day 41 2 B w bl u l) (hl:0<l.length):SlR J_pt 2 w u l :=
 h.slR hl (fun c a hc=>by rw [show c=_ from hc];rfl) fun b o c a hc hi _=>by
  rw [show c=_ from hi] at hc
  exact ⟨hc 0 _ rfl,hc 1 _ rfl⟩
theorem rat_slR {B:Nat} {w:World} {bl:List Nat} {u:Value} {l:List RT} (h:ListIs I_rat 44 2 B w bl u l) (hl:0<l.length) (hd:∀ r∈l,0<r.ds.length):SlR J_rat 2 w u l :=
 h.slR hl (fun c a hc=>by obtain ⟨u,bl',rfl,_⟩:=hc;rfl) fun b o c a hc hi ha=>by
  obtain ⟨u,bl',rfl,h1,_⟩:=hi
  exact ⟨hc 0 _ rfl,u,hc 1 _ rfl,day_slR h1 (hd a ha)⟩
def ringN (b:Bx):NRing:=[(b.1,b.2.1),(b.2.2.1,b.2.1),(b.2.2.1,b.2.2.2),(b.1,b.2.2.2)]
theorem ringN_pts (b:Bx):ptsN (ringN b)=ring4 b.1 b.2.1 b.2.2.1 b.2.2.2:=rfl
theorem rgO_of {B:Nat} {w:World} {bl:List Nat} {u:Value} {b:Bx} (h:ListIs I_ring 71 1 B w bl u [ringN b]):RgO w u b.1 b.2.1 b.2.2.1 b.2.2.2:=by
 obtain ⟨css,hcl,hci,how,_⟩:=h
 match css,hcl with
 | [c],_ =>
  obtain ⟨v,rfl,ho,_⟩:=hci 0 c _ rfl rfl
  obtain ⟨g,q,sp,rfl,_,hg,hs⟩:=own_cut how (by show 0<1;decide)
  obtain ⟨g2,q2,sp2,rfl,_,hg2,hs2⟩:=own_cut ho (by show 0<4;decide)
  exact ⟨g,g2,q,q2,sp,sp2,rfl,hg,by omega,hg2,hs2⟩
structure Boxed (js:List JU) (bs:List Bx):Prop where
 len:bs.length=js.length
 ring:∀ (k:Nat) (j:JU) (b:Bx),js[k]? = some j→bs[k]? = some b→j.rings=[ringN b]
def JRow (w:World) (g:Nat) (js:List JU) (us sp:List Value):Prop:=us.length=js.length∧∃ css:List (List Value),css.length=js.length∧w.heap[g]? = some (.cells (css.flatten++sp).toArray 39 (0,0)) ∧
 ∀ (k:Nat) (c:List Value) (j:JU) (u:Value),css[k]? = some c→js[k]? = some j→us[k]? = some u→c=[.int .i64 j.id,.int .i64 j.kind,.int .i64 j.par,.int .i64 j.fil,u]
theorem jRow_of {B:Nat} {w:World} {bl:List Nat} {v:Value} {js:List JU} {bs:List Bx} (h:ListIs I_jur 39 5 B w bl v js) (hb:Boxed js bs) (hl:0<js.length) :
  ∃ g c us sp,v=.slice (some ⟨g,0,none⟩) js.length (js.length+c:Nat)∧B≤g∧JRow w g js us sp∧sp.length=c * 5∧∀ (j:Nat) (b:Bx) (u:Value),bs[j]? = some b→us[j]? = some u→RgO w u b.1 b.2.1 b.2.2.1 b.2.2.2:=by
 obtain ⟨css,hcl,hci,how,_⟩:=h
 obtain ⟨g,c,sp,hv,hB,hg,hs⟩:=own_cut how hl
 have key:∀ (k:Nat) (c:List Value) (j:JU) (b:Bx),css[k]? = some c→js[k]? = some j→bs[k]? = some b→∃ u,c=[.int .i64 j.id,.int .i64 j.kind,.int .i64 j.par,.int .i64 j.fil,u]∧RgO w u b.1 b.2.1 b.2.2.1 b.2.2.2:=fun k c j b h1 h2 h3=>by
  obtain ⟨u,bl',rfl,h4,_⟩:=hci k c j h1 h2
  rw [hb.ring k j b h2 h3] at h4
  exact ⟨u,rfl,rgO_of h4⟩
 refine ⟨g,c,css.map fun c=>c.getD 4 (.pointer none),sp,hv,hB,⟨by rw [List.length_map,hcl],css,hcl,hg,fun k c j u h1 h2 h3=>?_⟩,hs,fun k b u h1 h2=>?_⟩
 ·have hk:k<bs.length:=by rw [hb.len];exact (List.getElem?_eq_some_iff.1 h2).1
  obtain ⟨u',rfl,_⟩:=key k c j bs[k] h1 h2 (List.getElem?_eq_getElem hk)
  rw [List.getElem?_map,h1] at h3
  cases h3
  rfl
 ·have hk:k<css.length:=by rw [hcl,← hb.len];exact (List.getElem?_eq_some_iff.1 h1).1
  obtain ⟨u',e,hr⟩:=key k css[k] (js[k]'(by omega)) b (List.getElem?_eq_getElem hk) (List.getElem?_eq_getElem _) h1
  rw [List.getElem?_map,List.getElem?_eq_getElem hk] at h2
  simp only [Option.map_some,Option.some.injEq] at h2
  rw [e] at h2
  subst h2
  exact hr
theorem JRow.cell {w:World} {g:Nat} {js:List JU} {us sp:List Value} (h:JRow w g js us sp) {k:Nat} {j:JU} {u:Value} (h1:js[k]? = some j) (h2:us[k]? = some u) :
  w.cell? ⟨g,k * 5,none⟩=some (.int .i64 j.id)∧w.cell? ⟨g,k * 5+1,none⟩=some (.int .i64 j.kind)∧w.cell? ⟨g,k * 5+2,none⟩=some (.int .i64 j.par)∧w.cell? ⟨g,k * 5+3,none⟩=some (.int .i64 j.fil)∧w.cell? ⟨g,k * 5+4,none⟩=some u:=by
 obtain ⟨hl,css,hcl,hg,hc⟩:=h
 have hk:=(List.getElem?_eq_some_iff.1 h1).1
 have hlen:∀ c∈css,c.length=5:=fun c hm=>by
  obtain ⟨i,hi,rfl⟩:=List.getElem_of_mem hm
  rw [hc i _ _ _ (List.getElem?_eq_getElem hi) (List.getElem?_eq_getElem (by omega)) (List.getElem?_eq_getElem (by omega))]
  rfl
 have hck:css[k]? = some css[k]:=List.getElem?_eq_getElem (by omega)
 have e:=hc k _ j u hck h1 h2
 have at_:∀ (i:Nat) (x:Value),css[k][i]? = some x→w.cell? ⟨g,k * 5+i,none⟩=some x:=fun i x hx=>by
  rw [cell_of_row w g _ _ _ _ hg,List.getElem?_toArray,List.getElem?_append_left (List.getElem?_eq_some_iff.1 (flatten_get hlen hck hx)).1]
  exact flatten_get hlen hck hx
 rw [e] at at_
 exact ⟨at_ 0 _ rfl,at_ 1 _ rfl,at_ 2 _ rfl,at_ 3 _ rfl,at_ 4 _ rfl⟩
theorem JRow.kept {w w':World} {g:Nat} {js:List JU} {us sp:List Value} (h:JRow w g js us sp) (k:w'.heap[g]? = w.heap[g]?):JRow w' g js us sp:=by
 obtain ⟨hl,css,hcl,hg,hc⟩:=h
 exact ⟨hl,css,hcl,k.trans hg,hc⟩
theorem kpOfKx {w w':World} (k:KX [] w w'):Kp w w':=⟨k.os,k.tape,k.output,k.size,fun b hb=>k.block b hb (by simp)⟩
def cumW (l:List Int):Nat→Nat
 | 0=>0
 | k+1=>cumW l k+(1+pickN (l.getD k 0) 100)
theorem cumW_le (l:List Int):∀ k,cumW l k≤100 * k
 | 0=>by simp [cumW]
 | k+1=>by
  have:=cumW_le l k
  have:=pickN_lt (l.getD k 0) (n:=100) (by omega)
  simp only [cumW]
  omega
theorem cumW_lt (l:List Int) {a b:Nat} (h:a<b):cumW l a<cumW l b:=by
 induction b with
 | zero=>omega
 | succ b ih =>
  simp only [cumW]
  rcases Nat.lt_or_ge a b with c | c
  ·have:=ih c;omega
  ·have:a=b:=by omega
   subst this
   omega
def tileB (us vs:List Int) (i j:Nat):Bx:=(cumW us i,cumW vs j,cumW us (i+1),cumW vs (j+1))
def tileL (us vs:List Int) (m q:Nat):List Bx:=(List.range q).map fun k=>tileB us vs (k % m) (k / m)
theorem rgO_grown {w w':World} {u v:Value} {a b c d:Int} {B q:Nat} {xs:List Value} (h:RgO w u a b c d) (ho:w.ownsRow B 36 1 v q xs) (hg:w.grownBy w' v.ownBlock):RgO w' u a b c d:=by
 obtain ⟨b1,b2,c1,c2,s1,s2,h⟩:=h
 obtain ⟨_,r2,_,r4,_⟩:=id h
 have ne:∀ (b t:Nat) (cs:Array Value),w.heap[b]? = some (Obj.cells cs t (0,0))→t≠36→w'.heap[b]? = w.heap[b]?:=fun b t cs hb ht=>hg.block b (Array.getElem?_eq_some_iff.1 hb).1 fun e=>by
  obtain ⟨_,⟨hv,_⟩ | ⟨g,cap,cur,hv,_,hgr,_⟩⟩:=ho
  ·rw [hv] at e;cases e
  ·rw [hv] at e
   cases e
   rw [hgr] at hb
   simp only [Option.some.injEq,Obj.cells.injEq] at hb
   exact ht hb.2.1.symm
 exact ⟨_,_,_,_,_,_,h.kept (ne _ _ _ r2 (by decide)) (ne _ _ _ r4 (by decide))⟩
def RegL (w:World) (B:Nat) (v:Value) (l:List Bx):Prop:=∃ xs:List Value,w.ownsRow B 36 1 v l.length xs∧xs.length=l.length∧∀ (k:Nat) (b:Bx) (u:Value),l[k]? = some b→xs[k]? = some u→RgO w u b.1 b.2.1 b.2.2.1 b.2.2.2
theorem RegL.nil (w:World) (B:Nat):RegL w B (.slice none 0 0) []:=⟨[],World.ownsRow_nil _ _ _ _,rfl,fun k b u h=>by simp at h⟩
theorem RegL.kp {w w':World} {B:Nat} {v:Value} {l:List Bx} (h:RegL w B v l) (k:Kp w w'):RegL w' B v l:=by
 obtain ⟨xs,h1,h2,h3⟩:=h
 exact ⟨xs,ownsRow_kx (S:=[]) h1 (KX.of k) (by simp),h2,fun i b u e1 e2=>(h3 i b u e1 e2).kp k⟩
theorem RegL.snoc {w w':World} {B:Nat} {v v' u:Value} {l:List Bx} {b:Bx} {xs:List Value} (h1:w.ownsRow B 36 1 v l.length xs) (h2:xs.length=l.length) (h3:∀ (k:Nat) (b:Bx) (u:Value),l[k]? = some b→xs[k]? = some u→RgO w u b.1 b.2.1 b.2.2.1 b.2.2.2)
  (hu:RgO w u b.1 b.2.1 b.2.2.1 b.2.2.2) (hg:w.grownBy w' v.ownBlock) (hown:w'.ownsRow B 36 1 v' (l.length+1) (xs++[u])):RegL w' B v' (l++[b]):=by
 refine ⟨xs++[u],by rw [List.length_append];exact hown,by simp [h2],fun k c y e1 e2=>?_⟩
 rcases Nat.lt_or_ge k l.length with hk | hk
 ·rw [List.getElem?_append_left hk] at e1
  rw [List.getElem?_append_left (by omega)] at e2
  exact rgO_grown (h3 k c y e1 e2) h1 hg
 ·have hk2:k=l.length:=by
   have:=(List.getElem?_eq_some_iff.1 e1).1
   simp at this
   omega
  subst hk2
  rw [List.getElem?_append_right (Nat.le_refl _),Nat.sub_self] at e1
  rw [List.getElem?_append_right (by omega),h2,Nat.sub_self] at e2
  cases e1
  cases e2
  exact rgO_grown hu h1 hg
end Go.Proofs.YtgliljnbajohhaaGreatDoor
