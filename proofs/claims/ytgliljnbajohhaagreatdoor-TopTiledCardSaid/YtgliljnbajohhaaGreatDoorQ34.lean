import Derived.Test.YtgliljnbajohhaaGreatDoorQ33
import Derived.Defers
import Derived.Conc.MuLone
import Derived.Laws.LoneSync
import Derived.Sort.Row
set_option linter.unusedVariables false
set_option linter.unusedSimpArgs false
namespace Go.Ex
open Go Go.RowKit
structure XOk [Val] (P:Program) (tb:Tb):Prop where
 orc:∀ k args st r st',tb.orc k args st=some (r,st')→∀ (Pr:Nat→Prop) (w0:World) (ρ:Env) (w:World) (vs:List Value),WR Pr w0 ρ st.h.get st.nx w→VRs ρ args vs→CallS P k vs w (Out Pr w0 ρ st.nx r st')
 ext:∀ k e args st r st',tb.xt.get k=some e→extX e args st=some (r,st')→∀ (Pr:Nat→Prop) (w0:World) (ρ:Env) (w:World) (vs:List Value),WR Pr w0 ρ st.h.get st.nx w→VRs ρ args vs→CallS P k vs w (Out Pr w0 ρ st.nx r st')
 dext:∀ k e args st r st',tb.xt.get k=some e→e.isTurn=true→extX e args st=some (r,st')→∀ (Pr:Nat→Prop) (w0:World) (ρ:Env) (w:World) (vs:List Value),WR Pr w0 ρ st.h.get st.nx w→VRs ρ args vs →
  ∃ f args',(callFunc k vs.toArray).run P w=.ok (.enter f args') w∧CallsD P f args' .returning w fun e u' w'=>u'=.returning∧∃ c,e=.returned c∧Out Pr w0 ρ st.nx r st' c w'
section
variable {P:Program} {tb:Tb}
theorem enter_ok {k:Nat} {fn:Func} {c:Code} (hf:P.funcs[k]? = some fn) (hn:(fn.name == "runtime.NumGoroutine")=false) (hb:fn.body=some c) (vs:Array Value) (w:World):(callFunc k vs).run P w=.ok (.enter k vs) w:=by
 have hn':¬ fn.name = "runtime.NumGoroutine":=by simpa using hn
 simp [callFunc,hf,hn',hb]
theorem bodyX_ok [Val] {ex:Code→Fr→S→Option (Ex×Fr×S)} (hE:ExOk P ex) {fn:Func} {args:List AV} {st st':S} {F:Fr} (hb:bodyX ex fn args st=some (F,st')):∃ c,fn.body=some c∧∀ (Pr:Nat→Prop) (w0:World) (ρ:Env) (w:World) (vs:List Value) (Q:Exit→Act→World→Prop),
  WR Pr w0 ρ st.h.get st.nx w→VRs ρ args vs→(∀ a' w',Nxt Pr w0 ρ st.nx F st' a' w'→Q .normal a' w'∧Q .ret a' w')→c.wp P Q { tmps:=vs.toArray++Array.replicate (fn.ntmps - vs.toArray.size) undef,defers:=[] } w:=by
 unfold bodyX at hb
 rw [Bool.cond_eq_ite] at hb
 split at hb
 ·rename_i hn
  simp only [Bool.and_eq_true,nble,decide_eq_true_eq] at hn
  split at hb
  ·cases hb
  ·rename_i c hc
   refine ⟨c,hc,fun Pr w0 ρ w vs Q W hv hQ=>?_⟩
   have hi:=init_ok hv hn.1 hn.2
   split at hb
   ·rename_i F1 st1 he
    cases hb
    exact (hE _ _ _ _ _ _ he Pr w0 ρ _ w Q hi W fun a' w' hN=>(hQ a' w' hN).1).1
   ·rename_i F1 st1 he
    cases hb
    exact (hE _ _ _ _ _ _ he Pr w0 ρ _ w Q hi W fun a' w' hN=>(hQ a' w' hN).2).1
   ·cases hb
 ·cases hb
theorem leaves_ok [Val] (T:TbOk' P tb) (X:XOk P tb) {ex:Code→Fr→S→Option (Ex×Fr×S)} (hE:ExOk P ex) {fn:Func} {F:Fr} {vs:List AV} {R:Ending→World→Prop} {Pr:Nat→Prop} {w0:World} {a:Act} {st2:S} (hr:resX tb F.t st2.h fn.results.toList=some vs) :
  ∀ (l:List (Nat×List AV)) (ds:List Deferred) (st:S) (ρ:Env) (w:World),dfrs tb ex l st=some st2→DRs ρ l ds→FRm ρ F a→WR Pr w0 ρ st.h.get st.nx w →
   (∀ ρ2 c w2,Ext st.nx ρ ρ2→st.nx≤st2.nx→VR ρ2 (one vs) c→WR Pr w0 ρ2 st2.h.get st2.nx w2→R (.returned c) w2)→Leaves P fn a.tmps R ds .returning w
 | [],ds,st,ρ,w,hd,hs,h,W,hR=>by
  unfold dfrs at hd
  cases hd
  cases hs
  obtain ⟨c,h1,h2⟩:=results_ok T h W hr
  exact ⟨c,h2,hR _ _ _ (Ext.refl _ _) (Nat.le_refl _) h1 W⟩
 | (k,args) :: l,ds,st,ρ,w,hd,hs,h,W,hR=>by
  cases hs with
  | @cons _ _ cap d _ ds' ht hl hs' =>
   have hinv:∀ w,(invoke d.target d.args).run P w=(callFunc k (d.args++cap)).run P w:=fun w=>by rw [ht];simp [invoke]
   have harr:(d.args++cap).toList.toArray=d.args++cap:=by simp
   have next:∀ (st1:S) (r:AV) (c:Value) (w1:World),Out Pr w0 ρ st.nx r st1 c w1→dfrs tb ex l st1=some st2→Leaves P fn a.tmps R ds' .returning w1:=fun st1 r c w1 ⟨ρ1,e1,n1,_,W1⟩ hd1 =>
    leaves_ok T X hE hr l ds' st1 ρ1 w1 hd1 (hs'.mono (e1.le W)) (h.mono (e1.le W)) W1 fun ρ2 c2 w2 e2 n2 v2 W2=>hR ρ2 c2 w2 (e1.trans e2 n1) (Nat.le_trans n1 n2) v2 W2
   unfold dfrs at hd
   split at hd
   ·rename_i e he
    rw [Bool.cond_eq_ite] at hd
    split at hd
    ·rename_i htn
     split at hd
     ·rename_i r st1 hx
      obtain ⟨f,args',g1,g2⟩:=X.dext k e args st r st1 he htn hx Pr w0 ρ w _ W hl
      rw [harr] at g1
      refine ⟨by simp,_,cap,f,args',ht,(hinv w).trans g1,g2.mono fun e u' w' ⟨hu,c,he,ho⟩=>?_⟩
      subst he
      subst hu
      exact next _ _ _ _ ho hd
     ·cases hd
    ·cases hd
   ·split at hd
    ·cases hd
    ·rename_i fn' hfn
     obtain ⟨hf,hname⟩:=T.ft _ _ hfn
     split at hd
     ·rename_i F1 st1 hb
      split at hd
      ·rename_i vs' hFd hres
       obtain ⟨c,hbody,hwp⟩:=bodyX_ok hE hb
       refine ⟨by simp,_,cap,k,d.args++cap,ht,(hinv w).trans (enter_ok hf hname hbody _ w),?_⟩
       have hfin:∀ a' w',Nxt Pr w0 ρ st.nx F1 st1 a' w'→a'.defers=[]∧∃ v,(results fn' a'.tmps).run P w'=.ok v w'∧(∃ c,Ending.returned v=.returned c∧Out Pr w0 ρ st.nx (one vs') st1 c w'):=fun a' w' ⟨ρ1,e1,n1,h1,W1⟩=>by
        obtain ⟨c,g1,g2⟩:=results_ok T h1 W1 hres
        have hd0:=h1.df
        rw [hFd] at hd0
        refine ⟨?_,c,g2,c,rfl,ρ1,e1,n1,g1,W1⟩
        generalize a'.defers=dd at hd0
        cases hd0
        rfl
       have hw:=callsD_of_wp (u:=.returning) (R:=fun e w'=>∃ c,e=.returned c∧Out Pr w0 ρ st.nx (one vs') st1 c w') hf hbody (by
        have:=hwp Pr w0 ρ w _ (bodyPost P fn' fun e w'=>∃ c,e=.returned c∧Out Pr w0 ρ st.nx (one vs') st1 c w') W hl fun a' w' hN=>⟨hfin a' w' hN,hfin a' w' hN⟩
        rw [harr] at this
        exact this)
       refine hw.mono fun e u' w' ⟨hu,c,he,ho⟩=>?_
       subst he
       subst hu
       exact next _ _ _ _ ho hd
      ·cases hd
     ·cases hd
theorem callX_ok [Val] (T:TbOk' P tb) (X:XOk P tb) {ex:Code→Fr→S→Option (Ex×Fr×S)} (hE:ExOk P ex):CallOk P (callX tb ex):=by
 intro k args st st' r hc Pr w0 ρ w vs W hv
 unfold callX at hc
 split at hc
 ·rename_i r' ho
  cases hc
  exact X.orc _ _ _ _ _ ho Pr w0 ρ w vs W hv
 ·split at hc
  ·rename_i e he
   exact X.ext _ _ _ _ _ _ he hc Pr w0 ρ w vs W hv
  ·split at hc
   ·cases hc
   ·rename_i fn hfn
    obtain ⟨hf,hname⟩:=T.ft _ _ hfn
    split at hc
    ·cases hc
    ·rename_i F st1 hb
     split at hc
     ·cases hc
     ·rename_i st2 hd
      split at hc
      ·rename_i l hres
       cases hc
       obtain ⟨c,hbody,hwp⟩:=bodyX_ok hE hb
       unfold CallS
       rw [enter_ok hf hname hbody]
       refine calls_of_wp_defers hf hbody (hwp Pr w0 ρ w vs _ W hv fun a' w' ⟨ρ1,e1,n1,h1,W1⟩=>?_)
       have:=leaves_ok (R:=fun e w'=>∃ c,e=.returned c∧Out Pr w0 ρ st.nx (one l) st' c w') T X hE hres _ _ _ _ _ hd h1.df h1 W1 fun ρ2 c2 w2 e2 n2 v2 W2=>⟨c2,rfl,ρ2,e1.trans e2 n1,Nat.le_trans n1 n2,v2,W2⟩
       exact ⟨this,this⟩
      ·cases hc
theorem exec_ok [Val] (T:TbOk' P tb) (X:XOk P tb):∀ n,ExOk P (exec tb n)
 | 0=>fun c F F' st st' x hx=>by cases hx
 | n+1=>xArm_ok T (exec_ok T X n) (callX_ok T X (exec_ok T X n))
theorem run_ok [Val] (T:TbOk' P tb) (X:XOk P tb) (n:Nat):CallOk P (run tb n):=callX_ok T X (exec_ok T X n)
end
end Go.Ex
namespace Go.Ex
open Go Go.RowKit
section
variable {P:Program} {ρ:Env} {Pr:Nat→Prop} {w0 w w':World} {st st':S} {args:List AV} {vs:List Value} {r:AV} {f:FuncId} {fn:Func}
theorem setCell_row (w:World) (b off:Nat) (v:Value) {cs:Array Value} {t:TypeId} {fr:Nat×Nat} (hb:w.heap[b]? = some (.cells cs t fr)):w.setCell ⟨b,off,none⟩ v=w.setRow b (cs.setIfInBounds off v):=by
 unfold World.setCell World.setRow
 congr 1
 apply Array.ext_getElem?
 intro k
 simp only [Array.getElem?_modify]
 by_cases hk:b=k
 ·subst hk;simp [hb]
 ·simp [hk]
theorem upd_cell [Val] (W:WR Pr w0 ρ st.h.get st.nx w) {id:Nat} {l:List AV} {e sz:Nat} {g:Gr} (hi:st.h.get id=some (.row l e sz g)) {b s:Nat} {cs ds:List Value} (he:ρ id=some (b,s))
  (hb:w.heap[b]? = some (.cells (cs++ds).toArray e (0,0))) (hl:VRs ρ l cs) (hd:ds.length=s * sz) (h1:∀ a∈l,a.one=true) (hg:GrOk g s ds) {off:Nat} (ho:off<l.length) {a:AV} {v:Value} (hv:VR ρ a v) (ha:a.one=true) :
  WR Pr w0 ρ (st.upd id (.row (put l off [a]) e sz g)).h.get (st.upd id (.row (put l off [a]) e sz g)).nx (w.setCell ⟨b,off,none⟩ v):=by
 rw [setCell_row w b off v hb]
 have hll:=hl.len
 have:=upd_row W hi he hb hd hg (hl.put (.cons hv .nil) off) (fun x hx=>(mem_put hx).elim (h1 x) (fun h=>by simp at h;subst h;exact ha))
 have e1:(cs++ds).toArray.setIfInBounds off v=(cs.take off++[v]++cs.drop (off+[v].length)++ds).toArray:=by
  rw [← put_app cs ds [v] off (by simp;omega)]
  simp only [List.setIfInBounds_toArray,List.length_cons,List.length_nil,Nat.zero_add]
  congr 1
  rw [List.set_eq_take_append_cons_drop,if_pos (by simp;omega)]
  simp
 rw [e1]
 exact this
theorem ptr_row [Val] (W:WR Pr w0 ρ st.h.get st.nx w) {id off:Nat} {l:List AV} {e sz:Nat} {g:Gr} (hi:st.h.get id=some (.row l e sz g)) {v:Value} (hv:VR ρ (.p id off) v) :
  ∃ b s cs ds,ρ id=some (b,s)∧v=.pointer (some ⟨b,off,none⟩)∧w.heap[b]? = some (.cells (cs++ds).toArray e (0,0))∧VRs ρ l cs∧ds.length=s * sz∧(∀ a∈l,a.one=true)∧GrOk g s ds:=by
 obtain ⟨b,s,cs,ds,h1,h2,h3,h4,h5,h6⟩:=W.row hi
 cases hv with
 | p h=>rw [h1] at h;cases h;exact ⟨b,s,cs,ds,h1,rfl,h2,h3,h4,h5,h6⟩
theorem out_same [Val] {v:Value} (hv:VR ρ r v) (W:WR Pr w0 ρ st.h.get st.nx w):Out Pr w0 ρ st.nx r st v w:=⟨ρ,Ext.refl _ _,Nat.le_refl _,hv,W⟩
theorem upd_nx (st:S) (id:Nat) (o:AObj):(st.upd id o).nx=st.nx:=by obtain ⟨_,_⟩:=st;rfl
theorem out_upd [Val] {id:Nat} {o:AObj} (W:WR Pr w0 ρ (st.upd id o).h.get (st.upd id o).nx w):Out Pr w0 ρ st.nx (.tup []) (st.upd id o) (.tuple #[]) w:=⟨ρ,Ext.refl _ _,by rw [upd_nx];exact Nat.le_refl _,.tup (xs:=[]) .nil,W⟩
theorem ext_load [Val] (hf:P.funcs[f]? = some fn) (hname:(fn.name == "runtime.NumGoroutine")=false) (hb:fn.body.isNone=true) (hn:Extern.findNext fn=none) (k:IntKind)
  (he:Extern.find fn=some (Extern.Atomic.loadT (.int k))) (h:extX (.load k) args st=some (r,st')) (W:WR Pr w0 ρ st.h.get st.nx w) (hv:VRs ρ args vs):CallS P f vs w (Out Pr w0 ρ st.nx r st'):=by
 unfold extX at h
 split at h <;> try (first | contradiction | (cases h;done))
 rename_i k' id off heq
 cases heq
 split at h
 ·rename_i l e sz g hrow
  split at h
  ·rename_i k2 m hm
   by_cases hk:k=k2
   ·subst hk
    simp only [decide_true,cond_true,Option.some.injEq,Prod.mk.injEq] at h
    obtain ⟨rfl,rfl⟩:=h
    cases hv with
    | cons h1 h2 =>
     cases h2
     obtain ⟨b,s,cs,ds,c1,rfl,c2,c3,c4,c5,c6⟩:=ptr_row W hrow h1
     obtain ⟨x,hx,hxv⟩:=c3.get hm
     cases hxv
     have:=run_call_load (P:=P) hf hname hb hn k he (a:=⟨b,off,none⟩) (cell_app c2 hx)
     unfold CallS
     rw [show [Value.pointer (some ⟨b,off,none⟩)].toArray = #[Value.pointer (some ⟨b,off,none⟩)] from rfl,this]
     exact out_same (.i _ _) W
   ·simp [hk] at h
  ·cases h
 ·cases h
theorem ext_store [Val] (hf:P.funcs[f]? = some fn) (hname:(fn.name == "runtime.NumGoroutine")=false) (hb:fn.body.isNone=true) (hn:Extern.findNext fn=none) (k:IntKind)
  (he:Extern.find fn=some Extern.Atomic.storeT) (h:extX (.store k) args st=some (r,st')) (W:WR Pr w0 ρ st.h.get st.nx w) (hv:VRs ρ args vs):CallS P f vs w (Out Pr w0 ρ st.nx r st'):=by
 unfold extX at h
 split at h <;> try (first | contradiction | (cases h;done))
 rename_i k' id off k2 m heq
 cases heq
 split at h
 ·rename_i l e sz g hrow
  cases hq:(Nat.ble (Nat.succ off) l.length && decide (k=k2)) with
  | false=>simp [hq] at h
  | true =>
   simp only [hq,cond_true,Option.some.injEq,Prod.mk.injEq] at h
   simp only [nble,Bool.and_eq_true,decide_eq_true_eq] at hq
   obtain ⟨hq,rfl⟩:=hq
   obtain ⟨rfl,rfl⟩:=h
   cases hv with
   | cons h1 h2 =>
    cases h2 with
    | cons h3 h4 =>
     cases h4
     cases h3
     obtain ⟨b,s,cs,ds,c1,rfl,c2,c3,c4,c5,c6⟩:=ptr_row W hrow h1
     obtain ⟨x,hx,hxv⟩:=c3.get (List.getElem?_eq_getElem hq)
     have:=run_call_store (P:=P) hf hname hb hn he (a:=⟨b,off,none⟩) (k:=k) (y:=m) (cell_app c2 hx) (frozen_of_row w b off _ _ c2)
     unfold CallS
     rw [show [Value.pointer (some ⟨b,off,none⟩),Value.int k m].toArray = #[Value.pointer (some ⟨b,off,none⟩),Value.int k m] from rfl,this]
     exact out_upd (upd_cell W hrow c1 c2 c3 c4 c5 c6 hq (.i _ _) rfl)
 ·cases h
theorem ext_add [Val] (hf:P.funcs[f]? = some fn) (hname:(fn.name == "runtime.NumGoroutine")=false) (hb:fn.body.isNone=true) (hn:Extern.findNext fn=none) (k:IntKind)
  (he:Extern.find fn=some (Extern.Atomic.update (Op.intArith .add) k true)) (h:extX (.add k) args st=some (r,st')) (W:WR Pr w0 ρ st.h.get st.nx w) (hv:VRs ρ args vs):CallS P f vs w (Out Pr w0 ρ st.nx r st'):=by
 unfold extX at h
 split at h <;> try (first | contradiction | (cases h;done))
 rename_i k' id off k2 n heq
 cases heq
 split at h
 ·rename_i l e sz g hrow
  split at h
  ·rename_i k3 m hm
   cases hq:(decide (k=k2) && decide (k=k3)) with
   | false=>simp [hq] at h
   | true =>
    simp only [hq,cond_true,Option.some.injEq,Prod.mk.injEq] at h
    simp only [Bool.and_eq_true,decide_eq_true_eq] at hq
    obtain ⟨rfl,rfl⟩:=hq
    obtain ⟨rfl,rfl⟩:=h
    cases hv with
    | cons h1 h2 =>
     cases h2 with
     | cons h3 h4 =>
      cases h4
      cases h3
      obtain ⟨b,s,cs,ds,c1,rfl,c2,c3,c4,c5,c6⟩:=ptr_row W hrow h1
      obtain ⟨x,hx,hxv⟩:=c3.get hm
      cases hxv
      have hlt:off<l.length:=(List.getElem?_eq_some_iff.1 hm).1
      have:=run_call_add (P:=P) hf hname hb hn k he (a:=⟨b,off,none⟩) (x:=m) (y:=n) (s:=wr k (m+n)) (cell_app c2 hx) (frozen_of_row w b off _ _ c2) (by simp [Op.intArith,wr_eq])
      unfold CallS
      rw [show [Value.pointer (some ⟨b,off,none⟩),Value.int k n].toArray = #[Value.pointer (some ⟨b,off,none⟩),Value.int k n] from rfl,this]
      have hu:=upd_cell W hrow c1 c2 c3 c4 c5 c6 hlt (.i k (wr k (m+n))) rfl
      exact ⟨ρ,Ext.refl _ _,by rw [upd_nx];exact Nat.le_refl _,.i _ _,hu⟩
  ·cases h
 ·cases h
open Go.Conc.Locks Go.MuLone in
theorem ext_lock [Val] {L:MuLink} (H:MuLib P L) (h:extX (.turn .i32 0 1) args st=some (r,st')) (W:WR Pr w0 ρ st.h.get st.nx w) (hv:VRs ρ args vs):CallS P L.lock vs w (Out Pr w0 ρ st.nx r st'):=by
 unfold extX at h
 split at h <;> try (first | contradiction | (cases h;done))
 rename_i k a b id off heq
 cases heq
 split at h
 ·rename_i l e sz g hrow
  split at h
  ·rename_i k3 m hm
   cases hq:(decide (IntKind.i32=k3) && ieq m 0) with
   | false=>simp [hq] at h
   | true =>
    simp only [hq,cond_true,Option.some.injEq,Prod.mk.injEq] at h
    simp only [Bool.and_eq_true,decide_eq_true_eq,ieq_eq] at hq
    obtain ⟨rfl,rfl⟩:=hq
    obtain ⟨rfl,rfl⟩:=h
    cases hv with
    | cons h1 h2 =>
     cases h2
     obtain ⟨b,s,cs,ds,c1,rfl,c2,c3,c4,c5,c6⟩:=ptr_row W hrow h1
     obtain ⟨x,hx,hxv⟩:=c3.get hm
     cases hxv
     have hlt:off<l.length:=(List.getElem?_eq_some_iff.1 hm).1
     have:=lock_free H ⟨b,off,none⟩ w (cell_app c2 hx) (frozen_of_row w b off _ _ c2)
     unfold CallS
     rw [run_callFunc_enter H.f_lock (by kernel_rfl) rfl]
     refine this.mono ?_
     rintro e w' ⟨rfl,rfl⟩
     exact ⟨_,rfl,out_upd (upd_cell W hrow c1 c2 c3 c4 c5 c6 hlt (.i _ _) rfl)⟩
  ·cases h
 ·cases h
open Go.Conc.Locks Go.MuLone in
theorem ext_unlock [Val] {L:MuLink} (H:MuLib P L) (h:extX (.turn .i32 1 0) args st=some (r,st')) (W:WR Pr w0 ρ st.h.get st.nx w) (hv:VRs ρ args vs):CallS P L.unlock vs w (Out Pr w0 ρ st.nx r st') ∧
  ∃ f args',(callFunc L.unlock vs.toArray).run P w=.ok (.enter f args') w∧CallsD P f args' .returning w fun e u' w'=>u'=.returning∧∃ c,e=.returned c∧Out Pr w0 ρ st.nx r st' c w':=by
 unfold extX at h
 split at h <;> try (first | contradiction | (cases h;done))
 rename_i k a b id off heq
 cases heq
 split at h
 ·rename_i l e sz g hrow
  split at h
  ·rename_i k3 m hm
   cases hq:(decide (IntKind.i32=k3) && ieq m 1) with
   | false=>simp [hq] at h
   | true =>
    simp only [hq,cond_true,Option.some.injEq,Prod.mk.injEq] at h
    simp only [Bool.and_eq_true,decide_eq_true_eq,ieq_eq] at hq
    obtain ⟨rfl,rfl⟩:=hq
    obtain ⟨rfl,rfl⟩:=h
    cases hv with
    | cons h1 h2 =>
     cases h2
     obtain ⟨b,s,cs,ds,c1,rfl,c2,c3,c4,c5,c6⟩:=ptr_row W hrow h1
     obtain ⟨x,hx,hxv⟩:=c3.get hm
     cases hxv
     have hlt:off<l.length:=(List.getElem?_eq_some_iff.1 hm).1
     have hu:=upd_cell W hrow c1 c2 c3 c4 c5 c6 hlt (.i .i32 0) rfl
     constructor
     ·have:=unlock_held H ⟨b,off,none⟩ w (cell_app c2 hx) (frozen_of_row w b off _ _ c2)
      unfold CallS
      rw [run_callFunc_enter H.f_unlock (by kernel_rfl) rfl]
      refine this.mono ?_
      rintro e w' ⟨rfl,rfl⟩
      exact ⟨_,rfl,out_upd hu⟩
     ·have:=unlock_deferred H ⟨b,off,none⟩ .returning w (cell_app c2 hx) (frozen_of_row w b off _ _ c2)
      refine ⟨_,_,run_callFunc_enter H.f_unlock (by kernel_rfl) rfl _ w,this.mono ?_⟩
      rintro e u' w' ⟨rfl,rfl,rfl⟩
      exact ⟨rfl,_,rfl,out_upd hu⟩
  ·cases h
 ·cases h
end
end Go.Ex
namespace Go.Ex
open Go Go.RowKit
section
variable {P:Program} {tb:Tb}
theorem Done.mono {R R':Value→World→Prop} (k:∀ c w',R c w'→R' c w') {x:Result Next} (h:Done P R x):Done P R' x:=by
 cases x with
 | ok n w' =>
  cases n with
  | value c=>exact k _ _ h
  | skip=>exact k _ _ h
  | enter f as=>exact Calls.mono h fun e w'' ⟨c,e1,h1⟩=>⟨c,e1,k _ _ h1⟩
  | _=>exact h
 | _=>exact h
theorem wr_none [Val] (w:World) (hx:Val.ctx (fun b=>b<w.heap.size) w):WR (fun b=>b<w.heap.size) w (fun _=>none) (T.e:T AObj).get 0 w where
 os:=rfl
 tape:=rfl
 output:=rfl
 size:=Nat.le_refl _
 pr _ _:=rfl
 prlt _ h:=h
 sm:=by omega
 fresh _ _:=rfl
 at_ id o h:=by rw [T.get_e] at h;cases h
 inj i j oi oj g s s' h:=by rw [T.get_e] at h;cases h
 cx:=hx
theorem WR.kq [Val] {w w':World} {ρ:Env} {h:Nat→Option AObj} {n:Nat} (W:WR (fun b=>b<w.heap.size) w ρ h n w'):Kq w w':=⟨W.os,W.tape,W.output,W.size,fun k hk=>W.pr k hk⟩
theorem memo_ok [Val] (T:TbOk' P tb) (X:XOk P tb) {n k:Nat} {args:List AV} {r:AV} {st1:S} (hrun:run tb n k args ⟨.e,0⟩=some (r,st1)) (hx:∀ w:World,Val.ctx (fun b=>b<w.heap.size) w) (ha:∀ (ρ ρ':Env) vs,VRs ρ args vs→VRs ρ' args vs) (hr:∀ (ρ ρ':Env) v,VR ρ r v→VR ρ' r v)
  (st:S) (Pr:Nat→Prop) (w0:World) (ρ:Env) (w:World) (vs:List Value) (W:WR Pr w0 ρ st.h.get st.nx w) (hv:VRs ρ args vs):CallS P k vs w (Out Pr w0 ρ st.nx r st) :=
 Done.mono (fun c w' ⟨ρ',_,_,hc,W'⟩=>⟨ρ,Ext.refl _ _,Nat.le_refl _,hr _ _ _ hc,W.kept W'.kq⟩) (run_ok T X n _ _ _ _ _ hrun (fun b=>b<w.heap.size) w (fun _=>none) w vs (wr_none w (hx w)) (ha _ _ _ hv))
def AV.flat:AV→Bool
 | .b _ | .i _ _ | .s _ | .p0 | .s0 | .m0 | .f0 | .if0 | .lx _ _ | .ly _=>true
 | _=>false
theorem flat_vr [Val] {a:AV} (h:a.flat=true) {ρ ρ':Env} {v:Value} (hv:VR ρ a v):VR ρ' a v:=by
 cases hv <;> first | (constructor;done) | (constructor;assumption) | (simp [AV.flat] at h)
theorem flats_vr [Val]:∀ {l:List AV},l.all AV.flat=true→∀ {ρ ρ':Env} {vs:List Value},VRs ρ l vs→VRs ρ' l vs
 | [],_,_,_,_,.nil=>.nil
 | a :: l,h,_,_,_,.cons h1 h2=>by simp at h;exact .cons (flat_vr h.1 h1) (flats_vr (by simpa using h.2) h2)
theorem vrs_fn [Val]:∀ {l:List AV},l.all AV.flat=true→∀ {ρ:Env} {xs ys:List Value},VRs ρ l xs→VRs ρ l ys→xs=ys
 | [],_,_,_,_,.nil,.nil=>rfl
 | a :: l,h,_,_,_,.cons p1 p2,.cons q1 q2=>by
  simp only [List.all_cons,Bool.and_eq_true] at h
  rw [vrs_fn h.2 p2 q2]
  congr 1
  cases p1 <;> cases q1 <;> first | rfl | (simp [AV.flat] at h;done)
theorem aggs_vr [Val] {l:List AV} (h:l.all AV.flat=true) (ρ ρ':Env) (v:Value) (hv:VR ρ (.agg l) v):VR ρ' (.agg l) v:=by
 cases hv with
 | agg h1=>exact .agg (flats_vr h h1)
theorem run_closed [Val] (T:TbOk' P tb) (X:XOk P tb) (hx:∀ w:World,Val.ctx (fun b=>b<w.heap.size) w) {n k:Nat} {r:AV} {st1:S} (hrun:run tb n k [] ⟨.e,0⟩=some (r,st1)) {fn:Func} {c:Code} (hf:P.funcs[k]? = some fn) (hn:(fn.name == "runtime.NumGoroutine")=false) (hb:fn.body=some c) (w:World) :
  Calls P k #[] w fun e w'=>∃ v ρ',e=.returned v∧VR ρ' r v∧Kq w w':=by
 have:=run_ok T X n _ _ _ _ _ hrun (fun b=>b<w.heap.size) w (fun _=>none) w [] (wr_none w (hx w)) .nil
 unfold CallS at this
 rw [enter_ok hf hn hb] at this
 refine Calls.mono this fun e w' ⟨v,e1,ρ',_,_,hv,W'⟩=>⟨v,ρ',e1,hv,W'.kq⟩
structure HR [Val] (ρ:Env) (h:Nat→Option AObj) (nx:Nat) (w:World):Prop where
 sm:nx≤1000100
 fresh:∀ id,nx≤id→ρ id=none
 at_:∀ id o,h id=some o→∃ g s ob,ρ id=some (g,s)∧w.heap[g]? = some ob∧OR ρ s o ob
 inj:∀ i j oi oj g s s',h i=some oi→h j=some oj→ρ i=some (g,s)→ρ j=some (g,s')→i=j
def PrOf (ρ:Env) (h:Nat→Option AObj) (w:World) (b:Nat):Prop:=b<w.heap.size∧∀ id o s,h id=some o→ρ id≠some (b,s)
theorem HR.wr [Val] {ρ:Env} {h:Nat→Option AObj} {n:Nat} {w:World} (H:HR ρ h n w) (hx:Val.ctx (PrOf ρ h w) w):WR (PrOf ρ h w) w ρ h n w where
 os:=rfl
 tape:=rfl
 output:=rfl
 size:=Nat.le_refl _
 pr _ _:=rfl
 prlt _ h:=h.1
 sm:=H.sm
 fresh:=H.fresh
 at_ id o ho:=by
  obtain ⟨g,s,ob,h1,h2,h3⟩:=H.at_ id o ho
  exact ⟨g,s,ob,h1,fun hp=>hp.2 id o s ho h1,h2,h3⟩
 inj:=H.inj
 cx:=hx
theorem WR.hr [Val] {Pr:Nat→Prop} {w0 w:World} {ρ:Env} {h:Nat→Option AObj} {n:Nat} (W:WR Pr w0 ρ h n w):HR ρ h n w where
 sm:=W.sm
 fresh:=W.fresh
 at_ id o ho:=by
  obtain ⟨g,s,ob,h1,_,h2,h3⟩:=W.at_ id o ho
  exact ⟨g,s,ob,h1,h2,h3⟩
 inj:=W.inj
theorem HR.add [Val] {ρ:Env} {h:Nat→Option AObj} {n:Nat} {w:World} (H:HR ρ h n w) (hn:n<1000100) {g s:Nat} {o:AObj} {ob:Obj} (hg:w.heap[g]? = some ob) (hlive:∀ i oi s',h i=some oi→ρ i≠some (g,s')) (hor:OR (ρ.add n (g,s)) s o ob):HR (ρ.add n (g,s)) (fun j=>if j=n then some o else h j) (n+1) w where
 sm:=by omega
 fresh id hid:=by rw [Env.add_other ρ _ (by omega)];exact H.fresh id (by omega)
 at_ id o' ho:=by
  by_cases c:id=n
  ·subst c
   simp at ho
   subst ho
   exact ⟨g,s,ob,Env.add_same _ _ _,hg,hor⟩
  ·simp only [c,if_false] at ho
   obtain ⟨g',s',ob',h1,h2,h3⟩:=H.at_ id o' ho
   exact ⟨g',s',ob',by rw [Env.add_other ρ _ c];exact h1,h2,h3.mono (Le.add _ (H.fresh n (Nat.le_refl _)))⟩
 inj i j oi oj g' s1 s2 hi hj ei ej:=by
  by_cases c1:i=n <;> by_cases c2:j=n
  ·rw [c1,c2]
  ·exfalso
   simp only [c2,if_false] at hj
   subst c1
   rw [Env.add_same] at ei;cases ei
   rw [Env.add_other ρ _ c2] at ej
   exact hlive j oj s2 hj ej
  ·exfalso
   simp only [c1,if_false] at hi
   subst c2
   rw [Env.add_same] at ej;cases ej
   rw [Env.add_other ρ _ c1] at ei
   exact hlive i oi s1 hi ei
  ·simp only [c1,c2,if_false] at hi hj
   rw [Env.add_other ρ _ c1] at ei
   rw [Env.add_other ρ _ c2] at ej
   exact H.inj i j oi oj g' s1 s2 hi hj ei ej
theorem HR.zero [Val] (w:World):HR (fun _=>none) (fun _=>none) 0 w:=⟨by omega,fun _ _=>rfl,fun id o h=>(by cases h),fun i j oi oj g s s' h=>(by cases h)⟩
theorem HR.name [Val] {ρ:Env} {h:Nat→Option AObj} {n:Nat} {w:World} (H:HR ρ h n w) (hn:n<1000100) (g s:Nat):HR (ρ.add n (g,s)) h (n+1) w where
 sm:=by omega
 fresh id hid:=by rw [Env.add_other ρ _ (by omega)];exact H.fresh id (by omega)
 at_ id o ho:=by
  obtain ⟨g',s',ob',h1,h2,h3⟩:=H.at_ id o ho
  have c:id≠n:=fun e=>by rw [e,H.fresh n (Nat.le_refl _)] at h1;cases h1
  exact ⟨g',s',ob',by rw [Env.add_other ρ _ c];exact h1,h2,h3.mono (Le.add _ (H.fresh n (Nat.le_refl _)))⟩
 inj i j oi oj g' s1 s2 hi hj ei ej:=by
  have live:∀ k o,h k=some o→k≠n:=fun k o hk e=>by
   obtain ⟨g',s',ob',h1,h2,h3⟩:=H.at_ k o hk
   rw [e,H.fresh n (Nat.le_refl _)] at h1
   cases h1
  rw [Env.add_other ρ _ (live i oi hi)] at ei
  rw [Env.add_other ρ _ (live j oj hj)] at ej
  exact H.inj i j oi oj g' s1 s2 hi hj ei ej
noncomputable def S.put1 (s:S) (o:AObj):S:=⟨s.h.set 30 s.nx (some o),s.nx+1⟩
noncomputable def S.nm (s:S):S:=⟨s.h,s.nx+1⟩
noncomputable def S.nil:S:=⟨.e,0⟩
theorem HR.put1 [Val] {ρ:Env} {s:S} {w:World} (H:HR ρ s.h.get s.nx w) (hn:s.nx<1000100) {g m:Nat} {o:AObj} {ob:Obj} (hg:w.heap[g]? = some ob) (hlive:∀ i oi s',s.h.get i=some oi→ρ i≠some (g,s')) (hor:OR (ρ.add s.nx (g,m)) m o ob) :
  HR (ρ.add s.nx (g,m)) (s.put1 o).h.get (s.put1 o).nx w:=by
 have:=H.add hn hg hlive hor
 rwa [show (fun j=>if j=s.nx then some o else s.h.get j)=(s.put1 o).h.get from funext fun j=>(set_get s.h (some o) hn j).symm] at this
theorem HR.nm [Val] {ρ:Env} {s:S} {w:World} (H:HR ρ s.h.get s.nx w) (hn:s.nx<1000100) (g m:Nat):HR (ρ.add s.nx (g,m)) s.nm.h.get s.nm.nx w:=H.name hn g m
theorem HR.nil [Val] (w:World):HR (fun _=>none) S.nil.h.get S.nil.nx w:=HR.zero w
theorem run_calls [Val] (T:TbOk' P tb) (X:XOk P tb) {n k:Nat} {args:List AV} {r:AV} {st st1:S} (hrun:run tb n k args st=some (r,st1)) {fn:Func} {c:Code} (hf:P.funcs[k]? = some fn) (hn:(fn.name == "runtime.NumGoroutine")=false) (hb:fn.body=some c)
  {ρ:Env} {w:World} (H:HR ρ st.h.get st.nx w) (hx:Val.ctx (PrOf ρ st.h.get w) w) {vs:List Value} (hv:VRs ρ args vs) :
  Calls P k vs.toArray w fun e w'=>∃ v ρ',e=.returned v∧VR ρ' r v∧Ext st.nx ρ ρ'∧WR (PrOf ρ st.h.get w) w ρ' st1.h.get st1.nx w':=by
 have:=run_ok T X n _ _ _ _ _ hrun (PrOf ρ st.h.get w) w ρ w vs (H.wr hx) hv
 unfold CallS at this
 rw [enter_ok hf hn hb] at this
 exact Calls.mono this fun e w' ⟨v,e1,ρ',e2,_,hv,W'⟩=>⟨v,ρ',e1,hv,e2,W'⟩
def Gr.beq:Gr→Gr→Bool
 | .no,.no=>true
 | .yes,.yes=>true
 | .told a,.told b=>Nat.beq a b
 | _,_=>false
theorem Gr.beq_eq {a b:Gr} (h:a.beq b=true):a=b:=by
 cases a <;> cases b <;> first | rfl | (cases h;done) | rw [nbt h]
noncomputable def rowIs (st:S) (id:Nat) (l:List AV) (e sz:Nat) (g:Gr):Bool :=
 match st.h.get id with
 | some (.row l' e' sz' g')=>AV.beqs l' l && Nat.beq e' e && Nat.beq sz' sz && g'.beq g
 | _=>false
theorem rowIs_ok [Val] {st:S} {id:Nat} {l:List AV} {e sz:Nat} {g:Gr} (h:rowIs st id l e sz g=true):st.h.get id=some (.row l e sz g):=by
 unfold rowIs at h
 split at h
 ·rename_i l' e' sz' g' hg
  simp only [Bool.and_eq_true] at h
  rw [hg,AV.beqs_eq _ _ h.1.1.1,nbt h.1.1.2,nbt h.1.2,Gr.beq_eq h.2]
 ·cases h
noncomputable def ends (x:Option (AV×S)) (r:AV) (p:S→Bool):Bool :=
 match x with
 | some (v,st)=>AV.beq v r && p st
 | none=>false
theorem ends_ok [Val] {x:Option (AV×S)} {r:AV} {p:S→Bool} (h:ends x r p=true):∃ st,x=some (r,st)∧p st=true:=by
 unfold ends at h
 split at h
 ·simp only [Bool.and_eq_true] at h
  exact ⟨_,by rw [AV.beq_eq _ _ h.1],h.2⟩
 ·cases h
end
end Go.Ex
