import Derived.Test.YtgliljnbajohhaaGreatDoorQ29
set_option linter.unusedVariables false
set_option linter.unusedSimpArgs false
namespace Go.Ex
open Go Go.RowKit
section
variable {P:Program} {tb:Tb} {ρ:Env} {Pr:Nat→Prop} {w0 w:World} {h:Nat→Option AObj} {nx:Nat}
inductive FR [Val] (ρ:Env):Option (Nat×AV)→Option (Nat×Value)→Prop
 | no:FR ρ none none
 | yes {i:Nat} {a:AV} {x:Value} (h:VR ρ a x):FR ρ (some (i,a)) (some (i,x))
theorem str_beq (a b:List UInt8):((⟨a.toArray⟩:ByteArray) == ⟨b.toArray⟩)=(a == b):=by
 show (a.toArray == b.toArray)=(a == b)
 simp
theorem find_int [Val] {k:IntKind} {n:Int} {kd:IntKind}:∀ {es:List (AV×AV×Nat)} {en:List MapEntry} {i:Nat} {res:Option (Nat×AV)},ERs ρ es en→findE (.i k n) es i=some res →
  ∃ res',Instr.findNow (.int kd) (.int k n) en i=some res'∧FR ρ res res'
 | [],en,i,res,he,hf=>by cases he;simp [findE] at hf;subst hf;exact ⟨none,rfl,.no⟩
 | (x,v,c) :: r,en,i,res,he,hf=>by
  cases he with
  | cons hk hv hs =>
   unfold findE at hf
   cases hx:keyEq (.i k n) x with
   | none=>rw [hx] at hf;cases hf
   | some b =>
    rw [hx] at hf
    cases x <;> simp only [keyEq,reduceCtorEq] at hx
    rename_i k' n'
    by_cases hkk:k=k'
    ·subst hkk
     simp only [decide_true,cond_true,Option.some.injEq,ieq_eq] at hx
     cases hk
     cases b
     ·have e0:¬ n=n':=of_decide_eq_false hx
      obtain ⟨res',h1,h2⟩:=find_int (kd:=kd) hs hf
      refine ⟨res',?_,h2⟩
      have:(n == n')=false:=by simpa using e0
      simp [Instr.findNow,Instr.sameNow,this,h1]
     ·have e0:n=n':=of_decide_eq_true hx
      simp at hf
      subst hf
      refine ⟨_,?_,.yes hv⟩
      simp [Instr.findNow,Instr.sameNow,e0]
    ·simp [hkk] at hx
theorem find_str [Val] {l:List UInt8}:∀ {es:List (AV×AV×Nat)} {en:List MapEntry} {i:Nat} {res:Option (Nat×AV)},ERs ρ es en→findE (.s l) es i=some res →
  ∃ res',Instr.findNow .string (.string ⟨l.toArray⟩) en i=some res'∧FR ρ res res'
 | [],en,i,res,he,hf=>by cases he;simp [findE] at hf;subst hf;exact ⟨none,rfl,.no⟩
 | (x,v,c) :: r,en,i,res,he,hf=>by
  cases he with
  | cons hk hv hs =>
   unfold findE at hf
   cases hx:keyEq (.s l) x with
   | none=>rw [hx] at hf;cases hf
   | some b =>
    rw [hx] at hf
    cases x <;> simp only [keyEq,reduceCtorEq] at hx
    cases hk
    simp only [Option.some.injEq] at hx
    cases b
    ·obtain ⟨res',h1,h2⟩:=find_str hs hf
     exact ⟨res',by simp [Instr.findNow,Instr.sameNow,str_beq,hx,h1],h2⟩
    ·simp at hf
     subst hf
     exact ⟨_,by simp [Instr.findNow,Instr.sameNow,str_beq,hx],.yes hv⟩
theorem find_ok [Val] (T:TbOk' P tb) {kt:Nat} {k:AV} {key:Value} {es:List (AV×AV×Nat)} {en:List MapEntry} {res:Option (Nat×AV)} (hko:keyOk tb kt k=true) (hk:VR ρ k key) (he:ERs ρ es en) (hf:findE k es 0=some res) :
  ∃ res',FR ρ res res'∧(∀ w,(Instr.findKey kt key en).run P w=.ok res' w)∧(∀ b w,(Instr.checkKey b 10000 kt key).run P w=.ok () w):=by
 unfold keyOk at hko
 split at hko
 ·cases hko
 ·rename_i i hi
  obtain ⟨d,hd,hkk⟩:=(T.ti _ _ hi).kind
  obtain ⟨m,hm⟩:∃ m,10000=m+1:=⟨9999,rfl⟩
  split at hko
  ·rename_i kd k' n hkd
   rw [hkd] at hkk
   cases d <;> simp [chkK] at hkk
   subst hkk
   cases hk
   obtain ⟨res',h1,h2⟩:=find_int (kd:=kd) he hf
   exact ⟨res',h2,fun w=>by simp [Instr.findKey,run_underlying hd,h1],fun b w=>by rw [hm];simp [Instr.checkKey,run_underlying hd]⟩
  ·rename_i l hkd
   rw [hkd] at hkk
   cases d <;> simp [chkK] at hkk
   cases hk
   obtain ⟨res',h1,h2⟩:=find_str he hf
   exact ⟨res',h2,fun w=>by simp [Instr.findKey,run_underlying hd,h1],fun b w=>by rw [hm];simp [Instr.checkKey,run_underlying hd]⟩
  ·rename_i e k1 n1 k2 n2 hkd
   rw [hkd] at hkk
   cases d <;> simp [chkK,nbeq] at hkk
   obtain ⟨rfl,rfl⟩:=hkk
   split at hko
   ·rename_i ie hie
    split at hko
    ·rename_i kd hkd2
     obtain ⟨inf,z,d2,g1,g2,g3,g4,g5,g6,g7⟩:=(T.ti _ _ hie).parts
     rw [hkd2] at g7
     cases d2 <;> simp [chkK] at g7
     have hsz:ie.size=1:=by simpa [nbeq] using hko
     cases es with
     | cons q r =>
      obtain ⟨x,v,c⟩:=q
      simp [findE,keyEq] at hf
     | nil =>
      cases he
      simp [findE] at hf
      subst hf
      cases hk with
      | agg hl =>
       obtain ⟨x1,ys,rfl,h1,h2⟩:=hl.hd
       obtain ⟨x2,ys,rfl,h3,h4⟩:=h2.hd
       cases h4
       cases h1
       cases h3
       refine ⟨none,.no,fun w=>by simp [Instr.findKey,run_underlying hd,Instr.findNow],fun b w=>?_⟩
       rw [hm]
       obtain ⟨m2,hm2⟩:∃ m2,m=m2+1:=⟨9998,by omega⟩
       have hag:∀ w,(isAgg e).run P w=.ok false w:=fun w=>by
        have:=run_isAgg (P:=P) (k:=ie.kind) g6 (by rw [hkd2];simp [chkK,g7]) (T.noth _ _ hie) w
        rw [hkd2] at this
        exact this
       simp [Instr.checkKey,run_underlying hd,List.range',run_sz g1,g2,hsz,part,hag,hm2,run_underlying g6]
    ·cases hko
   ·cases hko
  ·cases hko
end
section
variable {P:Program} {tb:Tb} {ρ:Env} {Pr:Nat→Prop} {w0 w:World} {h:Nat→Option AObj} {nx:Nat}
theorem WR.map [Val] (W:WR Pr w0 ρ h nx w) {id:Nat} {es:List (AV×AV×Nat)} {clk:Nat} (hi:h id=some (.map es clk)) :
  ∃ b s en,ρ id=some (b,s)∧w.heap[b]? = some (.map en.toArray clk)∧ERs ρ es en:=by
 obtain ⟨b,s,ob,he,_,hb,hor⟩:=W.at_ id _ hi
 cases hor with
 | map h1=>exact ⟨b,s,_,he,hb,h1⟩
theorem run_getObj {b:Nat} {en:Array MapEntry} {clk:Nat} (hb:w.heap[b]? = some (.map en clk)):(getObj b).run P w=.ok (.map en clk) w:=by
 simp [getObj,Sem.run,hb]
theorem found_ok [Val] {z r:AV} {zv:Value} {ok:Bool} {res:Option (Nat×AV)} {res':Option (Nat×Value)} (h:found z ok (some res)=some r) (hz:VR ρ z zv) (hf:FR ρ res res') :
  ∃ c,VR ρ r c∧c=(match res' with
   | some (_,v)=>if ok then .tuple #[v,.bool true] else v
   | none=>if ok then .tuple #[zv,.bool false] else zv):=by
 cases hf with
 | no =>
  simp [found] at h
  cases ok
  ·simp at h;subst h;exact ⟨_,hz,by simp⟩
  ·simp at h;subst h;exact ⟨_,.tup (.cons hz (.cons (.b _) .nil)),by simp⟩
 | yes hv =>
  simp [found] at h
  cases ok
  ·simp at h;subst h;exact ⟨_,hv,by simp⟩
  ·simp at h;subst h;exact ⟨_,.tup (.cons hv (.cons (.b _) .nil)),by simp⟩
theorem found_some {z r:AV} {ok:Bool} {x:Option (Option (Nat×AV))} (h:found z ok x=some r):∃ res,x=some res:=by
 cases x with
 | none=>simp [found] at h
 | some res=>exact ⟨res,rfl⟩
theorem rLook_ok [Val] (T:TbOk' P tb) {t:Nat} {ok:Bool} {xs:List AV} {v u:Value} {r:AV} {hh:Ex.T AObj} (W:WR Pr w0 ρ hh.get nx w) (hr:rLook tb t ok hh xs=some r) (hx:VRs ρ xs [v,u]) :
  ∃ c,VR ρ r c∧(Instr.lookup t v u ok).run P w=.ok c w:=by
 unfold rLook at hr
 split at hr
 ·rename_i m k
  obtain ⟨i,hi,h0⟩:=tiOf_ok hr
  clear hr
  obtain ⟨d,hd,hk⟩:=(T.ti _ _ hi).kind
  cases hx with
  | cons hm hk1 =>
   have hkey:=hk1.one
   split at h0
   ·rename_i kt et hkd
    rw [hkd] at hk
    cases d <;> simp [chkK,nbeq] at hk
    obtain ⟨rfl,rfl⟩:=hk
    obtain ⟨ie,hie,h1⟩:=tiOf_ok h0
    clear h0
    obtain ⟨zv,hz,hzr⟩:=(T.ti _ _ hie).zv ρ
    cases hko:keyOk tb kt k with
    | false=>simp [hko] at h1
    | true =>
     simp only [hko,cond_true] at h1
     split at h1
     ·cases hm
      obtain ⟨res',f1,f2,f3⟩:=find_ok T hko hkey (ERs.nil (ρ:=ρ)) (res:=none) (by simp [findE])
      obtain ⟨c,hc,hce⟩:=found_ok h1 hz f1
      refine ⟨c,hc,?_⟩
      subst hce
      cases f1
      cases ok <;> simp [Instr.lookup,run_underlying hd,f2,f3,hzr]
     ·split at h1
      ·rename_i id es clk hmap
       obtain ⟨res,hres⟩:=found_some h1
       rw [hres] at h1
       obtain ⟨b,s,en,he,hb,hes⟩:=W.map hmap
       obtain ⟨res',f1,f2,f3⟩:=find_ok T hko hkey hes hres
       obtain ⟨c,hc,hce⟩:=found_ok h1 hz f1
       cases hm with
       | m he2 =>
        rw [he] at he2
        cases he2
        refine ⟨c,hc,?_⟩
        subst hce
        cases f1 <;> cases ok <;> simp [Instr.lookup,run_underlying hd,run_getObj hb,f2,f3,hzr]
      ·cases h1
     ·cases h1
   ·cases h0
 ·cases hr
theorem rCall_ok [Val] (T:TbOk' P tb) {o:Oper} {c:Call} (ho:o.op=.call c) {ev:Operand→Value} {xs:List AV} {r:AV} {hh:Ex.T AObj} (W:WR Pr w0 ρ hh.get nx w) (hr:rCall tb c xs hh=some r)
  (hx:VRs ρ xs (c.operands.toList.map ev)):∃ v,VR ρ r v∧(execOp ev o).run P w=.ok (.value v) w:=by
 unfold rCall at hr
 split at hr
 ·rename_i hc
  rw [ops_builtin hc] at hx
  unfold rLen at hr
  split at hr
  ·rename_i id
   split at hr
   ·rename_i t es clk hts hmap
    have hl:=hx.len
    simp at hl
    obtain ⟨a,ha⟩:=Array.size_eq_one_iff.1 hl.symm
    rw [ha] at hx
    obtain ⟨b,s,en,he,hb,hes⟩:=W.map hmap
    obtain ⟨i,hi,h1⟩:=tiOf_ok hr
    obtain ⟨d,hd,hk⟩:=(T.ti _ _ hi).kind
    have hv:VR ρ (.m id) (ev a):=hx.one
    generalize hg:ev a=va at hv
    cases hv with
    | m he2 =>
     rw [he] at he2
     cases he2
     split at h1
     ·rename_i kt et hkd
      rw [hkd] at hk
      cases d <;> simp [chkK] at hk
      cases h1
      obtain ⟨cs,hcs⟩:=run_builtin (P:=P) ev o c _ ho hc
      refine ⟨_,.i _ _,?_⟩
      have e1:c.argTypes = #[t]:=len1 hts
      rw [hcs,ha,e1]
      simp [builtin,Builtin.len_,run_underlying hd,hg,run_getObj hb,goInt,hes.len]
     ·cases h1
   ·cases hr
  ·cases hr
 ·cases hr
theorem rop_ok [Val] (T:TbOk' P tb) {o:Oper} {ev:Operand→Value} {xs:List AV} {r:AV} {hh:Ex.T AObj} (W:WR Pr w0 ρ hh.get nx w) (hr:rop tb o.op xs hh=some r) (hx:VRs ρ xs ((opl o.op).map ev)) :
  ∃ c,VR ρ r c∧(execOp ev o).run P w=.ok (.value c) w:=by
 obtain ⟨dst,op,ty,pos,af,gd⟩:=o
 cases op
 case load t x =>
  obtain ⟨c,hc,hw⟩:=rLoad_ok T W hr hx
  exact ⟨c,hc,by simp [execOp,hw]⟩
 case lookup t x y ok =>
  obtain ⟨c,hc,hw⟩:=rLook_ok T W hr hx
  exact ⟨c,hc,by simp [execOp,hw]⟩
 case call c=>exact rCall_ok T rfl W hr hx
 all_goals (change (none:Option AV)=some r at hr;cases hr)
end
section
variable {P:Program} {tb:Tb} {ρ:Env} {Pr:Nat→Prop} {w0 w:World} {nx:Nat}
theorem new_ok {h:Ex.T AObj} {b:Nat} {o:AObj} {r:Nat×S} (hr:S.new ⟨h,b⟩ o=some r):r=(b,⟨h.set 30 b (some o),b+1⟩)∧b≤1000001:=by
 unfold S.new at hr
 cases b with
 | zero=>simp at hr;exact ⟨hr.symm,by omega⟩
 | succ j =>
  simp only [nble] at hr
  by_cases hj:j≤1000000
  ·simp [hj] at hr;exact ⟨hr.symm,by omega⟩
  ·simp [hj] at hr
structure Makes [Val] (P:Program) (ev:Operand→Value) (o:Oper) (ρ:Env) (w:World) (h:Ex.T AObj) (b:Nat) (r:AV) (st':S):Prop where
 ex:∃ ob o' c,st'=⟨h.set 30 b (some o'),b+1⟩∧b≤1000001∧(execOp ev o).run P w=.ok (.value c) (w.alloc ob)∧OR ρ 0 o' ob∧VR (ρ.add b (w.heap.size,0)) r c
theorem row_or [Val] {l:List AV} {cs:List Value} {e sz:Nat} (h:VRs ρ l cs) (h1:∀ a∈l,a.one=true):OR ρ 0 (.row l e sz .no) (.cells cs.toArray e):=by
 have:=OR.row (ρ:=ρ) (s:=0) (e:=e) (sz:=sz) (g:=.no) (ds:=[]) h (by simp) h1 rfl
 simpa using this
theorem VR.p_new [Val] {b:Nat} {g s off:Nat}:VR (ρ.add b (g,s)) (.p b off) (.pointer (some ⟨g,off,none⟩)):=.p (s:=s) (Env.add_same ρ b (g,s))
theorem VR.sl_new [Val] {b:Nat} {g off n c:Nat}:VR (ρ.add b (g,0)) (.sl b off n c) (.slice (some ⟨g,off,none⟩) n c):=.sl (s:=0) (Env.add_same ρ b (g,0))
theorem map_some {α β:Type} {o:Option α} {f:α→β} {r:β} (h:o.map f=some r):∃ a,o=some a∧f a=r:=by
 cases o with
 | none=>simp at h
 | some a=>simp at h;exact ⟨a,rfl,h⟩
theorem rep_mem {n:Nat} {l:List AV} {a:AV} (h:a∈rep n l):a∈l:=by
 unfold rep at h
 simp at h
 obtain ⟨w,⟨_,rfl⟩,h⟩:=h
 exact h
theorem all_one {l:List AV} (h:l.all AV.one=true):∀ a∈l,a.one=true:=fun a ha=>List.all_eq_true.1 h a ha
theorem made_eq (z:Array Value) (n:Nat):(Array.range (n * z.size)).map (z[· % z.size]!)=(List.replicate n z.toList).flatten.toArray:=by
 apply Array.ext_getElem?
 intro k
 by_cases hk:k<n * z.size
 ·have hz:0<z.size:=by rcases Nat.eq_zero_or_pos z.size with e | e;rw [e] at hk;omega;exact e
  have hm:k % z.size<z.size:=Nat.mod_lt _ hz
  have:(List.replicate n z.toList).flatten[k]? = z.toList[k % z.size]?:=by
   clear hm
   induction n generalizing k with
   | zero=>simp at hk
   | succ n ih =>
    simp only [List.replicate_succ,List.flatten_cons]
    by_cases c:k<z.size
    ·rw [List.getElem?_append_left (by simpa using c),Nat.mod_eq_of_lt c]
    ·rw [List.getElem?_append_right (by simpa using c)]
     simp only [Array.length_toList]
     rw [ih (k - z.size) (by rw [Nat.succ_mul] at hk;omega),← Nat.mod_eq_sub_mod (by omega)]
  rw [← Array.getElem?_toList (xs:=(List.replicate n z.toList).flatten.toArray)]
  simp only [List.toList_toArray]
  rw [this]
  simp [hk,getElem!_pos z (k % z.size) hm,hm]
 ·have h1:(List.replicate n z.toList).flatten.length=n * z.size:=by simp
  rw [Array.getElem?_eq_none (by simp;omega),List.getElem?_toArray,List.getElem?_eq_none (by omega)]
end
section
variable {P:Program} {tb:Tb} {ρ:Env} {Pr:Nat→Prop} {w0 w:World} {nx:Nat}
theorem row_or' [Val] {l:List AV} {cs:Array Value} {e sz:Nat} (h:VRs ρ l cs.toList) (h1:∀ a∈l,a.one=true):OR ρ 0 (.row l e sz .no) (.cells cs e):=by
 have:=row_or (e:=e) (sz:=sz) h h1
 simpa using this
theorem aAlloc_ok [Val] (T:TbOk' P tb) {o:Oper} {t:TypeId} (ho:o.op=.alloc t) {ev:Operand→Value} {h:Ex.T AObj} {b:Nat} {r:AV} {st':S} {xs:List AV} (ha:aAlloc tb t ⟨h,b⟩ xs=some (r,st')):Makes P ev o ρ w h b r st':=by
 unfold aAlloc at ha
 split at ha
 ·obtain ⟨i,hi,h0⟩:=tiO_ok ha
  obtain ⟨q,hq,he⟩:=map_some h0
  obtain ⟨rfl,hb⟩:=new_ok hq
  cases he
  obtain ⟨inf,z,d,g1,g2,g3,g4,g5,g6,g7⟩:=(T.ti _ _ hi).parts
  refine ⟨⟨_,_,_,rfl,hb,?_,row_or' (g5 ρ) (T.ti _ _ hi).zone,VR.p_new⟩⟩
  simp [execOp,ho,Instr.alloc,run_zv g1 g4,newVar,newRow]
 ·cases ha
theorem aBox_ok [Val] (T:TbOk' P tb) {o:Oper} {t:TypeId} {x:Operand} (ho:o.op=.box t x) {ev:Operand→Value} {h:Ex.T AObj} {b:Nat} {r:AV} {st':S} {xs:List AV} (ha:aBox tb t ⟨h,b⟩ xs=some (r,st')) (hx:VRs ρ xs [ev x]):Makes P ev o ρ w h b r st':=by
 unfold aBox at ha
 split at ha
 ·rename_i y
  obtain ⟨i,hi,h0⟩:=tiO_ok ha
  clear ha
  cases hc:(Nat.beq y.cells.length i.size && y.cells.all AV.one) with
  | false=>rw [hc] at h0;cases h0
  | true =>
   rw [hc] at h0
   simp only [Bool.and_eq_true] at hc
   obtain ⟨q,hq,he⟩:=map_some h0
   obtain ⟨rfl,hb⟩:=new_ok hq
   cases he
   have hv:=hx.one
   refine ⟨⟨.cells (ev x).cells t,_,_,rfl,hb,?_,row_or' hv.cells (all_one hc.2),VR.p_new⟩⟩
   simp [execOp,ho,Instr.box,newVar,newRow]
 ·cases ha
theorem empty_lit [Val] {t e:TypeId} {n:Nat} {inf:TypeInfo} {ps:Array (Nat×Value)} {z:Value} {cells:Array Value} (hd:P.underlying t=some (.slice e)) (hi:P.info? e=some inf) (h0:n * inf.size=0)
  (hf:Instr.fill (fun i=>some (i * inf.size,inf.size)) ((Array.range (n * inf.size)).map (z.cells[· % z.cells.size]!)) ps.toList=some cells) (w:World) :
  (Instr.buildSlice t n ps).run P w=.ok (.slice (some ⟨w.heap.size,0,none⟩) n n) (w.alloc (.cells cells e)):=by
 rw [h0,Array.range_zero'] at hf
 have hf':Instr.fill (fun i=>some (i * inf.size,inf.size)) #[] ps.toList=some cells:=by simpa using hf
 simp [Instr.buildSlice,run_underlying hd,run_sz hi,h0,Array.range_zero',hf',newRow]
theorem aBS_ok [Val] (T:TbOk' P tb) {o:Oper} {t:TypeId} {n:Nat} {ps:Array (Nat×Operand)} (ho:o.op=.buildSlice t n ps) {ev:Operand→Value} {h:Ex.T AObj} {b:Nat} {r:AV} {st':S} {xs:List AV} (ha:aBS tb t n ps ⟨h,b⟩ xs=some (r,st'))
  (hx:VRs ρ xs ((ps.toList.map (·.2)).map ev)):Makes P ev o ρ w h b r st':=by
 unfold aBS at ha
 obtain ⟨i,hi,h0⟩:=tiO_ok ha
 clear ha
 obtain ⟨d,hd,hk⟩:=(T.ti _ _ hi).kind
 split at h0
 ·rename_i e hkd
  rw [hkd] at hk
  cases d <;> simp [chkK,nbeq] at hk
  subst hk
  obtain ⟨ie,hie,h1⟩:=tiO_ok h0
  clear h0
  obtain ⟨inf,z,d2,g1,g2,g3,g4,g5,g6,g7⟩:=(T.ti _ _ hie).parts
  split at h1
  ·rename_i l hf
   cases hc:(Nat.ble (n * ie.size) 16777216 && l.all AV.one) with
   | false=>rw [hc] at h1;cases h1
   | true =>
    rw [hc] at h1
    simp only [Bool.and_eq_true,nble,decide_eq_true_eq] at hc
    obtain ⟨q,hq,he⟩:=map_some h1
    obtain ⟨rfl,hb⟩:=new_ok hq
    cases he
    have hzl:z.cells.size=ie.size:=by
     have:=(g5 ρ).len
     rw [(T.ti _ _ hie).zlen] at this
     simpa using this.symm
    obtain ⟨ys,k1,k2⟩:=fillA_ok ie.size _ _ _ _ _ _ hf ((g5 ρ).rep n) hx
    refine ⟨⟨_,_,_,rfl,hb,?_,row_or' (cs:=ys.toArray) (by simpa using k2) (all_one hc.2),VR.sl_new⟩⟩
    have hfill:Instr.fill (fun i=>some (i * inf.size,inf.size)) ((Array.range (n * inf.size)).map (z.cells[· % z.cells.size]!)) (ps.map fun (i,x)=>(i,ev x)).toList=some ys.toArray:=by
     rw [g2,parts_zip,← hzl,made_eq,hzl]
     exact k1
    have hsm:¬ n * inf.size > 2 ^ 24:=by have:=hc.1;rw [g2];omega
    by_cases h0:n * inf.size=0
    ·have:=empty_lit (P:=P) hd g1 h0 hfill w
     simp only [execOp,ho,Sem.run_bind,this,Result.andThen_ok,Sem.run_pure]
    ·have:=run_buildSlice (P:=P) w t e n (ps.map fun (i,x)=>(i,ev x)) ys.toArray inf z hd g1 g4 hsm h0 hfill
     simp only [execOp,ho,Sem.run_bind,this,Result.andThen_ok,Sem.run_pure]
  ·cases h1
 ·cases h0
theorem aMS_ok [Val] (T:TbOk' P tb) {o:Oper} {t:TypeId} {x y:Operand} (ho:o.op=.makeSlice t x y) {ev:Operand→Value} {h:Ex.T AObj} {b:Nat} {r:AV} {st':S} {xs:List AV} (ha:aMS tb t ⟨h,b⟩ xs=some (r,st'))
  (hx:VRs ρ xs [ev x,ev y]):Makes P ev o ρ w h b r st':=by
 unfold aMS at ha
 split at ha
 ·rename_i l c
  obtain ⟨i,hi,h0⟩:=tiO_ok ha
  clear ha
  obtain ⟨d,hd,hk⟩:=(T.ti _ _ hi).kind
  split at h0
  ·rename_i e hkd
   rw [hkd] at hk
   cases d <;> simp [chkK,nbeq] at hk
   subst hk
   obtain ⟨ie,hie,h1⟩:=tiO_ok h0
   clear h0
   obtain ⟨inf,z,d2,g1,g2,g3,g4,g5,g6,g7⟩:=(T.ti _ _ hie).parts
   cases hc:(Nat.ble l c && Nat.ble c 100000 && Nat.ble ie.bytes 1000) with
   | false=>rw [hc] at h1;cases h1
   | true =>
    rw [hc] at h1
    simp only [Bool.and_eq_true,nble,decide_eq_true_eq] at hc
    obtain ⟨q,hq,he⟩:=map_some h1
    obtain ⟨rfl,hb⟩:=new_ok hq
    cases he
    have hzl:z.cells.size=ie.size:=by
     have:=(g5 ρ).len
     rw [(T.ti _ _ hie).zlen] at this
     simpa using this.symm
    cases hx with
    | cons hx1 hx2 =>
     have hy:=hx2.one
     generalize e1:ev x=vx at hx1
     generalize e2:ev y=vy at hy
     cases hx1
     cases hy
     have hrep:VRs ρ (rep c ie.zero) (madeCells z.cells (c * inf.size)).toList:=by
      have h2:=(g5 ρ).rep c
      have h3:madeCells z.cells (c * inf.size)=(List.replicate c z.cells.toList).flatten.toArray:=by
       unfold madeCells
       rw [g2,← hzl]
       exact made_eq _ _
      rw [h3];simpa using h2
     refine ⟨⟨_,_,_,rfl,hb,?_,row_or' hrep (fun a ha=>(T.ti _ _ hie).zone a (rep_mem ha)),VR.sl_new⟩⟩
     have hby:inf.bytes * c≤1000 * 100000:=Nat.mul_le_mul (by omega) (by omega)
     have hby2:(inf.bytes:Int) * (c:Int)≤281474976710656:=by rw [← Int.natCast_mul];omega
     have:=run_make (P:=P) w t e inf z hd g1 g4 .i64 .i64 (l:Int) (c:Int) (by omega) (by omega) hby2 (by omega)
     simp only [Int.toNat_natCast] at this
     simp only [execOp,ho,e1,e2,Int.ofNat_eq_natCast,Sem.run_bind,this,Result.andThen_ok,Sem.run_pure]
  ·cases h0
 ·cases ha
theorem aMM_ok [Val] {o:Oper} {t:TypeId} {q:Option Operand} (ho:o.op=.makeMap t q) {ev:Operand→Value} {h:Ex.T AObj} {b:Nat} {r:AV} {st':S} {xs:List AV} (ha:aMM q ⟨h,b⟩ xs=some (r,st')):Makes P ev o ρ w h b r st':=by
 unfold aMM at ha
 split at ha
 ·split at ha
  ·obtain ⟨q,hq,he⟩:=map_some ha
   obtain ⟨rfl,hb⟩:=new_ok hq
   cases he
   refine ⟨⟨.map #[] 0,_,_,rfl,hb,?_,.map (en:=[]) .nil,.m (s:=0) (Env.add_same _ _ _)⟩⟩
   simp [execOp,ho,Instr.makeMap]
  ·cases ha
 ·cases ha
theorem make_ok [Val] (T:TbOk' P tb) {call:Nat→List AV→S→Option (AV×S)} {o:Oper} (hk:kindOf o.op=3) {ev:Operand→Value} {h:Ex.T AObj} {b:Nat} {r:AV} {st':S} {xs:List AV} (ha:aop tb call o.op xs ⟨h,b⟩=some (r,st')) (hx:VRs ρ xs ((opl o.op).map ev)) :
  Makes P ev o ρ w h b r st':=by
 obtain ⟨dst,op,ty,pos,af,gd⟩:=o
 cases op
 case alloc t=>exact aAlloc_ok T rfl ha
 case box t x=>exact aBox_ok T rfl ha hx
 case buildSlice t n ps=>exact aBS_ok T rfl ha hx
 case makeSlice t x y=>exact aMS_ok T rfl ha hx
 case makeMap t q=>exact aMM_ok rfl ha
 case call c=>exfalso;change callKind c=3 at hk;unfold callKind at hk;split at hk <;> cases hk
 all_goals (exfalso;change _=3 at hk;cases hk)
end
section
variable {P:Program} {tb:Tb} {ρ:Env} {Pr:Nat→Prop} {w0 w w':World} {nx:Nat}
def Ext (nx:Nat) (ρ ρ':Env):Prop:=∀ id,id<nx→ρ' id=ρ id
theorem Ext.refl (nx:Nat) (ρ:Env):Ext nx ρ ρ:=fun _ _=>rfl
theorem Ext.le [Val] {h:Nat→Option AObj} {ρ':Env} (e:Ext nx ρ ρ') (W:WR Pr w0 ρ h nx w):Le ρ ρ':=fun i x hx=>by rw [e i (W.lt hx)];exact hx
def Out [Val] (Pr:Nat→Prop) (w0:World) (ρ:Env) (nx:Nat) (r:AV) (st':S) (c:Value) (w':World):Prop:=∃ ρ',Ext nx ρ ρ'∧nx≤st'.nx∧VR ρ' r c∧WR Pr w0 ρ' st'.h.get st'.nx w'
def Done (P:Program) (R:Value→World→Prop):Result Next→Prop
 | .ok (.value c) w'=>R c w'
 | .ok .skip w'=>R undef w'
 | .ok (.enter f as) w'=>Calls P f as w' fun e w''=>∃ c,e=.returned c∧R c w''
 | _=>False
theorem set_get (h:Ex.T AObj) {id:Nat} (o:Option AObj) (hid:id<1000100) (j:Nat):(h.set 30 id o).get j=if j=id then o else h.get j :=
 T.get_set 30 o h 30 id j (by simp;omega) (Nat.le_refl _)
theorem undef_vr [Val]:VR ρ (.tup []) undef:=.tup (xs:=[]) .nil
theorem upd_row [Val] {st:S} (W:WR Pr w0 ρ st.h.get st.nx w) {id:Nat} {l:List AV} {e sz:Nat} {g:Gr} (hi:st.h.get id=some (.row l e sz g)) {b s:Nat} {cs ds cs':List Value} {l':List AV}
  (he:ρ id=some (b,s)) (hb:w.heap[b]? = some (.cells (cs++ds).toArray e (0,0))) (hd:ds.length=s * sz) (hg:GrOk g s ds) (hl':VRs ρ l' cs') (h1:∀ a∈l',a.one=true) :
  WR Pr w0 ρ (st.upd id (.row l' e sz g)).h.get (st.upd id (.row l' e sz g)).nx (w.setRow b (cs'++ds).toArray):=by
 obtain ⟨hh,n⟩:=st
 have hid:id<1000100:=Nat.lt_of_lt_of_le (W.lt he) W.sm
 have:=W.upd (w':=w.setRow b (cs'++ds).toArray) (o':=.row l' e sz g) hi he rfl rfl rfl (by simp) (fun k hk hn=>setRow_other w b k _ hn) (setRow_heap w b _ _ _ _ hb) (.row hl' hd h1 hg)
 exact this.congr fun j=>(set_get hh _ hid j).symm
theorem upd_map [Val] {st:S} (W:WR Pr w0 ρ st.h.get st.nx w) {id:Nat} {es es':List (AV×AV×Nat)} {clk clk':Nat} (hi:st.h.get id=some (.map es clk)) {b s:Nat} {en en':List MapEntry}
  (he:ρ id=some (b,s)) (hb:w.heap[b]? = some (.map en.toArray clk)) (h':ERs ρ es' en') :
  WR Pr w0 ρ (st.upd id (.map es' clk')).h.get (st.upd id (.map es' clk')).nx { w with heap:=w.heap.setIfInBounds b (.map en'.toArray clk') }:=by
 obtain ⟨hh,n⟩:=st
 have hid:id<1000100:=Nat.lt_of_lt_of_le (W.lt he) W.sm
 have hlt:b<w.heap.size:=(Array.getElem?_eq_some_iff.1 hb).1
 have:=W.upd (w':={ w with heap:=w.heap.setIfInBounds b (.map en'.toArray clk') }) (o':=.map es' clk') hi he rfl rfl rfl (by simp) (fun k hk hn=>by simp [Array.getElem?_setIfInBounds_ne (Ne.symm hn)]) (by simp [hlt]) (.map h')
 exact this.congr fun j=>(set_get hh _ hid j).symm
theorem put_app (cs ds vs:List Value) (off:Nat) (h:off+vs.length≤cs.length):(cs++ds).take off++vs++(cs++ds).drop (off+vs.length)=(cs.take off++vs++cs.drop (off+vs.length))++ds:=by
 rw [List.take_append_of_le_length (by omega),List.drop_append_of_le_length h]
 simp
theorem mem_put {l m:List AV} {n:Nat} {a:AV} (h:a∈put l n m):a∈l∨a∈m:=by
 unfold put at h
 simp at h
 rcases h with h | h | h
 ·exact .inl (List.mem_of_mem_take h)
 ·exact .inr h
 ·exact .inl (List.mem_of_mem_drop h)
theorem VRs.ones [Val] {l:List AV} {xs:List Value} (h:VRs ρ l xs) (h1:∀ a∈l,a.one=true):∀ x∈xs,x.oneCell'=true:=by
 intro x hx
 obtain ⟨i,hi,rfl⟩:=List.getElem_of_mem hx
 have hl:=h.len
 obtain ⟨y,hy,hv⟩:=h.get (i:=i) (a:=l[i]'(by omega)) (List.getElem?_eq_getElem (by omega))
 rw [List.getElem?_eq_getElem hi] at hy
 cases hy
 exact hv.one (h1 _ (List.getElem_mem _))
theorem aStore_ok [Val] (T:TbOk' P tb) {o:Oper} {t:TypeId} {x y:Operand} (ho:o.op=.store t x y) {ev:Operand→Value} {st st':S} {r:AV} {xs:List AV} (ha:aStore tb t st xs=some (r,st'))
  (hx:VRs ρ xs [ev x,ev y]) (W:WR Pr w0 ρ st.h.get st.nx w):Done P (Out Pr w0 ρ st.nx r st') ((execOp ev o).run P w):=by
 unfold aStore at ha
 split at ha
 ·rename_i id off z
  split at ha
  ·rename_i l e sz g hrow
   obtain ⟨i,hi,h0⟩:=tiO_ok ha
   clear ha
   cases hc:(Nat.beq z.cells.length i.size && Nat.ble (off+i.size) l.length && z.cells.all AV.one) with
   | false=>rw [hc] at h0;cases h0
   | true =>
    rw [hc] at h0
    simp only [Bool.and_eq_true,nble,nbeq,decide_eq_true_eq] at hc
    obtain ⟨⟨c1,c2⟩,c3⟩:=hc
    cases h0
    obtain ⟨inf,zz,d2,g1,g2,g3,g4,g5,g6,g7⟩:=(T.ti _ _ hi).parts
    cases hx with
    | cons hx1 hx2 =>
     have hy:=hx2.one
     generalize e1:ev x=vx at hx1
     generalize e2:ev y=vy at hy
     cases hx1 with
     | @p _ _ b s he =>
      obtain ⟨b',s',cs,ds,he2,hb,hl,hd,h1,hg⟩:=W.row hrow
      rw [he] at he2
      cases he2
      have hcl:=hy.clen
      have hll:=hl.len
      have hcs:=hy.cells
      have hfit:off+vy.cells.toList.length≤cs.length:=by simp;omega
      have hst:=run_storeCells_at (P:=P) b off e vy.cells.toList 0 (cs++ds).toArray w hb (by simp;omega) (hcs.ones (all_one c3))
      simp only [Nat.add_zero,List.toList_toArray,put_app cs ds _ off hfit] at hst
      have hn:¬ (vy.cells.size≠inf.size):=by omega
      have hrun:(execOp ev o).run P w=.ok .skip (w.setRow b ((cs.take off++vy.cells.toList++cs.drop (off+vy.cells.toList.length))++ds).toArray):=by
       simp only [execOp,ho,e1,e2,Instr.storeAt,Instr.sureAddr,storeVar,Sem.run_bind,run_sz g1,Result.andThen_ok,Sem.run_pure,hn,if_false,hst]
      rw [hrun]
      refine ⟨ρ,Ext.refl _ _,?_,undef_vr,upd_row W hrow he hb hd hg (hl.put hcs off) (fun a ha=>(mem_put ha).elim (h1 a) (all_one c3 a))⟩
      obtain ⟨_,_⟩:=st
      exact Nat.le_refl _
  ·cases ha
 ·cases ha
end
section
variable {P:Program} {tb:Tb} {ρ:Env} {Pr:Nat→Prop} {w0 w w':World} {nx:Nat}
theorem find_at [Val] {k:AV} {key:Value} (hk:VR ρ k key):∀ {es:List (AV×AV×Nat)} {en:List MapEntry} {i j:Nat} {v:AV},ERs ρ es en→findE k es i=some (some (j,v)) →
  i≤j∧∃ e,en[j - i]? = some e∧e.key=key∧Instr.sameBits 10000 key key=true
 | [],en,i,j,v,he,hf=>by simp [findE] at hf
 | (x,u,c) :: r,en,i,j,v,he,hf=>by
  obtain ⟨m,hm⟩:∃ m,10000=m+1:=⟨9999,rfl⟩
  cases he with
  | cons hx hv hs =>
   unfold findE at hf
   cases hq:keyEq k x with
   | none=>rw [hq] at hf;cases hf
   | some b =>
    rw [hq] at hf
    cases b
    ·obtain ⟨h1,e,h2,h3⟩:=find_at hk hs hf
     refine ⟨by omega,e,?_,h3⟩
     have:j - i=(j - (i+1))+1:=by omega
     rw [this]
     simpa using h2
    ·simp at hf
     obtain ⟨rfl,rfl⟩:=hf
     refine ⟨Nat.le_refl _,_,by simp;rfl,?_,?_⟩
     ·cases k <;> cases x <;> simp only [keyEq,reduceCtorEq] at hq
      ·rename_i k1 n1 k2 n2
       cases hk;cases hx
       by_cases hkk:k1=k2
       ·subst hkk
        simp only [decide_true,cond_true,Option.some.injEq,ieq_eq] at hq
        have:=of_decide_eq_true hq
        simp [this]
       ·simp [hkk] at hq
      ·rename_i l1 l2
       cases hk;cases hx
       simp at hq
       simp [hq]
     ·rw [hm]
      cases k <;> simp only [keyEq,reduceCtorEq] at hq
      ·cases hk;simp [Instr.sameBits]
      ·cases hk;simp only [Instr.sameBits];rw [str_beq];simp
theorem setE_ok [Val] {k u:AV} {key val:Value} (hk:VR ρ k key) (hu:VR ρ u val):∀ {es:List (AV×AV×Nat)} {en:List MapEntry} (j:Nat),ERs ρ es en→ERs ρ (setE es j k u) (en.modify j fun e=>{ e with key:=key,val:=val })
 | [],_,j,he=>by cases he;simp [setE];exact .nil
 | (x,v,n) :: r,_,0,he=>by
  cases he with
  | cons a b c=>simp [setE];exact .cons hk hu c
 | (x,v,n) :: r,_,j+1,he=>by
  cases he with
  | cons a b c=>simp [setE];exact .cons a b (setE_ok hk hu j c)
theorem run_setObj {b clk clk':Nat} {en en':Array MapEntry} (hb:w.heap[b]? = some (.map en clk)):(setObj b (.map en' clk')).run P w=.ok () { w with heap:=w.heap.setIfInBounds b (.map en' clk') }:=by
 simp [setObj,Sem.run,hb]
theorem keyStays {v:Value} (h:Instr.sameBits 10000 v v=true) (w:World):(Instr.keyThatStays v v).run P w=.ok v w:=by
 unfold Instr.keyThatStays
 rw [if_pos h]
 rfl
theorem aUpd_ok [Val] (T:TbOk' P tb) {t:TypeId} {st st':S} {r:AV} {xs:List AV} {vm vk vx:Value} (ha:aUpd tb t st xs=some (r,st')) (hx:VRs ρ xs [vm,vk,vx]) (W:WR Pr w0 ρ st.h.get st.nx w) :
  ∃ w',(Instr.mapUpdate t vm vk vx).run P w=.ok () w'∧r=.tup []∧st'.nx=st.nx∧WR Pr w0 ρ st'.h.get st'.nx w':=by
 unfold aUpd at ha
 split at ha
 ·rename_i id k x
  split at ha
  ·rename_i es clk hmap
   obtain ⟨i,hi,h0⟩:=tiO_ok ha
   clear ha
   obtain ⟨d,hd,hkd0⟩:=(T.ti _ _ hi).kind
   split at h0
   ·rename_i kt et hkd
    rw [hkd] at hkd0
    cases d <;> simp [chkK,nbeq] at hkd0
    obtain ⟨rfl,rfl⟩:=hkd0
    cases hko:keyOk tb kt k with
    | false=>simp [hko] at h0
    | true =>
     simp only [hko,cond_true] at h0
     obtain ⟨b,s,en,he,hb,hes⟩:=W.map hmap
     cases hx with
     | cons hm hx2 =>
      cases hx2 with
      | cons hk hx3 =>
       have hv:=hx3.one
       cases hm with
       | m he2 =>
        rw [he] at he2
        cases he2
        cases hfe:findE k es 0 with
        | none=>rw [hfe] at h0;cases h0
        | some res =>
         rw [hfe] at h0
         obtain ⟨res',f1,f2,f3⟩:=find_ok T hko hk hes hfe
         cases f1 with
         | no =>
          simp only [Option.some.injEq,Prod.mk.injEq] at h0
          obtain ⟨rfl,rfl⟩:=h0
          have hup:=upd_map (clk':=clk+1) W hmap he hb (hes.app (.cons (n:=clk) hk hv .nil))
          refine ⟨_,?_,rfl,by obtain ⟨_,_⟩:=st;rfl,hup⟩
          simp [Instr.mapUpdate,run_underlying hd,run_getObj hb,f2,f3,run_setObj hb]
         | yes hfound =>
          rename_i j a y
          simp only [Option.some.injEq,Prod.mk.injEq] at h0
          obtain ⟨rfl,rfl⟩:=h0
          obtain ⟨_,e,h1,h2,h3⟩:=find_at hk hes hfe
          simp only [Nat.sub_zero] at h1
          have hup:=upd_map (clk':=clk) W hmap he hb (setE_ok hk hv j hes)
          refine ⟨_,?_,rfl,by obtain ⟨_,_⟩:=st;rfl,hup⟩
          have e1:(en.modify j fun e=>{ e with key:=vk,val:=vx }).toArray=en.toArray.modify j (fun e=>{ e with key:=vk,val:=vx }):=by
           apply Array.ext';simp
          simp [Instr.mapUpdate,run_underlying hd,run_getObj hb,f2,f3,h1,h2,keyStays h3,run_setObj hb]
   ·cases h0
  ·cases ha
 ·cases ha
theorem del_ok [Val]:∀ {es:List (AV×AV×Nat)} {en:List MapEntry} (j:Nat),ERs ρ es en→ERs ρ (es.eraseIdx j) (en.eraseIdx j)
 | [],_,j,he=>by cases he;simp;exact .nil
 | (x,v,n) :: r,_,0,he=>by cases he with | cons a b c=>simpa using c
 | (x,v,n) :: r,_,j+1,he=>by cases he with | cons a b c=>simp;exact .cons a b (del_ok j c)
theorem aDel_ok [Val] (T:TbOk' P tb) {ts:Array TypeId} {ty:TypeId} {st st':S} {r:AV} {xs:List AV} {vs:List Value} (ha:aDel tb ts.toList st xs=some (r,st')) (hx:VRs ρ xs vs) (W:WR Pr w0 ρ st.h.get st.nx w) :
  ∃ w',(Builtin.delete_ ts ty vs.toArray).run P w=.ok undef w'∧r=.tup []∧st'.nx=st.nx∧WR Pr w0 ρ st'.h.get st'.nx w':=by
 unfold aDel at ha
 split at ha
 ·rename_i id k
  split at ha
  ·rename_i t tl hts
   split at ha
   ·rename_i es clk hmap
    obtain ⟨i,hi,h0⟩:=tiO_ok ha
    clear ha
    obtain ⟨d,hd,hkd0⟩:=(T.ti _ _ hi).kind
    split at h0
    ·rename_i kt et hkd
     rw [hkd] at hkd0
     cases d <;> simp [chkK,nbeq] at hkd0
     obtain ⟨rfl,rfl⟩:=hkd0
     cases hko:keyOk tb kt k with
     | false=>simp [hko] at h0
     | true =>
      simp only [hko,cond_true] at h0
      obtain ⟨b,s,en,he,hb,hes⟩:=W.map hmap
      obtain ⟨vm,ys,rfl,hm,hx2⟩:=hx.hd
      obtain ⟨vk,ys,rfl,hk,hx3⟩:=hx2.hd
      cases hx3
      have ht0:ts[0]? = some t:=by rw [← Array.getElem?_toList,hts];rfl
      cases hm with
      | m he2 =>
       rw [he] at he2
       cases he2
       cases hfe:findE k es 0 with
       | none=>rw [hfe] at h0;cases h0
       | some res =>
        rw [hfe] at h0
        obtain ⟨res',f1,f2,f3⟩:=find_ok T hko hk hes hfe
        cases f1 with
        | no =>
         simp only [Option.some.injEq,Prod.mk.injEq] at h0
         obtain ⟨rfl,rfl⟩:=h0
         refine ⟨{ w with heap:=w.heap.setIfInBounds b (.map en.toArray clk) },?_,rfl,rfl,?_⟩
         ·simp [Builtin.delete_,ht0,run_underlying hd,run_getObj hb,f2,f3,run_setObj hb,undef]
         ·have:({ w with heap:=w.heap.setIfInBounds b (.map en.toArray clk) }:World)=w:=by
           have hlt:=(Array.getElem?_eq_some_iff.1 hb).1
           have hv:=(Array.getElem?_eq_some_iff.1 hb).2
           have:w.heap.setIfInBounds b (.map en.toArray clk)=w.heap:=by
            apply Array.ext_getElem?
            intro k
            by_cases c:b=k
            ·subst c;simp [hlt];exact hv.symm
            ·simp [Array.getElem?_setIfInBounds_ne c]
           rw [this]
          rw [this];exact W
        | yes hfound =>
         rename_i j a y
         simp only [Option.some.injEq,Prod.mk.injEq] at h0
         obtain ⟨rfl,rfl⟩:=h0
         have hup:=upd_map (clk':=clk) W hmap he hb (del_ok j hes)
         refine ⟨_,?_,rfl,by obtain ⟨_,_⟩:=st;rfl,hup⟩
         have e1:(en.eraseIdx j).toArray=en.toArray.eraseIdxIfInBounds j:=by
          apply Array.ext';simp
         simp [Builtin.delete_,ht0,run_underlying hd,run_getObj hb,f2,f3,run_setObj hb,undef]
    ·cases h0
   ·cases ha
  ·cases ha
 ·cases ha
end
section
variable {P:Program} {tb:Tb} {ρ:Env} {Pr:Nat→Prop} {w0 w w':World} {nx:Nat}
theorem kq_alloc (w:World) (o:Obj):Kq w (w.alloc o):=Below.alloc (Below.refl _ _) (Nat.le_refl _) o
theorem kq_drew (w:World):Kq w w.drew:=Below.drew (Below.refl _ _)
theorem WR.make [Val] {st:S} (W:WR Pr w0 ρ st.h.get st.nx w) {o:AObj} {ob:Obj} {s:Nat} {q:Nat×S} (hq:st.new o=some q) (hor:OR ρ s o ob) :
  q.1=st.nx∧q.2.nx=st.nx+1∧Ext st.nx ρ (ρ.add st.nx (w.heap.size,s))∧WR Pr w0 (ρ.add st.nx (w.heap.size,s)) q.2.h.get q.2.nx (w.alloc ob):=by
 obtain ⟨h,n⟩:=st
 obtain ⟨rfl,hb⟩:=new_ok hq
 have W1:=W.kept (kq_alloc w ob)
 have W2:=W1.add (id:=n) (nx':=n+1) (g:=w.heap.size) (s:=s) (by omega) (by simp) (by omega) (W.fresh n (Nat.le_refl _)) (heap_alloc_new w ob) (fun hp=>by
  have h1:=W.prlt _ hp
  have h2:=W.size
  omega) (fun i oi s' hi he=>by
  have:=(W.live_lt hi he).1
  omega) hor
 refine ⟨rfl,rfl,fun id hid=>Env.add_other ρ _ (by omega),?_⟩
 exact W2.congr fun j=>(set_get h _ (by omega) j).symm
theorem zero_len (z:Array Value) (n:Nat):(Builtin.zeroCells z n).toList.length=n * z.size:=by simp [Builtin.zeroCells]
theorem zero_eq [Val] (z:Array Value) (n:Nat):Builtin.zeroCells z n=(List.replicate n z.toList).flatten.toArray:=made_eq z n
theorem grow_new [Val] {st:S} (W:WR Pr w0 ρ st.h.get st.nx w) {l:List AV} {cs:List Value} {e sz N cap:Nat} {z:Array Value} {q:Nat×S} (hl:VRs ρ l cs) (h1:∀ a∈l,a.one=true) (hz:z.size=sz) (hN:N≤cap)
  (hq:st.new (.row l e sz .yes)=some q):Out Pr w0 ρ st.nx (.sl q.1 0 N N) q.2 (.slice (some ⟨w.heap.size,0,none⟩) N cap) (w.drew.alloc (.cells (cs.toArray++Builtin.zeroCells z (cap - N)) e)):=by
 have hor:OR ρ (cap - N) (.row l e sz .yes) (.cells (cs.toArray++Builtin.zeroCells z (cap - N)) e):=by
  have:=OR.row (ρ:=ρ) (s:=cap - N) (e:=e) (sz:=sz) (g:=.yes) (ds:=(Builtin.zeroCells z (cap - N)).toList) hl (by rw [zero_len,hz]) h1 trivial
  have e2:(cs++(Builtin.zeroCells z (cap - N)).toList).toArray=cs.toArray++Builtin.zeroCells z (cap - N):=by apply Array.ext';simp
  rw [e2] at this
  exact this
 have W1:=W.kept (kq_drew w)
 obtain ⟨e1,e2,e3,e4⟩:=W1.make hq hor
 have hs:w.drew.heap.size=w.heap.size:=rfl
 rw [hs] at e3 e4
 refine ⟨_,e3,by omega,?_,e4⟩
 rw [e1]
 have:=VR.sl (ρ:=ρ.add st.nx (w.heap.size,cap - N)) (id:=st.nx) (off:=0) (len:=N) (cap:=N) (g:=w.heap.size) (s:=cap - N) (Env.add_same _ _ _)
 rw [show N+(cap - N)=cap by omega] at this
 exact this
theorem app_types {t u ty:TypeId} {e e':TypeId} (ht:P.underlying t=some (.slice e)) (hu:P.underlying u=some (.slice e')) (a:Option Addr) (n c:Nat) (x:Value):(Builtin.append_ #[t,u] ty #[.slice a n c,x]).run P w=(Builtin.append_ #[t,t] ty #[.slice a n c,x]).run P w:=by
 simp [Builtin.append_,run_underlying ht,run_underlying hu]
theorem appNo_ok [Val] {t u ty e e':TypeId} {inf:TypeInfo} (ht:P.underlying t=some (.slice e)) (hu:P.underlying u=some (.slice e')) (hi:P.info? e=some inf) {s r:AV} {vs vx:Value} {st st':S} (ha:appNo s st=some (r,st'))
  (hs:VR ρ s vs) (hx:vx=.slice none 0 0∨∃ ad c,vx=.slice (some ad) 0 c):(Builtin.append_ #[t,u] ty #[vs,vx]).run P w=.ok vs w∧r=s∧st'=st:=by
 have hf:∀ w,(Builtin.firstCells inf.size 0 vx).run P w=.ok #[] w:=fun w=>by
  rcases hx with rfl | ⟨ad,c,rfl⟩ <;> simp [Builtin.firstCells,loadCells,loadCellsFrom]
 have hl:∀ w,(Builtin.lenOf vx).run P w=.ok 0 w:=fun w=>by
  rcases hx with rfl | ⟨ad,c,rfl⟩ <;> simp [Builtin.lenOf]
 unfold appNo at ha
 split at ha
 ·cases ha;cases hs
  rw [app_types ht hu]
  exact ⟨by simp [Builtin.append_,run_underlying ht,run_sz hi,hf,hl],rfl,rfl⟩
 ·cases ha;cases hs
  rw [app_types ht hu]
  exact ⟨by simp [Builtin.append_,run_underlying ht,run_sz hi,hf,hl,storeCells],rfl,rfl⟩
 ·rename_i id off len cap
  rw [nble] at ha
  by_cases hc:len≤cap
  ·simp [hc] at ha
   obtain ⟨rfl,rfl⟩:=ha
   cases hs
   rename_i g s he
   have:len≤cap+s:=by omega
   rw [app_types ht hu]
   exact ⟨by simp [Builtin.append_,run_underlying ht,run_sz hi,hf,hl,storeCells,this],rfl,rfl⟩
  ·simp [hc] at ha
 ·cases ha
theorem row_cells [Val] {b e:Nat} {cs ds:List Value} {fr:Nat×Nat} (hb:w.heap[b]? = some (.cells (cs++ds).toArray e fr)) (off n:Nat):∀ j u,((cs.drop off).take n)[j]? = some u→w.cell? ((⟨b,off,none⟩:Addr).add j)=some u:=by
 intro j u hj
 rw [Addr.add_mid]
 have:cs[off+j]? = some u:=by
  rw [List.getElem?_take] at hj
  split at hj
  ·rwa [List.getElem?_drop] at hj
  ·cases hj
 exact cell_app hb this
end
end Go.Ex
