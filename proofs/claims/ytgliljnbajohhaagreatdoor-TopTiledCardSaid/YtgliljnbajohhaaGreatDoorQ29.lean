import Derived.Test.YtgliljnbajohhaaGreatDoorQ28
import Derived.Great.BuildSlice
import Derived.Laws.MakeOwn
set_option linter.unusedVariables false
set_option linter.unusedSimpArgs false
namespace Go.Ex
open Go Go.RowKit
section
variable {P:Program} {tb:Tb} {ρ:Env}
theorem VRs.one [Val] {a:AV} {x:Value} (h:VRs ρ [a] [x]):VR ρ a x:=by cases h;assumption
theorem VRs.hd [Val] {a:AV} {l:List AV} {xs:List Value} (h:VRs ρ (a :: l) xs):∃ x ys,xs=x :: ys∧VR ρ a x∧VRs ρ l ys:=by cases h;exact ⟨_,_,rfl,by assumption,by assumption⟩
theorem fld_ok {fs:List (Nat×Nat×Nat)} {d:TypeDesc} {k fo ft sz:Nat} (hk:chkK P (.struct fs) d=true) (h:fs[k]? = some (fo,ft,sz)) :
  ∃ fields f inf,d=.struct fields∧fields[k]? = some f∧f.offset=fo∧f.type=ft∧P.info? ft=some inf∧inf.size=sz:=by
 cases d <;> simp [chkK] at hk
 rename_i fields
 obtain ⟨h1,h2⟩:=hk
 rw [h1] at h
 simp at h
 obtain ⟨f,hf,e1,e2,e3⟩:=h
 have h3:=h2 k (by have:=(Array.getElem?_eq_some_iff.1 hf).1;exact this)
 have hfk:fields[k]'((Array.getElem?_eq_some_iff.1 hf).1)=f:=(Array.getElem?_eq_some_iff.1 hf).2
 rw [hfk,e2] at h3
 obtain ⟨inf,hi⟩:=Option.isSome_iff_exists.1 h3
 refine ⟨fields,f,inf,rfl,hf,e1,e2,hi,?_⟩
 rw [e2] at e3
 simp [Program.cellsOf,hi] at e3
 exact e3
theorem qFA_ok [Val] (T:TbOk P tb) {t k:Nat} {xs:List AV} {v:Value} {r:AV} (h:qFA tb t k xs=some r) (hx:VRs ρ xs [v]):∃ c,VR ρ r c∧Ans P (Instr.fieldAt t v k) c:=by
 unfold qFA at h
 split at h
 ·rename_i id off
  obtain ⟨i,hi,h⟩:=tiOf_ok h
  have hv:=hx.one
  cases hv with
  | p he =>
   cases hkd:i.kind <;> simp only [hkd,reduceCtorEq] at h
   rename_i fs
   cases hf:fs[k]? with
   | none=>simp [hf] at h
   | some x =>
    obtain ⟨fo,ft,sz⟩:=x
    simp only [hf,nbeq] at h
    by_cases h0:sz=0
    ·simp [h0] at h
    ·simp [h0] at h
     subst h
     obtain ⟨d,hd,hk⟩:=(T.ti _ _ hi).kind
     rw [hkd] at hk
     obtain ⟨fields,f,inf,rfl,hfk,rfl,rfl,hinf,hsz⟩:=fld_ok hk hf
     refine ⟨_,.p he,fun w=>?_⟩
     have:¬ inf.size=0:=by omega
     simp [Instr.fieldAt,run_underlying hd,hfk,Instr.sureAddr,fieldPlace,run_sz hinf,this,Addr.add_mid]
 ·cases h
theorem qFd_ok [Val] (T:TbOk P tb) {t k:Nat} {xs:List AV} {v:Value} {r:AV} (hno:∀ t i,tb.ti.get t=some i→i.kind≠.oth) (h:qFd tb t k xs=some r) (hx:VRs ρ xs [v]):∃ c,VR ρ r c∧Ans P (Instr.field t v k) c:=by
 unfold qFd at h
 split at h
 ·rename_i l
  obtain ⟨i,hi,h⟩:=tiOf_ok h
  have hv:=hx.one
  cases hv with
  | agg hl =>
   cases hkd:i.kind <;> simp only [hkd,reduceCtorEq] at h
   rename_i fs
   cases hf:fs[k]? with
   | none=>simp [hf] at h
   | some x =>
    obtain ⟨fo,ft,sz⟩:=x
    simp only [hf] at h
    obtain ⟨d,hd,hk⟩:=(T.ti _ _ hi).kind
    rw [hkd] at hk
    obtain ⟨fields,f,inf,rfl,hfk,rfl,rfl,hinf,hsz⟩:=fld_ok hk hf
    obtain ⟨c,hc,hw⟩:=part_ok T h hl (hno _)
    exact ⟨c,hc,fun w=>by simp [Instr.field,run_underlying hd,hfk,asAgg,hw w]⟩
 ·cases h
theorem idx_ok {n len:Nat} {a b:Option AV} {r:AV} (h:(bif Nat.ble (n+1) len then a else none)=some r):n<len∧a=some r:=by
 rw [nble] at h
 by_cases hl:n+1≤len
 ·rw [decide_eq_true hl] at h;exact ⟨hl,h⟩
 ·rw [decide_eq_false hl] at h;cases h
theorem qIA_ok [Val] (T:TbOk P tb) {t:Nat} {xs:List AV} {v u:Value} {r:AV} (h:qIA tb t xs=some r) (hx:VRs ρ xs [v,u]):∃ c,VR ρ r c∧Ans P (Instr.indexAt t v u) c:=by
 unfold qIA at h
 split at h
 ·rename_i x k n
  obtain ⟨i,hi,h0⟩:=tiOf_ok h
  clear h
  have h:=h0
  clear h0
  obtain ⟨d,hd,hk⟩:=(T.ti _ _ hi).kind
  cases hx with
  | cons hv hu =>
   have hu:=hu.one
   cases hu
   split at h
   ·rename_i e id off len cap hkd
    rw [hkd] at hk
    obtain ⟨ie,hie,h⟩:=tiOf_ok h
    obtain ⟨inf,z,_,h1,h2,_⟩:=(T.ti _ _ hie).parts
    cases d <;> simp [chkK,nbeq] at hk
    subst hk
    obtain ⟨hl,h⟩:=idx_ok (b:=none) h
    cases h
    cases hv with
    | sl he =>
     refine ⟨_,.p he,fun w=>?_⟩
     have:(n:Int)<len:=by omega
     simp [Instr.indexAt,asIntOf,run_underlying hd,run_sz h1,h2,hl,Addr.add_mid]
   ·rename_i len e id off hkd
    rw [hkd] at hk
    obtain ⟨ie,hie,h⟩:=tiOf_ok h
    obtain ⟨inf,z,_,h1,h2,_⟩:=(T.ti _ _ hie).parts
    cases d <;> simp [chkK,nbeq] at hk
    obtain ⟨rfl,rfl⟩:=hk
    obtain ⟨hl,h⟩:=idx_ok (b:=none) h
    cases h
    cases hv with
    | p he =>
     refine ⟨_,.p he,fun w=>?_⟩
     have:(n:Int)<len:=by omega
     simp [Instr.indexAt,asIntOf,run_underlying hd,Instr.sureAddr,run_sz h1,h2,hl,Addr.add_mid]
   ·cases h
 ·cases h
theorem qIx_ok [Val] (T:TbOk P tb) {t:Nat} {xs:List AV} {v u:Value} {r:AV} (hno:∀ t i,tb.ti.get t=some i→i.kind≠.oth) (h:qIx tb t xs=some r) (hx:VRs ρ xs [v,u]):∃ c,VR ρ r c∧Ans P (Instr.index t v u) c:=by
 unfold qIx at h
 split at h
 ·rename_i x k n
  obtain ⟨i,hi,h0⟩:=tiOf_ok h
  clear h
  have h:=h0
  clear h0
  obtain ⟨d,hd,hk⟩:=(T.ti _ _ hi).kind
  cases hx with
  | cons hv hu =>
   have hu:=hu.one
   cases hu
   split at h
   ·rename_i len e l hkd
    rw [hkd] at hk
    obtain ⟨ie,hie,h⟩:=tiOf_ok h
    obtain ⟨inf,z,_,h1,h2,_⟩:=(T.ti _ _ hie).parts
    cases d <;> simp [chkK,nbeq] at hk
    obtain ⟨rfl,rfl⟩:=hk
    obtain ⟨hl,h⟩:=idx_ok (b:=none) h
    cases hv with
    | agg hl2 =>
     obtain ⟨c,hc,hw⟩:=part_ok T h hl2 (hno _)
     have:(n:Int)<len:=by omega
     exact ⟨c,hc,fun w=>by simp [Instr.index,asIntOf,run_underlying hd,run_sz h1,h2,hl,hw w]⟩
   ·rename_i b hkd
    rw [hkd] at hk
    cases d <;> simp [chkK] at hk
    cases hv
    cases hb:b[n]? with
    | none=>simp [hb] at h
    | some c =>
     simp [hb] at h
     subst h
     refine ⟨_,.i _ _,fun w=>?_⟩
     have hb':(⟨b.toArray⟩:ByteArray)[n]? = some c:=by
      have hlt:=(List.getElem?_eq_some_iff.1 hb).1
      have hge:=(List.getElem?_eq_some_iff.1 hb).2
      rw [getElem?_pos _ n (by simpa [ByteArray.size] using hlt)]
      congr 1
     simp [Instr.index,asIntOf,run_underlying hd,hb']
   ·cases h
 ·cases h
end
section
variable {P:Program} {tb:Tb} {ρ:Env}
theorem splice (off:Nat) (vs cs:List Value) (h:off+vs.length≤cs.length) :
  (vs.toArray.zipIdx.foldl (fun c (x:Value×Nat)=>c.setIfInBounds (off+x.2) x.1) cs.toArray)=(cs.take off++vs++cs.drop (off+vs.length)).toArray:=by
 have e:vs.toArray.zipIdx=(vs.zipIdx 0).toArray:=by simp
 rw [e,List.foldl_toArray']
 ·obtain ⟨h1,h2⟩:=Go.Great.foldl_set off vs 0 cs.toArray
  apply Array.ext_getElem?
  intro k
  rw [h2 k]
  simp only [Nat.add_zero,List.getElem?_toArray,List.size_toArray]
  by_cases c:off≤k∧k<off+vs.length
  ·rw [if_pos ⟨c.1,c.2,by omega⟩,List.append_assoc,List.getElem?_append_right (by simp;omega),List.length_take,Nat.min_eq_left (by omega),List.getElem?_append_left (by omega)]
  ·rw [if_neg (by omega),List.append_assoc]
   by_cases c1:k<off
   ·rw [List.getElem?_append_left (by simp;omega),List.getElem?_take_of_lt c1]
   ·rw [List.getElem?_append_right (by simp;omega),List.length_take,Nat.min_eq_left (by omega),List.getElem?_append_right (by omega),List.getElem?_drop]
    congr 1;omega
 ·rfl
theorem VR.clen [Val] {a:AV} {x:Value} (h:VR ρ a x):a.cells.length=x.cells.size:=by rw [h.cells.len];simp
theorem fillS_ok [Val] (fs:List (Nat×Nat×Nat)) (places:Nat→Option (Nat×Nat)) (hp:∀ i fo ft sz,fs[i]? = some (fo,ft,sz)→places i=some (fo,sz)) :
  ∀ (is:List Nat) (l r avs:List AV) (xs vs:List Value),fillS fs l (is.zip avs)=some r→VRs ρ l xs→VRs ρ avs vs→∃ ys,Instr.fill places xs.toArray (is.zip vs)=some ys.toArray∧VRs ρ r ys:=by
 intro is
 induction is with
 | nil=>intro l r avs xs vs h hl _;simp [fillS] at h;subst h;exact ⟨xs,by simp [Instr.fill],hl⟩
 | cons i is ih =>
  intro l r avs xs vs h hl hv
  cases hv with
  | nil=>simp [fillS] at h;subst h;exact ⟨xs,by simp [Instr.fill],hl⟩
  | cons ha hs =>
   rename_i a avs x vs
   simp only [List.zip_cons_cons,fillS] at h
   cases hf:fs[i]? with
   | none=>simp [hf] at h
   | some q =>
    obtain ⟨fo,ft,sz⟩:=q
    simp only [hf,nbeq,nble] at h
    by_cases hc:a.cells.length=sz∧fo+sz≤l.length
    ·simp only [hc,decide_true,Bool.and_self,cond_true] at h
     have hcs:=ha.clen
     have hll:=hl.len
     obtain ⟨ys,h1,h2⟩:=ih _ _ _ _ _ h (hl.put ha.cells fo) hs
     refine ⟨ys,?_,h2⟩
     simp only [List.zip_cons_cons,Instr.fill,hp i fo ft sz hf]
     have n1:¬ (x.cells.size≠sz):=by omega
     have n2:¬ (fo+x.cells.size > xs.toArray.size):=by simp;omega
     have hsp:=splice fo x.cells.toList xs (by simp;omega)
     simp only [Array.toArray_toList] at hsp
     simp only [n1,n2,decide_false,Bool.or_self,Bool.false_eq_true,if_false,hsp]
     exact h1
    ·have:(decide (a.cells.length=sz) && decide (fo+sz≤l.length))=false:=by simp;omega
     simp [this] at h
theorem fillA_ok [Val] (sz:Nat) :
  ∀ (is:List Nat) (l r avs:List AV) (xs vs:List Value),fillA sz l (is.zip avs)=some r→VRs ρ l xs→VRs ρ avs vs→∃ ys,Instr.fill (fun i=>some (i * sz,sz)) xs.toArray (is.zip vs)=some ys.toArray∧VRs ρ r ys:=by
 intro is
 induction is with
 | nil=>intro l r avs xs vs h hl _;simp [fillA] at h;subst h;exact ⟨xs,by simp [Instr.fill],hl⟩
 | cons i is ih =>
  intro l r avs xs vs h hl hv
  cases hv with
  | nil=>simp [fillA] at h;subst h;exact ⟨xs,by simp [Instr.fill],hl⟩
  | cons ha hs =>
   rename_i a avs x vs
   simp only [List.zip_cons_cons,fillA,nbeq,nble] at h
   by_cases hc:a.cells.length=sz∧i * sz+sz≤l.length
   ·simp only [hc,decide_true,Bool.and_self,cond_true] at h
    have hcs:=ha.clen
    have hll:=hl.len
    obtain ⟨ys,h1,h2⟩:=ih _ _ _ _ _ h (hl.put ha.cells (i * sz)) hs
    refine ⟨ys,?_,h2⟩
    simp only [List.zip_cons_cons,Instr.fill]
    have n1:¬ (x.cells.size≠sz):=by omega
    have n2:¬ (i * sz+x.cells.size > xs.toArray.size):=by simp;omega
    have hsp:=splice (i * sz) x.cells.toList xs (by simp;omega)
    simp only [Array.toArray_toList] at hsp
    simp only [n1,n2,decide_false,Bool.or_self,Bool.false_eq_true,if_false,hsp]
    exact h1
   ·have:(decide (a.cells.length=sz) && decide (i * sz+sz≤l.length))=false:=by simp;omega
    simp [this] at h
theorem parts_zip (ps:Array (Nat×Operand)) (ev:Operand→Value):(ps.map fun (i,x)=>(i,ev x)).toList=(ps.toList.map (·.1)).zip ((ps.toList.map (·.2)).map ev):=by
 rw [Array.toList_map]
 induction ps.toList with
 | nil=>rfl
 | cons p l ih=>obtain ⟨i,x⟩:=p;simp [ih]
theorem mapM_places (fields:List Field) (h:∀ f∈fields,(P.info? f.type).isSome=true):fields.mapM (fun f=>(P.info? f.type).map fun i=>(f.offset,i.size))=some (fields.map fun f=>(f.offset,P.cellsOf f.type)):=by
 induction fields with
 | nil=>rfl
 | cons f l ih =>
  obtain ⟨i,hi⟩:=Option.isSome_iff_exists.1 (h f List.mem_cons_self)
  have:=ih fun x hx=>h x (List.mem_cons_of_mem _ hx)
  simp [List.mapM_cons,hi,this,Program.cellsOf]
theorem qBuild_ok [Val] (T:TbOk P tb) {t:Nat} {ps:Array (Nat×Operand)} {ev:Operand→Value} {xs:List AV} {r:AV} (h:qBuild tb t ps xs=some r) (hx:VRs ρ xs ((ps.toList.map (·.2)).map ev)) :
  ∃ c,VR ρ r c∧Ans P (Instr.build t (ps.map fun (i,x)=>(i,ev x))) c:=by
 unfold qBuild at h
 obtain ⟨i,hi,h0⟩:=tiOf_ok h
 clear h
 obtain ⟨inf,z,d,h1,h2,h3,h4,h5,h6,h7⟩:=(T.ti _ _ hi).parts
 have hz:=h5 ρ
 split at h0
 ·rename_i fs hkd
  rw [hkd] at h7
  cases d <;> simp [chkK] at h7
  rename_i fields
  obtain ⟨e1,e2⟩:=h7
  cases hf:fillS fs i.zero ((ps.toList.map (·.1)).zip xs) with
  | none=>simp [hf] at h0
  | some l =>
   simp [hf] at h0
   subst h0
   have hm:∀ f∈fields.toList,(P.info? f.type).isSome=true:=fun f hf=>by
    obtain ⟨k,hk,rfl⟩:=List.getElem_of_mem hf
    simpa using e2 k (by simpa using hk)
   obtain ⟨ys,g1,g2⟩:=fillS_ok fs ((fields.toList.map fun f=>(f.offset,P.cellsOf f.type)).toArray[·]?) (fun j fo ft sz hj=>by
    rw [e1] at hj
    simp at hj ⊢
    obtain ⟨f,a,b,_,c⟩:=hj
    exact ⟨f,a,b,c⟩) _ _ _ _ _ _ hf hz hx
   refine ⟨_,.agg g2,fun w=>run_build w t _ _ ?_⟩
   unfold Program.built
   simp only [h1,h6,h4,mapM_places _ hm,parts_zip]
   simpa using g1
 ·rename_i n e hkd
  rw [hkd] at h7
  cases d <;> simp [chkK,nbeq] at h7
  obtain ⟨rfl,rfl⟩:=h7
  obtain ⟨ie,hie,h8⟩:=tiOf_ok h0
  obtain ⟨inf2,z2,d2,k1,k2,k3,k4,k5,k6,k7⟩:=(T.ti _ _ hie).parts
  cases hf:fillA ie.size i.zero ((ps.toList.map (·.1)).zip xs) with
  | none=>simp [hf] at h8
  | some l =>
   simp [hf] at h8
   subst h8
   obtain ⟨ys,g1,g2⟩:=fillA_ok ie.size _ _ _ _ _ _ hf hz hx
   refine ⟨_,.agg g2,fun w=>run_build w t _ _ ?_⟩
   unfold Program.built
   simp only [h1,h6,h4,k1,k2,parts_zip]
   simpa using g1
 ·cases h0
end
section
variable {P:Program} {tb:Tb} {ρ:Env}
def AnsN (P:Program) (s:Sem Next) (c:Value):Prop:=∀ w,s.run P w=.ok (.value c) w
theorem meth_ok {inf:TypeInfo} {ptr:Bool}:∀ {l:List (String×Nat)} {name:String} {k:Nat},chkM inf ptr l=true→l.lookup name=some k→∃ m,inf.methods.find? (·.name == name)=some m∧m.path = #[]∧m.func=some (k,ptr)
 | [],_,_,_,h=>by simp at h
 | (n,j) :: r,name,k,h,hl=>by
  simp only [chkM,Bool.and_eq_true] at h
  by_cases e:name=n
  ·subst e
   simp at hl
   subst hl
   have h1:=h.1
   cases hm:inf.methods.find? (·.name == name) with
   | none=>rw [hm] at h1;cases h1
   | some m =>
    rw [hm] at h1
    simp only [Bool.and_eq_true] at h1
    cases hf:m.func with
    | none=>rw [hf] at h1;exact absurd h1.2 (by simp)
    | some q =>
     obtain ⟨f,b⟩:=q
     rw [hf] at h1
     simp [nbeq] at h1
     obtain ⟨a,b1,c⟩:=h1
     subst b1;subst c
     exact ⟨m,rfl,a,hf⟩
  ·have:(name == n)=false:=by simpa using e
   simp [List.lookup,this] at hl
   exact meth_ok h.2 hl
theorem TOk.meth [Val] {t:Nat} {i:TI} (T:TOk P t i) (hn:i.kind≠.oth) {name:String} {k:Nat} (hl:i.meth.lookup name=some k):∃ inf m,P.info? t=some inf∧inf.methods.find? (·.name == name)=some m∧m.path = #[]∧m.func=some (k,i.kind.isPtr):=by
 obtain ⟨inf,z,a,_,_,_,_,_,h⟩:=T.info
 obtain ⟨m,h1,h2,h3⟩:=meth_ok (h hn) hl
 exact ⟨inf,m,a,h1,h2,h3⟩
theorem depth_pos (P:Program):∃ n,P.types.size+Made.depth=n+1:=⟨P.types.size+99,rfl⟩
theorem run_program (w:World):(Sem.program Sem.pure:Sem Program).run P w=.ok P w:=rfl
theorem qNil_ok [Val] (T:TbOk P tb) (hno:∀ t i,tb.ti.get t=some i→i.kind≠.oth) {o:Oper} {x:Operand} (ho:o.op=.nilCheck x) {ev:Operand→Value} {xs:List AV} {r:AV} (h:qNil tb xs=some r) (hx:VRs ρ xs [ev x]):∃ c,VR ρ r c∧AnsN P (execOp ev o) c:=by
 unfold qNil at h
 split at h
 ·rename_i a
  have hv:=hx.one
  generalize hg:ev x=v at hv
  split at h
  ·cases h;cases hv;exact ⟨_,.p (by assumption),fun w=>by simp [execOp,ho,hg]⟩
  ·cases h;cases hv;exact ⟨_,.f (by assumption) (by assumption),fun w=>by simp [execOp,ho,hg]⟩
  ·cases h;cases hv;exact ⟨_,.ifc (by assumption),fun w=>by simp [execOp,ho,hg]⟩
  ·rename_i name t y
   obtain ⟨i,hi,h0⟩:=tiOf_ok h
   clear h
   split at h0
   ·rename_i k hk
    cases hp:i.kind.isPtr with
    | false=>simp [hp] at h0
    | true =>
     simp [hp] at h0
     subst h0
     cases hv with
     | fm hv2 =>
      cases hv2 with
      | ifc hv3 =>
       refine ⟨_,.fm (.ifc hv3),fun w=>?_⟩
       obtain ⟨inf,m,g1,g2,g3,g4⟩:=(T.ti _ _ hi).meth (hno _ _ hi) hk
       rw [hp] at g4
       obtain ⟨n,hn⟩:=depth_pos P
       simp [execOp,ho,hg,program,run_program,hn,nilAhead,run_ti g1,g2,g3,followBlind,g4]
   ·cases h0
  ·cases h
 ·cases h
theorem qUn_ok [Val] {op:UnOp} {t:TypeId} {xs:List AV} {v:Value} {r:AV} (h:qUn op xs=some r) (hx:VRs ρ xs [v]):∃ c,VR ρ r c∧Ans P (Op.unary op v) c:=by
 unfold qUn at h
 split at h
 ·have hv:=hx.one
  split at h
  ·cases h;cases hv;exact ⟨_,.b _,fun w=>by simp [Op.unary]⟩
  ·rename_i k n
   cases h;cases hv
   have e:Int.sub 0 n = -n:=by show 0 - n = -n;omega
   exact ⟨_,.i _ _,fun w=>by simp [Op.unary,Op.intArith,wr_eq,e]⟩
  ·cases hv
   obtain ⟨c,hc,hw⟩:=bitop_ok (P:=P) (ρ:=ρ) h
   exact ⟨c,hc,fun w=>by simp [Op.unary];exact hw w⟩
  ·cases h
 ·cases h
theorem qConv_ok [Val] (T:TbOk P tb) {s d:Nat} {xs:List AV} {v:Value} {r:AV} (h:qConv tb s d xs=some r) (hx:VRs ρ xs [v]):∃ c,VR ρ r c∧Ans P (convert s d v) c:=by
 unfold qConv at h
 split at h
 ·obtain ⟨i1,g1,h1⟩:=tiOf_ok h
  obtain ⟨i2,g2,h2⟩:=tiOf_ok h1
  clear h h1
  obtain ⟨d1,e1,k1⟩:=(T.ti _ _ g1).kind
  obtain ⟨d2,e2,k2⟩:=(T.ti _ _ g2).kind
  have hv:=hx.one
  cases hv
  split at h2
  ·rename_i q1 q2 hk1 hk2
   rw [hk1] at k1
   rw [hk2] at k2
   cases d1 <;> simp [chkK] at k1
   cases d2 <;> simp [chkK] at k2
   subst k2
   cases h2
   exact ⟨_,.i _ _,fun w=>by simp [convert,run_underlying e1,run_underlying e2,Conv.intToInt,wr_eq]⟩
  ·cases h2
 ·cases h
theorem qIfc_ok [Val] (T:TbOk P tb) {t:Nat} {xs:List AV} {v:Value} {r:AV} (h:qIfc tb t xs=some r) (hx:VRs ρ xs [v]):∃ c,VR ρ r c∧Ans P (Instr.makeInterface t v) c:=by
 unfold qIfc at h
 split at h
 ·obtain ⟨i,hi,h0⟩:=tiOf_ok h
  clear h
  obtain ⟨d,hd,hk⟩:=(T.ti _ _ hi).kind
  have hv:=hx.one
  cases hkd:i.kind <;> simp only [hkd,reduceCtorEq,Option.some.injEq] at h0 <;> rw [hkd] at hk <;> subst h0 <;> refine ⟨_,.ifc hv,fun w=>?_⟩ <;> cases d <;> simp [chkK] at hk <;> simp [Instr.makeInterface,run_underlying hd]
 ·cases h
theorem qFunc_ok [Val] {fn:Fn} {first cap:Array Operand} {ev:Operand→Value} {xs:List AV} {r:AV} (h:qFunc fn first.size cap.size xs=some r) (hx:VRs ρ xs ((first.toList++cap.toList).map ev)) :
  ∃ c,VR ρ r c∧Ans P (Instr.makeFunc fn (first.map ev) (cap.map ev)) c:=by
 unfold qFunc at h
 split at h
 ·cases h
  rw [List.map_append] at hx
  have h1:=hx.take first.size
  have h2:=hx.drop first.size
  have e1:((first.toList.map ev)++(cap.toList.map ev)).take first.size=first.toList.map ev:=List.take_left' (by simp)
  have e2:((first.toList.map ev)++(cap.toList.map ev)).drop first.size=cap.toList.map ev:=List.drop_left' (by simp)
  rw [e1] at h1
  rw [e2] at h2
  have:=VR.f (ρ:=ρ) h1 h2 (k:=by assumption)
  refine ⟨_,this,fun w=>?_⟩
  simp [Instr.makeFunc]
  constructor <;> (apply Array.ext';simp)
 ·split at h
  ·rename_i name x
   rw [nbeq] at h
   by_cases hf:first.size=1
   ·simp [hf] at h
    subst h
    have hl:=hx.len
    have hc:cap.size=0:=by simp at hl;omega
    obtain ⟨o1,rfl⟩:=Array.size_eq_one_iff.1 hf
    have:cap = #[]:=Array.eq_empty_of_size_eq_zero hc
    subst this
    simp at hx
    have hv:=hx.one
    exact ⟨_,.fm hv,fun w=>by simp [Instr.makeFunc]⟩
   ·simp [hf] at h
  ·cases h
 ·cases h
end
section
variable {P:Program} {tb:Tb} {ρ:Env}
theorem qExt_ok [Val] {k:Nat} {xs:List AV} {v:Value} {r:AV} (h:qExt k xs=some r) (hx:VRs ρ xs [v]):∃ c,VR ρ r c∧Ans P (Instr.extract v k) c:=by
 unfold qExt at h
 split at h
 ·have hv:=hx.one
  cases hv with
  | tup hl =>
   obtain ⟨c,hc,hv⟩:=hl.get h
   exact ⟨c,hv,fun w=>by simp [Instr.extract,hc]⟩
 ·cases h
theorem TOk.zv [Val] {t:Nat} {i:TI} (T:TOk P t i) (ρ:Env):∃ z,VR ρ i.zv z∧∀ w,(zeroValue t).run P w=.ok z w:=by
 obtain ⟨inf,z,a,_,_,b,c,e,_⟩:=T.info
 refine ⟨z,?_,run_zv a b⟩
 unfold TI.zv
 have hz:=c ρ
 rcases e with ⟨e1,cs,rfl⟩ | ⟨e1,e2⟩
 ·rw [e1]
  have:=VR.agg hz
  simpa [Value.cells] using this
 ·rw [e2] at hz
  rw [e1]
  replace hz:VRs ρ i.zero [z]:=hz
  cases hzz:i.zero with
  | nil=>rw [hzz] at hz;cases hz
  | cons q l =>
   rw [hzz] at hz
   cases hz with
   | cons h1 h2=>cases h2;exact h1
theorem qTA_ok [Val] (T:TbOk P tb) {a xt:Nat} {ok:Bool} {xs:List AV} {v:Value} {r:AV} (h:qTA tb a ok xs=some r) (hx:VRs ρ xs [v]):∃ c,VR ρ r c∧Ans P (Instr.typeAssert v xt a ok) c:=by
 unfold qTA at h
 split at h
 ·rename_i x
  obtain ⟨i,hi,h0⟩:=tiOf_ok h
  clear h
  obtain ⟨d,hd,hk⟩:=(T.ti _ _ hi).kind
  obtain ⟨z,hz,hzr⟩:=(T.ti _ _ hi).zv ρ
  have hv:=hx.one
  split at h0
  ·cases h0
  ·cases h0
  ·rename_i q y' t y m1 m2
   have hni:∀ ms,d≠.interface ms:=fun ms e=>by
    subst e
    cases hkd:i.kind <;> rw [hkd] at hk <;> simp [chkK] at hk <;> simp_all
   cases hv with
   | ifc hy =>
    rw [nbeq] at h0
    by_cases ht:t=a
    ·subst ht
     simp at h0
     cases ok
     ·simp at h0;subst h0
      exact ⟨_,hy,fun w=>by cases d <;> first | exact absurd rfl (hni _) | simp [Instr.typeAssert,run_underlying hd]⟩
     ·simp at h0;subst h0
      exact ⟨_,.tup (.cons hy (.cons (.b true) .nil)),fun w=>by cases d <;> first | exact absurd rfl (hni _) | simp [Instr.typeAssert,run_underlying hd]⟩
    ·simp [ht] at h0
     cases ok
     ·simp at h0
     ·simp at h0;subst h0
      exact ⟨_,.tup (.cons hz (.cons (.b false) .nil)),fun w=>by cases d <;> first | exact absurd rfl (hni _) | simp [Instr.typeAssert,run_underlying hd,ht,hzr]⟩
  ·have hni:∀ ms,d≠.interface ms:=fun ms e=>by
    subst e
    cases hkd:i.kind <;> rw [hkd] at hk <;> simp [chkK] at hk <;> simp_all
   cases ok
   ·simp at h0
   ·simp at h0;subst h0
    cases hv
    exact ⟨_,.tup (.cons hz (.cons (.b false) .nil)),fun w=>by cases d <;> first | exact absurd rfl (hni _) | simp [Instr.typeAssert,run_underlying hd,hzr]⟩
  ·cases h0
 ·cases h
theorem nat_ok [Val] {a:AV} {x:Value} {n:Nat} (h:nat? a=some n) (hr:VR ρ a x):∃ k,x=.int k n:=by
 unfold nat? at h
 split at h
 ·cases h;cases hr;exact ⟨_,rfl⟩
 ·cases h
theorem bnd_ok [Val] {d n:Nat} {o:Option AV} {v:Option Value} (h:bnd d o=some n) (hv:∀ a,o=some a→∃ x,v=some x∧VR ρ a x) (hn:o=none→v=none):(v=none∧n=d)∨(∃ k,v=some (.int k n)):=by
 cases o with
 | none=>simp [bnd] at h;exact .inl ⟨hn rfl,h.symm⟩
 | some a =>
  obtain ⟨x,hx,hr⟩:=hv a rfl
  obtain ⟨k,rfl⟩:=nat_ok h hr
  exact .inr ⟨k,hx⟩
theorem bounds_ok {b:Bool} {len cap l h:Nat} {lo hi:Option Value} (hl:(lo=none∧l=0)∨(∃ k,lo=some (.int k l))) (hh:(hi=none∧h=len)∨(∃ k,hi=some (.int k h))) (h1:l≤h) (h2:h≤cap) (w:World) :
  (Instr.sliceBounds b len cap lo hi none).run P w=.ok (l,h,cap) w:=by
 have a1:(h:Int)≤cap:=by omega
 have a2:(l:Int)≤h:=by omega
 rcases hl with ⟨rfl,rfl⟩ | ⟨k,rfl⟩ <;> rcases hh with ⟨rfl,rfl⟩ | ⟨k',rfl⟩ <;> simp [Instr.sliceBounds,Instr.sliceBound,asIntOf,a1,a2,h1,h2]
theorem sliceOp_ok [Val] (T:TbOk P tb) {t:Nat} {x r:AV} {v:Value} {lo hi:Option AV} {lo' hi':Option Value} (h:sliceOp tb t x lo hi=some r) (hx:VR ρ x v)
  (hlo:∀ a,lo=some a→∃ x,lo'=some x∧VR ρ a x) (hlo0:lo=none→lo'=none) (hhi:∀ a,hi=some a→∃ x,hi'=some x∧VR ρ a x) (hhi0:hi=none→hi'=none) :
  ∃ c,VR ρ r c∧Ans P (Instr.sliceAt t v lo' hi' none) c:=by
 unfold sliceOp at h
 split at h
 ·cases h
 ·rename_i i hi0
  obtain ⟨d,hd,hk⟩:=(T.ti _ _ hi0).kind
  split at h
  ·rename_i e id off len cap hkd
   rw [hkd] at hk
   split at h
   ·rename_i l hh ie b1 b2 hie
    have c1:=bnd_ok b1 hlo hlo0
    have c2:=bnd_ok b2 hhi hhi0
    obtain ⟨inf,z,_,g1,g2,_⟩:=(T.ti _ _ hie).parts
    cases d <;> simp [chkK,nbeq] at hk
    subst hk
    simp only [nble] at h
    by_cases q:l≤hh∧hh≤cap
    ·simp only [q,decide_true,Bool.and_self,cond_true] at h
     cases hx with
     | sl he =>
      rename_i g s
      obtain ⟨m,hm⟩:∃ m,cap+s=m:=⟨_,rfl⟩
      rw [hm]
      have hb:=fun w=>bounds_ok (P:=P) (b:=true) (len:=len) (cap:=m) c1 c2 q.1 (by omega) w
      by_cases q2:l+1≤cap
      ·simp only [q2,decide_true,cond_true,Option.some.injEq] at h
       subst h
       have e1:m - l=(cap - l)+s:=by omega
       refine ⟨_,.sl he,fun w=>?_⟩
       have n1:¬ (m=l):=by omega
       simp [Instr.sliceAt,run_underlying hd,Instr.slice,hb,run_sz g1,g2,n1,Addr.add_mid,e1]
      ·simp only [q2,decide_false,cond_false,Option.some.injEq] at h
       subst h
       have e1:hh - l=0:=by omega
       by_cases n1:m=l
       ·subst n1
        exact ⟨.slice (some ⟨g,off,none⟩) 0 (m - m),.se,fun w=>by simp [Instr.sliceAt,run_underlying hd,Instr.slice,hb,run_sz g1,g2,e1]⟩
       ·exact ⟨.slice (some ((⟨g,off,none⟩:Addr).add (l * ie.size))) 0 (m - l),.se,fun w=>by simp [Instr.sliceAt,run_underlying hd,Instr.slice,hb,run_sz g1,g2,n1,e1]⟩
    ·have:(decide (l≤hh) && decide (hh≤cap))=false:=by simp;omega
     simp [this] at h
   ·cases h
  ·rename_i e hkd
   rw [hkd] at hk
   split at h
   ·rename_i ie b1 b2 hie
    have c1:=bnd_ok b1 hlo hlo0
    have c2:=bnd_ok b2 hhi hhi0
    obtain ⟨inf,z,_,g1,g2,_⟩:=(T.ti _ _ hie).parts
    cases h
    cases hx
    cases d <;> simp [chkK,nbeq] at hk
    subst hk
    have hb:=fun w=>bounds_ok (P:=P) (b:=true) (len:=0) (cap:=0) c1 c2 (by omega) (by omega) w
    refine ⟨_,.s0,fun w=>?_⟩
    simp [Instr.sliceAt,run_underlying hd,Instr.slice,hb,run_sz g1]
   ·cases h
  ·cases h
theorem qSlice_ok [Val] (T:TbOk P tb) {t:Nat} {lo hi mx:Option Operand} {x:Operand} {ev:Operand→Value} {xs:List AV} {r:AV} (h:qSlice tb t lo hi mx xs=some r)
  (hx:VRs ρ xs ((#[x]++lo.toArray++hi.toArray++mx.toArray).toList.map ev)):∃ c,VR ρ r c∧Ans P (Instr.sliceAt t (ev x) (lo.map ev) (hi.map ev) (mx.map ev)) c:=by
 unfold qSlice at h
 split at h
 ·split at h
  ·simp at hx
   exact sliceOp_ok T h hx.one (by simp) (by simp) (by simp) (by simp)
  ·simp at hx
   obtain ⟨_,_,e,h1,h2⟩:=hx.hd
   cases e
   exact sliceOp_ok T h h1 (fun a ha=>by cases ha;exact ⟨_,rfl,h2.one⟩) (by simp) (by simp) (by simp)
  ·simp at hx
   obtain ⟨_,_,e,h1,h2⟩:=hx.hd
   cases e
   exact sliceOp_ok T h h1 (by simp) (by simp) (fun a ha=>by cases ha;exact ⟨_,rfl,h2.one⟩) (by simp)
  ·simp at hx
   obtain ⟨_,_,e,h1,h2⟩:=hx.hd
   cases e
   obtain ⟨_,_,e,h3,h4⟩:=h2.hd
   cases e
   exact sliceOp_ok T h h1 (fun a ha=>by cases ha;exact ⟨_,rfl,h3⟩) (by simp) (fun a ha=>by cases ha;exact ⟨_,rfl,h4.one⟩) (by simp)
  ·cases h
 ·cases h
theorem len1 {α:Type} {a:Array α} {x:α} (h:a.toList=[x]):a = #[x]:=by rw [← Array.toArray_toList (xs:=a),h]
theorem qLen_ok [Val] (T:TbOk P tb) {ts:Array TypeId} {ty:TypeId} {xs:List AV} {v:Value} {r:AV} (h:qLen tb ts.toList xs=some r) (hx:VRs ρ xs [v]):∃ c,VR ρ r c∧Ans P (Builtin.len_ ts ty #[v]) c:=by
 unfold qLen at h
 split at h
 ·split at h
  ·rename_i x _ t hts
   have hts:=len1 hts
   subst hts
   obtain ⟨i,hi,h0⟩:=tiOf_ok h
   clear h
   obtain ⟨d,hd,hk⟩:=(T.ti _ _ hi).kind
   have hv:=hx.one
   split at h0
   ·rename_i l hkd
    cases h0;cases hv;rw [hkd] at hk;cases d <;> simp [chkK] at hk
    have e1:(⟨l.toArray⟩:ByteArray).size=l.length:=by simp [ByteArray.size]
    exact ⟨_,.i _ _,fun w=>by simp [Builtin.len_,run_underlying hd,goInt,e1]⟩
   ·rename_i hkd
    cases h0;cases hv;rw [hkd] at hk;cases d <;> simp [chkK] at hk
    exact ⟨_,.i _ _,fun w=>by simp [Builtin.len_,run_underlying hd,goInt]⟩
   ·rename_i hkd
    cases h0;cases hv;rw [hkd] at hk;cases d <;> simp [chkK] at hk
    exact ⟨_,.i _ _,fun w=>by simp [Builtin.len_,run_underlying hd,goInt]⟩
   ·rename_i hkd
    cases h0;cases hv;rw [hkd] at hk;cases d <;> simp [chkK] at hk
    exact ⟨_,.i _ _,fun w=>by simp [Builtin.len_,run_underlying hd,goInt]⟩
   ·rename_i n e hkd
    cases h0;rw [hkd] at hk;cases d <;> simp [chkK,nbeq] at hk
    obtain ⟨rfl,rfl⟩:=hk
    exact ⟨_,.i _ _,fun w=>by simp [Builtin.len_,run_underlying hd,goInt]⟩
   ·rename_i hkd
    cases h0;cases hv;rw [hkd] at hk;cases d <;> simp [chkK] at hk
    exact ⟨_,.i _ _,fun w=>by simp [Builtin.len_,run_underlying hd,goInt]⟩
   ·cases h0
  ·cases h
 ·cases h
theorem qCap_ok [Val] (T:TbOk P tb) {ts:Array TypeId} {ty:TypeId} {xs:List AV} {v:Value} {r:AV} (h:qCap tb ts.toList xs=some r) (hx:VRs ρ xs [v]):∃ c,VR ρ r c∧Ans P (Builtin.cap_ ts ty #[v]) c:=by
 unfold qCap at h
 split at h
 ·split at h
  ·rename_i _ t hts
   have hts:=len1 hts
   subst hts
   obtain ⟨i,hi,h0⟩:=tiOf_ok h
   clear h
   obtain ⟨d,hd,hk⟩:=(T.ti _ _ hi).kind
   have hv:=hx.one
   split at h0
   ·rename_i e hkd
    cases h0;cases hv;rw [hkd] at hk;cases d <;> simp [chkK] at hk
    exact ⟨_,.i _ _,fun w=>by simp [Builtin.cap_,run_underlying hd,goInt]⟩
   ·cases h0
  ·cases h
 ·cases h
theorem min_ok [Val] (g:Int→Int→Bool) (f:Value→Value→Sem Value) (hf:∀ k a k' b w,(f (.int k a) (.int k' b)).run P w=.ok (.int k (bif g b a then b else a)) w) :
  ∀ (l:List AV) (x r:AV) (v:Value) (vs:List Value),minI g x l=some r→VR ρ x v→VRs ρ l vs→∃ c,VR ρ r c∧Ans P (vs.foldlM f v) c
 | [],x,r,v,vs,h,hx,hl=>by
  cases hl
  simp [minI] at h
  subst h
  exact ⟨v,hx,fun w=>by simp⟩
 | y :: l,x,r,v,vs,h,hx,hl=>by
  cases hl with
  | cons hy hs =>
   unfold minI at h
   split at h
   ·rename_i he;cases he
   ·rename_i k a k' b r' he
    cases he
    by_cases hk:k=k'
    ·subst hk
     simp only [decide_true,cond_true] at h
     cases hx;cases hy
     obtain ⟨c,hc,hw⟩:=min_ok g f hf l _ r _ _ h (.i k (bif g b a then b else a)) hs
     exact ⟨c,hc,fun w=>by simp [hf,hw w]⟩
    ·simp [hk] at h
   ·cases h
theorem qMin_ok [Val] {ts:Array TypeId} {ty:TypeId} {xs:List AV} {vs:List Value} {r:AV} (h:qMin xs=some r) (hx:VRs ρ xs vs):∃ c,VR ρ r c∧Ans P (Builtin.min_ ts ty vs.toArray) c:=by
 unfold qMin at h
 split at h
 ·obtain ⟨v,ys,rfl,h1,h2⟩:=hx.hd
  obtain ⟨c,hc,hw⟩:=min_ok (P:=P) (fun b a=>!(ile a b)) Builtin.min2 (fun k a k' b w=>by
   rw [ile_eq]
   by_cases e:a≤b
   ·have:¬ b<a:=by omega
    simp [Builtin.min2,e,this]
   ·have:b<a:=by omega
    simp [Builtin.min2,e,this]) _ _ _ _ _ h h1 h2
  exact ⟨c,hc,fun w=>by simp [Builtin.min_];exact hw w⟩
 ·cases h
theorem qMax_ok [Val] {ts:Array TypeId} {ty:TypeId} {xs:List AV} {vs:List Value} {r:AV} (h:qMax xs=some r) (hx:VRs ρ xs vs):∃ c,VR ρ r c∧Ans P (Builtin.max_ ts ty vs.toArray) c:=by
 unfold qMax at h
 split at h
 ·obtain ⟨v,ys,rfl,h1,h2⟩:=hx.hd
  obtain ⟨c,hc,hw⟩:=min_ok (P:=P) (fun b a=>!(ile b a)) Builtin.max2 (fun k a k' b w=>by
   rw [ile_eq]
   by_cases e:b≤a
   ·have:¬ b > a:=by omega
    simp [Builtin.max2,e,this]
   ·have:b > a:=by omega
    simp [Builtin.max2,e,this]) _ _ _ _ _ h h1 h2
  exact ⟨c,hc,fun w=>by simp [Builtin.max_];exact hw w⟩
 ·cases h
theorem run_builtin (ev:Operand→Value) (o:Oper) (c:Call) (b:Builtin) (ho:o.op=.call c) (hc:c.callee=.builtin b) :
  ∃ cs,∀ w,(execOp ev o).run P w=(builtin b c.argTypes o.type cs (c.args.map ev)).run P w:=by
 refine ⟨c.args.map (fun x=>match x with | .const _=>true | _=>false),fun w=>?_⟩
 simp only [execOp,ho,resolve,hc,invoke,Sem.run_bind,Sem.run_pure,Result.andThen_ok]
 rfl
theorem ops_builtin {c:Call} {b:Builtin} (hc:c.callee=.builtin b):c.operands=c.args:=by simp [Call.operands,hc]
theorem qCall_ok [Val] (T:TbOk P tb) {o:Oper} {c:Call} (ho:o.op=.call c) {ev:Operand→Value} {xs:List AV} {r:AV} (h:qCall tb c xs=some r) (hx:VRs ρ xs (c.operands.toList.map ev)):∃ v,VR ρ r v∧AnsN P (execOp ev o) v:=by
 unfold qCall at h
 split at h
 ·rename_i hc
  rw [ops_builtin hc] at hx
  have hl:∃ v,c.args.toList.map ev=[v]:=by
   unfold qLen at h
   split at h
   ·have:=hx.len
    simp at this
    obtain ⟨a,ha⟩:=Array.size_eq_one_iff.1 this.symm
    exact ⟨ev a,by simp [ha]⟩
   ·cases h
  obtain ⟨v,hv⟩:=hl
  rw [hv] at hx
  obtain ⟨u,hu,hw⟩:=qLen_ok (ty:=o.type) T h hx
  refine ⟨u,hu,fun w=>?_⟩
  have e:c.args.map ev = #[v]:=len1 (by simpa using hv)
  obtain ⟨cs,hcs⟩:=run_builtin (P:=P) ev o c _ ho hc
  rw [hcs,e]
  simp [builtin,hw w]
 ·rename_i hc
  rw [ops_builtin hc] at hx
  have hl:∃ v,c.args.toList.map ev=[v]:=by
   unfold qCap at h
   split at h
   ·have:=hx.len
    simp at this
    obtain ⟨a,ha⟩:=Array.size_eq_one_iff.1 this.symm
    exact ⟨ev a,by simp [ha]⟩
   ·cases h
  obtain ⟨v,hv⟩:=hl
  rw [hv] at hx
  obtain ⟨u,hu,hw⟩:=qCap_ok (ty:=o.type) T h hx
  refine ⟨u,hu,fun w=>?_⟩
  have e:c.args.map ev = #[v]:=len1 (by simpa using hv)
  obtain ⟨cs,hcs⟩:=run_builtin (P:=P) ev o c _ ho hc
  rw [hcs,e]
  simp [builtin,hw w]
 ·rename_i hc
  rw [ops_builtin hc] at hx
  obtain ⟨u,hu,hw⟩:=qMin_ok (P:=P) (ts:=c.argTypes) (ty:=o.type) h hx
  refine ⟨u,hu,fun w=>?_⟩
  obtain ⟨cs,hcs⟩:=run_builtin (P:=P) ev o c _ ho hc
  rw [hcs]
  have e:c.args.map ev=(c.args.toList.map ev).toArray:=by apply Array.ext';simp
  rw [e]
  simp only [builtin,Sem.run_bind,hw w,Result.andThen_ok,Sem.run_pure]
 ·rename_i hc
  rw [ops_builtin hc] at hx
  obtain ⟨u,hu,hw⟩:=qMax_ok (P:=P) (ts:=c.argTypes) (ty:=o.type) h hx
  refine ⟨u,hu,fun w=>?_⟩
  obtain ⟨cs,hcs⟩:=run_builtin (P:=P) ev o c _ ho hc
  rw [hcs]
  have e:c.args.map ev=(c.args.toList.map ev).toArray:=by apply Array.ext';simp
  rw [e]
  simp only [builtin,Sem.run_bind,hw w,Result.andThen_ok,Sem.run_pure]
 ·cases h
end
structure TbOk' [Val] (P:Program) (tb:Tb):Prop extends TbOk P tb where
 noth:∀ t i,tb.ti.get t=some i→i.kind≠.oth
section
variable {P:Program} {tb:Tb} {ρ:Env}
theorem ansN {s:Sem Value} {c:Value} (h:Ans P s c):AnsN P (do pure (.value (← s))) c:=fun w=>by simp [h w]
theorem qOne_ok [Val] {xs:List AV} {v:Value} {r:AV} (h:qOne xs=some r) (hx:VRs ρ xs [v]):VR ρ r v:=by
 unfold qOne at h
 split at h
 ·cases h;exact hx.one
 ·cases h
theorem pop_ok [Val] (T:TbOk' P tb) {o:Oper} {ev:Operand→Value} {xs:List AV} {r:AV} (h:pop tb o.op xs=some r) (hx:VRs ρ xs ((opl o.op).map ev)):∃ c,VR ρ r c∧AnsN P (execOp ev o) c:=by
 obtain ⟨dst,op,ty,pos,af,gd⟩:=o
 cases op
 case move x=>exact ⟨ev x,qOne_ok h hx,fun w=>by simp [execOp]⟩
 case assign x=>exact ⟨ev x,qOne_ok h hx,fun w=>by simp [execOp]⟩
 case pick c x y =>
  change qPick xs=some r at h
  unfold qPick at h
  split at h
  ·rename_i b x' y'
   replace hx:VRs ρ [.b b,x',y'] [ev c,ev x,ev y]:=hx
   obtain ⟨v1,ys,e,h1,h2⟩:=hx.hd
   simp only [List.cons.injEq] at e
   obtain ⟨e1,rfl⟩:=e
   obtain ⟨v2,ys,e,h3,h4⟩:=h2.hd
   simp only [List.cons.injEq] at e
   obtain ⟨e2,rfl⟩:=e
   have h5:=h4.one
   cases h
   cases h1
   cases b
   ·exact ⟨ev y,h5,fun w=>by simp [execOp,e1,asBool]⟩
   ·exact ⟨ev x,e2 ▸ h3,fun w=>by simp [execOp,e1,asBool]⟩
  ·cases h
 case build t ps =>
  obtain ⟨c,hc,hw⟩:=qBuild_ok (P:=P) T.toTbOk h hx
  exact ⟨c,hc,ansN hw⟩
 case nilCheck x=>exact qNil_ok (x:=x) T.toTbOk T.noth rfl h hx
 case binOp op t x y u =>
  change qBin tb op t (isC x || isC y) xs=some r at h
  unfold qBin at h
  split at h
  ·rename_i a b
   obtain ⟨v1,ys,e,h1,h2⟩:=hx.hd
   have h3:=h2
   have e':[ev x,ev y]=v1 :: ys:=e
   cases e'
   obtain ⟨c,hc,hw⟩:=binop_ok (P:=P) T.toTbOk h h1 h2.one
   exact ⟨c,hc,ansN hw⟩
  ·cases h
 case unOp op t x =>
  obtain ⟨c,hc,hw⟩:=qUn_ok (P:=P) (t:=t) h hx
  exact ⟨c,hc,ansN hw⟩
 case convert a b x =>
  obtain ⟨c,hc,hw⟩:=qConv_ok (P:=P) T.toTbOk h hx
  exact ⟨c,hc,ansN hw⟩
 case makeInterface t x =>
  obtain ⟨c,hc,hw⟩:=qIfc_ok (P:=P) T.toTbOk h hx
  exact ⟨c,hc,ansN hw⟩
 case makeFunc fn l m =>
  obtain ⟨c,hc,hw⟩:=qFunc_ok (P:=P) h hx
  exact ⟨c,hc,ansN hw⟩
 case fieldAddr t x k =>
  obtain ⟨c,hc,hw⟩:=qFA_ok (P:=P) T.toTbOk h hx
  exact ⟨c,hc,ansN hw⟩
 case field t x k =>
  obtain ⟨c,hc,hw⟩:=qFd_ok (P:=P) T.toTbOk T.noth h hx
  exact ⟨c,hc,ansN hw⟩
 case indexAddr t x y =>
  obtain ⟨c,hc,hw⟩:=qIA_ok (P:=P) T.toTbOk h hx
  exact ⟨c,hc,ansN hw⟩
 case index t x y =>
  obtain ⟨c,hc,hw⟩:=qIx_ok (P:=P) T.toTbOk T.noth h hx
  exact ⟨c,hc,ansN hw⟩
 case slice t x lo hi mx =>
  obtain ⟨c,hc,hw⟩:=qSlice_ok (P:=P) T.toTbOk h hx
  exact ⟨c,hc,ansN hw⟩
 case extract x k =>
  obtain ⟨c,hc,hw⟩:=qExt_ok (P:=P) h hx
  exact ⟨c,hc,ansN hw⟩
 case typeAssert x t a ok =>
  obtain ⟨c,hc,hw⟩:=qTA_ok (P:=P) (xt:=t) T.toTbOk h hx
  exact ⟨c,hc,ansN hw⟩
 case call c=>exact qCall_ok (P:=P) T.toTbOk rfl h hx
 all_goals (change (none:Option AV)=some r at h;cases h)
variable {Pr:Nat→Prop} {w0 w:World} {h:Nat→Option AObj} {nx:Nat}
theorem WR.row [Val] (W:WR Pr w0 ρ h nx w) {id:Nat} {l:List AV} {e sz:Nat} {g:Gr} (hi:h id=some (.row l e sz g)) :
  ∃ b s cs ds,ρ id=some (b,s)∧w.heap[b]? = some (.cells (cs++ds).toArray e (0,0))∧VRs ρ l cs∧ds.length=s * sz∧(∀ a∈l,a.one=true)∧GrOk g s ds:=by
 obtain ⟨b,s,ob,he,_,hb,hor⟩:=W.at_ id _ hi
 cases hor with
 | row h1 h2 h3 h4=>exact ⟨b,s,_,_,he,hb,h1,h2,h3,h4⟩
theorem cell_app {b e:Nat} {cs ds:List Value} {fr:Nat×Nat} (hb:w.heap[b]? = some (.cells (cs++ds).toArray e fr)) {j:Nat} {x:Value} (hx:cs[j]? = some x):w.cell? ⟨b,j,none⟩=some x:=by
 rw [cell_of_row w b j _ _ _ hb]
 have:=(List.getElem?_eq_some_iff.1 hx).1
 simp [List.getElem?_append_left this,hx]
theorem rLoad_ok [Val] (T:TbOk' P tb) {t:Nat} {xs:List AV} {v:Value} {r:AV} {hh:Ex.T AObj} (W:WR Pr w0 ρ hh.get nx w) (hr:rLoad tb t hh xs=some r) (hx:VRs ρ xs [v]):∃ c,VR ρ r c∧(Instr.loadAt t v).run P w=.ok c w:=by
 unfold rLoad at hr
 split at hr
 ·rename_i id off
  have hv:=hx.one
  cases hv with
  | @p _ _ b0 s0 he =>
   split at hr
   ·rename_i l e sz g hrow
    obtain ⟨i,hi,h0⟩:=tiOf_ok hr
    obtain ⟨b,s,cs,ds,he2,hb,hl,hd,h1,hg⟩:=W.row hrow
    rw [he] at he2
    cases he2
    obtain ⟨inf,z,d,g1,g2,g3,g4,g5,g6,g7⟩:=(T.ti _ _ hi).parts
    have hag:=fun w=>run_isAgg (P:=P) g6 g7 (T.noth _ _ hi) w
    cases ha:i.kind.agg with
    | true =>
     simp only [ha,cond_true,nble] at h0
     by_cases hfit:off+i.size≤l.length
     ·simp only [hfit,decide_true,cond_true,Option.some.injEq] at h0
      subst h0
      have hlen:=hl.len
      refine ⟨_,.agg ((hl.drop off).take i.size),?_⟩
      have hrange:w.rangeAt b0 off ((cs.drop off).take i.size):=fun j x hj=>by
       have:cs[off+j]? = some x:=by
        have:=(List.getElem?_eq_some_iff.1 hj).1
        rw [List.getElem?_take] at hj
        split at hj
        ·rwa [List.getElem?_drop] at hj
        ·cases hj
       exact cell_app hb this
      have hrow:d.isRow=true:=by
       cases hkd:i.kind <;> rw [hkd] at g7 ha <;> simp [TK.agg] at ha <;> cases d <;> simp [chkK] at g7 <;> rfl
      exact run_loadAt_mid (P:=P) w b0 off t _ d hrange g6 hrow (by rw [g1];simp [g2];omega)
     ·simp [hfit] at h0
    | false =>
     simp only [ha,cond_false] at h0
     obtain ⟨x,hx,hv⟩:=hl.get h0
     refine ⟨x,hv,?_⟩
     have hc:=cell_app hb hx
     simp [Instr.loadAt,Instr.sureAddr,loadVar,hag w,ha,hc]
   ·cases hr
 ·cases hr
end
end Go.Ex
